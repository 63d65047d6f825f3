/- Regions that draw their order: pure operations and reads are taken first, one at a time; what makes memory is taken when nothing else is ready; a tail is done in order.
   No conditions: over any program that follows the mixed orders. -/
import Derived.Test.YtfnpaglcnmcnbaaGreatFluzRep
set_option linter.unusedVariables false
set_option linter.unusedSimpArgs false
namespace Go.Proofs.YtfnpaglcnmcnbaaGreat
section
variable {P : Program} {S : Nat → Prop} {ops : Array Oper}
def emitV (P : Program) (S : Nat → Prop) (r : Result Next) (w : World) (K : Value → World → Prop) : Prop :=
  match r with
  | .ok (.value v) w' => Chg S w w' ∧ K v w'
  | .ok .skip w' => Chg S w w' ∧ K undef w'
  | .ok (.enter f args) w' => Chg S w w' ∧ Calls P f args w' (fun x w'' => ∃ v, x = .returned v ∧ Chg S w' w'' ∧ K v w'')
  | _ => False
theorem emitV_mono {r : Result Next} {w : World} {K K' : Value → World → Prop} (h : ∀ v w', Chg S w w' → K v w' → K' v w') (hh : emitV P S r w K) : emitV P S r w K' := by
  unfold emitV at *
  cases r with
  | ok nx w' =>
    cases nx <;> simp only [] at hh ⊢
    case value v => exact ⟨hh.1, h _ _ hh.1 hh.2⟩
    case skip => exact ⟨hh.1, h _ _ hh.1 hh.2⟩
    case enter f args => exact ⟨hh.1, hh.2.mono fun x w'' ⟨v, hx, he, hk⟩ => ⟨v, hx, he, h _ _ (hh.1.trans he) hk⟩⟩
  | halt x w' => exact hh
def gOp (P : Program) (S : Nat → Prop) (ops : Array Oper) (i : Nat) (K : Act → World → Prop) (a : Act) (w : World) : Prop :=
  match ops[i]? with
  | none => K a w
  | some o => if Region.wanted o (yielded ops a.tmps) then emitV P S ((execOp a.eval o).run P w) w (fun v w' => K (a.put o.dst v) w') else K (a.put o.dst undef) w
theorem gOp_mono {i : Nat} {a : Act} {w : World} {K K' : Act → World → Prop} (h : ∀ a' w', Chg S w w' → K a' w' → K' a' w') (hh : gOp P S ops i K a w) : gOp P S ops i K' a w := by
  unfold gOp at *
  split
  · rename_i ho; simp only [ho] at hh; exact h _ _ (Chg.refl S _) hh
  · rename_i o ho
    simp only [ho] at hh
    split
    · rename_i hw; simp only [hw, if_true] at hh; exact emitV_mono (fun v w' hx hk => h _ _ hx hk) hh
    · rename_i hw; simp only [hw] at hh; exact h _ _ (Chg.refl S _) hh
theorem emitV_sub {r : Result Next} {w : World} {K : Value → World → Prop} (hh : emitV P nil r w K) : emitV P S r w K := by
  unfold emitV at *
  cases r with
  | ok nx w' =>
    cases nx <;> simp only [] at hh ⊢
    case value v => exact ⟨Ext.chg hh.1, hh.2⟩
    case skip => exact ⟨Ext.chg hh.1, hh.2⟩
    case enter f args => exact ⟨Ext.chg hh.1, hh.2.mono fun x w'' ⟨v, hx, he, hk⟩ => ⟨v, hx, Ext.chg he, hk⟩⟩
  | halt x w' => exact hh
def gAny (P : Program) (S : Nat → Prop) (ops : Array Oper) (m : Nat) (L : Array Bool → Act → World → Prop) : Nat → Array Bool → Act → World → Prop
  | 0, listed, a, w => ∀ w1, Ext w w1 → L listed a w1
  | f + 1, listed, a, w =>
    Region.ready .any ops listed ≠ [] ∧ ∀ w1, Ext w w1 → ∀ i ∈ Region.ready .any ops listed, i < m ∧ gOp P S ops i (gAny P S ops m L f (listed.setIfInBounds i true)) a w1
theorem gAny_ext {m f : Nat} {L : Array Bool → Act → World → Prop} {listed : Array Bool} {a : Act} {w w1 : World} (hx : Ext w w1) (h : gAny P S ops m L f listed a w) : gAny P S ops m L f listed a w1 := by
  cases f with
  | zero => exact fun w2 h2 => h w2 (hx.trans h2)
  | succ f => exact ⟨h.1, fun w2 h2 => h.2 w2 (hx.trans h2)⟩
def YieldsG (P : Program) (S : Nat → Prop) (ops : Array Oper) (w : World) (o : Oper) (v : Value) (a : Act) : Prop :=
  (Region.wanted o (yielded ops a.tmps) = true ∧ ∀ w1, Chg S w w1 → emitV P nil ((execOp a.eval o).run P w1) w1 (fun u _ => u = v)) ∨
  (Region.wanted o (yielded ops a.tmps) = false ∧ v = undef)
theorem YieldsG.ext {w w1 : World} {o : Oper} {v : Value} {a : Act} (hx : Chg S w w1) (h : YieldsG P S ops w o v a) : YieldsG P S ops w1 o v a :=
  h.imp (fun h => ⟨h.1, fun w2 h2 => h.2 w2 (hx.trans h2)⟩) id
theorem YieldsG.of_same {w : World} {o : Oper} {v : Value} {a a' : Act} (hy : YieldsG P S ops w o v a) (he : execOp a'.eval o = execOp a.eval o)
    (hw : Region.wanted o (yielded ops a'.tmps) = Region.wanted o (yielded ops a.tmps)) : YieldsG P S ops w o v a' := by
  unfold YieldsG at *
  rw [he, hw]
  exact hy
theorem YieldsG.op {i : Nat} {o : Oper} {v : Value} {a : Act} {w : World} (hi : ops[i]? = some o) (hy : YieldsG P S ops w o v a) {K : Act → World → Prop}
    (h : ∀ w', Ext w w' → K (a.put o.dst v) w') : gOp P S ops i K a w := by
  unfold gOp
  simp only [hi]
  rcases hy with ⟨hw, hv⟩ | ⟨hw, rfl⟩
  · simp only [hw, if_true]; exact emitV_sub (emitV_mono (fun u w' hx ha => by rw [ha]; exact h w' hx) (hv w (Chg.refl S _)))
  · simp only [hw, Bool.false_eq_true, if_false]; exact h w (Ext.refl _)
theorem gOp_put {j : Nat} {oi oj : Oper} {v : Value} {w : World} (hj : ops[j]? = some oj) (hap : oi.apart ops oj = true)
    (hsi : ∀ cs b, oi.op ≠ .select cs b) (hsj : ∀ cs b, oj.op ≠ .select cs b) {K : Act → World → Prop} {a : Act}
    (hy : YieldsG P S ops w oi v a) (h : gOp P S ops j K (a.put oi.dst v) w) :
    gOp P S ops j (fun a' w' => YieldsG P S ops w' oi v a' ∧ K (a'.put oi.dst v) w') a w := by
  obtain ⟨h1, h2, h3⟩ := Oper.apart_spec hap
  have keep : ∀ (w' : World) (u : Value), Chg S w w' → YieldsG P S ops w' oi v (a.put oj.dst u) := fun w' u hx =>
    (hy.ext hx).of_same (execOp_put oi hsi a oj.dst u h3) (wanted_put oi a oj.dst u h3)
  unfold gOp at *
  simp only [hj] at *
  rw [wanted_put oj a oi.dst v h1, execOp_put oj hsj a oi.dst v h1] at h
  split
  · rename_i hw
    simp only [hw, if_true] at h
    exact emitV_mono (fun u w' hx hk => ⟨keep w' u hx, by rw [← Act.put_comm a v u h2]; exact hk⟩) h
  · rename_i hw
    simp only [hw] at h
    exact ⟨keep w undef (Chg.refl S _), by rw [← Act.put_comm a v undef h2]; exact h⟩
theorem gAny_first {m i : Nat} {oi : Oper} {v : Value} {L : Array Bool → Act → World → Prop} (hi : ops[i]? = some oi) (hsel : ∀ (j : Nat) (o : Oper) cs b, ops[j]? = some o → o.op ≠ .select cs b)
    (him : i < m) (htail : ∀ listed, HeadInv .any ops m listed → listed.getD i true = false → ∀ t, m ≤ t → t ∉ Region.ready .any ops listed)
    (hdone : ∀ listed a w, L listed a w → ∀ j ∈ Region.ready .any ops listed, m ≤ j) :
    ∀ (f : Nat) (listed : Array Bool) (a : Act) (w : World), HeadInv .any ops m listed →
      (∀ j oj, ops[j]? = some oj → j ≠ i → listed.getD j true = false → (∀ e ∈ oj.after, Region.binds .any e = true → e.on ≠ i) → oi.apart ops oj = true) →
      i ∈ Region.ready .any ops listed → YieldsG P S ops w oi v a →
      gAny P S ops m L f (listed.setIfInBounds i true) (a.put oi.dst v) w → gAny P S ops m L (f + 1) listed a w := by
  intro f
  induction f with
  | zero =>
    intro listed a w inv _ hr hy H
    have hun := (mem_ready.1 hr).1
    refine ⟨fun h => (by rw [h] at hr; cases hr), fun w1 hx j hj => ?_⟩
    have hjm : j < m := by
      rcases Nat.lt_or_ge j m with h | h
      · exact h
      · exact absurd hj (htail listed inv hun j h)
    refine ⟨hjm, ?_⟩
    by_cases hji : j = i
    · subst hji; exact (hy.ext (Ext.chg hx)).op hi fun w' hx' => gAny_ext (hx.trans hx') H
    · have := hdone _ _ _ (H w (Ext.refl _)) j (ready_mono hj hji)
      omega
  | succ f ih =>
    intro listed a w inv hfree hr hy H
    have hun := (mem_ready.1 hr).1
    refine ⟨fun h => (by rw [h] at hr; cases hr), fun w1 hx j hj => ?_⟩
    have hjm : j < m := by
      rcases Nat.lt_or_ge j m with h | h
      · exact h
      · exact absurd hj (htail listed inv hun j h)
    refine ⟨hjm, ?_⟩
    by_cases hji : j = i
    · subst hji; exact (hy.ext (Ext.chg hx)).op hi fun w' hx' => gAny_ext (hx.trans hx') H
    · have h1 := (H.2 w1 hx j (ready_mono hj hji)).2
      obtain ⟨hjun, oj, hoj, hall⟩ := mem_ready.1 hj
      have hnot : ∀ e ∈ oj.after, Region.binds .any e = true → e.on ≠ i := fun e he hb heq => by
        have h1 := hall e he hb
        rw [heq, getD_both hun] at h1
        cases h1
      have h2 := gOp_put hoj (hfree j oj hoj hji hjun hnot) (fun cs b => hsel i oi cs b hi) (fun cs b => hsel j oj cs b hoj) (hy.ext (Ext.chg hx)) h1
      have hfree' : ∀ k ok, ops[k]? = some ok → k ≠ i → (listed.setIfInBounds j true).getD k true = false →
          (∀ e ∈ ok.after, Region.binds .any e = true → e.on ≠ i) → oi.apart ops ok = true := fun k ok hk hki hun hno => by
        refine hfree k ok hk hki ?_ hno
        by_cases hjk : j = k
        · subst hjk; exact hjun
        · rw [getD_set_ne true hjk] at hun; exact hun
      refine gOp_mono (fun a' w' _ h3 => ih (listed.setIfInBounds j true) a' w' (inv.set hj hjm) hfree' (ready_mono hr (Ne.symm hji)) h3.1 ?_) h2
      rw [Array.setIfInBounds_comm _ _ hji]
      exact h3.2
theorem wpOp_of_gOp {Q : Exit → Act → World → Prop} {i : Nat} {a : Act} {w : World} {K K' : Act → World → Prop} (h : ∀ a' w', K a' w' → K' a' w') (hh : gOp P S ops i K a w) : wpOp P ops Q i K' a w := by
  unfold gOp at hh
  unfold wpOp
  split
  · rename_i ho; simp only [ho] at hh; exact h _ _ hh
  · rename_i o ho
    simp only [ho] at hh
    split
    · rename_i hw
      simp only [hw, if_true] at hh
      refine .inl ?_
      unfold Oper.wp
      unfold emitV at hh
      generalize (execOp a.eval o).run P w = r at *
      cases r with
      | ok nx w' =>
        cases nx <;> simp only [] at hh <;> simp only [Oper.upon]
        case value v => exact h _ _ hh.2
        case skip => exact h _ _ hh.2
        case enter f args =>
          refine hh.2.mono fun x w'' ⟨v, hx, _, hk⟩ => ?_
          subst hx
          exact h _ _ hk
      | halt x w' => exact hh.elim
    · rename_i hw; simp only [hw] at hh; exact h _ _ hh
theorem wpAny_of_gAny {m g : Nat} {L : Array Bool → Act → World → Prop} {Q : Exit → Act → World → Prop} (hL : ∀ listed a w, L listed a w → wpAny P .any ops Q g listed a w) :
    ∀ (f : Nat) (listed : Array Bool) (a : Act) (w : World), gAny P S ops m L f listed a w → wpAny P .any ops Q (f + g) listed a w
  | 0, listed, a, w, h => by rw [Nat.zero_add]; exact hL _ _ _ (h w (Ext.refl _))
  | f + 1, listed, a, w, h => by
    rw [show f + 1 + g = (f + g) + 1 by omega]
    exact ⟨fun h0 => absurd h0 h.1, fun i hi => wpOp_of_gOp (fun a' w' h' => wpAny_of_gAny hL f _ a' w' h') (h.2 w (Ext.refl _) i hi).2⟩
def lst (n : Nat) (l : List Nat) : Array Bool := l.foldr (fun i a => a.setIfInBounds i true) (Array.replicate n false)
def fin (ops : Array Oper) (m : Nat) : Array Bool := lst ops.size (List.range m).reverse
def tailB (ops : Array Oper) (m : Nat) : Bool :=
  Nat.beq m ops.size || (Nat.blt m ops.size && Region.sinkB .any ops m && Region.chainB .any ops m)
def drawB (ops : Array Oper) (m : Nat) : Bool :=
  Nat.ble m ops.size && Region.noSelect ops && tailB ops m && Region.seqB .any ops (ops.size - m) m (fin ops m)
def GA (P : Program) (S : Nat → Prop) (n m : Nat) (L : Env → World → Prop) (ops : Array Oper) (l : List Nat) (e : Env) (w : World) : Prop :=
  drawB ops m = true → ∀ f a, f + l.length = m → Sees n a e → HeadInv .any ops m (lst ops.size l) →
    gAny P S ops m (fun listed a' w' => listed = fin ops m ∧ ∃ e', Sees n a' e' ∧ L e' w') f (lst ops.size l) a w
def stepB (n m : Nat) (ops : Array Oper) (l : List Nat) (i : Nat) : Bool :=
  Nat.blt l.length m && Nat.blt i m && okAt n ops i && (Region.ready .any ops (lst ops.size l)).contains i
end
section
variable {P : Program} {S : Nat → Prop} {n m : Nat} {L : Env → World → Prop} {ops : Array Oper} {l : List Nat} {e : Env} {w : World}
theorem drawB_spec (h : drawB ops m = true) : m ≤ ops.size ∧ Region.noSelect ops = true ∧ tailB ops m = true ∧ Region.seqB .any ops (ops.size - m) m (fin ops m) = true := by
  simp only [drawB, Bool.and_eq_true] at h
  exact ⟨Nat.le_of_ble_eq_true h.1.1.1, h.1.1.2, h.1.2, h.2⟩
theorem tailB_spec (h : tailB ops m = true) (listed : Array Bool) (inv : HeadInv .any ops m listed) {i : Nat} (him : i < m) (hun : listed.getD i true = false) : ∀ t, m ≤ t → t ∉ Region.ready .any ops listed := by
  intro t ht hr
  simp only [tailB, Bool.or_eq_true, Bool.and_eq_true] at h
  rcases h with h | ⟨⟨h1, h2⟩, h3⟩
  · have := Nat.eq_of_beq_eq_true h
    obtain ⟨_, ot, hot, _⟩ := mem_ready.1 hr
    have := (Array.getElem?_eq_some_iff.1 hot).1
    omega
  · have hn := Nat.le_of_ble_eq_true h1
    exact tail_waits h2 h3 (by omega) inv _ i rfl him hun t ht hr
theorem stepB_spec {i : Nat} (h : stepB n m ops l i = true) : l.length < m ∧ i < m ∧ okD n (opAt ops i).dst = true ∧ ops[i]? = some (opAt ops i) ∧ i ∈ Region.ready .any ops (lst ops.size l) := by
  simp only [stepB, Bool.and_eq_true] at h
  obtain ⟨⟨⟨h1, h2⟩, h3⟩, h4⟩ := h
  have h1' := Nat.le_of_ble_eq_true h1
  have h2' := Nat.le_of_ble_eq_true h2
  obtain ⟨hlt, hd⟩ := okAt_lt h3
  refine ⟨by omega, by omega, hd, ?_, by simpa using h4⟩
  have : i < ops.size := by simpa using hlt
  simp [opAt, this]
theorem lst_cons (i : Nat) : lst n (i :: l) = (lst n l).setIfInBounds i true := rfl
theorem GA.first {i : Nat} {v : Value} (h : stepB n m ops l i = true) (hfree : Region.free .any ops (lst ops.size l) i = true)
    (hy : (wantE ops (opAt ops i) e = true ∧ ∀ w1, Chg S w w1 → emitV P nil ((execOp (ev e) (opAt ops i)).run P w1) w1 (fun u _ => u = v)) ∨ (wantE ops (opAt ops i) e = false ∧ v = undef))
    (H : GA P S n m L ops (i :: l) (putE e (opAt ops i).dst v) w) : GA P S n m L ops l e w := by
  intro hB f a hf ha inv
  obtain ⟨hlm, him, hd, hi, hr⟩ := stepB_spec h
  obtain ⟨hm, hsel, htl, hseq⟩ := drawB_spec hB
  obtain ⟨f, rfl⟩ : ∃ g, f = g + 1 := ⟨f - 1, by omega⟩
  refine gAny_first (i := i) (oi := opAt ops i) (v := v) hi (Region.noSelect_spec hsel) him (fun listed hinv hun => tailB_spec htl listed hinv him hun) ?_ f _ a w inv (Region.free_spec hi hfree) hr ?_ ?_
  · rintro listed a' w' ⟨rfl, _⟩ j hj
    exact seqB_ready hseq j hj
  · unfold YieldsG
    rw [ha.want, ha.eval]
    exact hy
  · have := H hB f (a.put (opAt ops i).dst v) (by simp only [List.length_cons]; omega) (ha.putO hd v) (by rw [lst_cons]; exact inv.set hr him)
    rwa [lst_cons] at this
theorem GA.pure {i : Nat} (h : (stepB n m ops l i && Region.free .any ops (lst ops.size l) i && stepOk P n ops i e) = true) (H : GA P S n m L ops (i :: l) (stepE P ops i e) w) : GA P S n m L ops l e w := by
  simp only [Bool.and_eq_true] at h
  obtain ⟨⟨h1, h2⟩, h3⟩ := h
  simp only [stepOk, Bool.and_eq_true] at h3
  unfold stepE at H
  cases hw : wantE ops (opAt ops i) e with
  | true =>
    simp only [hw, cond_true] at h3 H
    refine GA.first h1 h2 (.inl ⟨hw, fun w1 _ => ?_⟩) H
    rw [isVal_run h3.2 w1]
    exact ⟨Ext.refl _, rfl⟩
  | false =>
    simp only [hw, cond_false] at h3 H
    exact GA.first h1 h2 (.inr ⟨hw, rfl⟩) H
def gRunE (P : Program) (ops : Array Oper) : List Nat → Env → Env
  | [], e => e
  | i :: is, e => gRunE P ops is (stepE P ops i e)
def gRunOk (P : Program) (n m : Nat) (ops : Array Oper) : List Nat → List Nat → Env → Bool
  | [], _, _ => true
  | i :: is, l, e => stepB n m ops l i && Region.free .any ops (lst ops.size l) i && stepOk P n ops i e && gRunOk P n m ops is (i :: l) (stepE P ops i e)
theorem GA.run (is : List Nat) (h : gRunOk P n m ops is l e = true) (H : GA P S n m L ops (is.reverse ++ l) (gRunE P ops is e) w) : GA P S n m L ops l e w := by
  induction is generalizing l e with
  | nil => exact H
  | cons i is ih =>
    simp only [gRunOk, Bool.and_eq_true] at h
    refine GA.pure (by simp only [Bool.and_eq_true]; exact h.1) (ih h.2 ?_)
    simpa [gRunE] using H
def gPv (P : Program) (n m : Nat) (ops : Array Oper) (l : List Nat) (i : Nat) (e : Env) : Option Value :=
  bif stepB n m ops l i && Region.free .any ops (lst ops.size l) i then pvAt P n ops i e else none
theorem GA.eqv {i : Nat} {v v' : Value} (h : gPv P n m ops l i e = some v') (hv : v' = v) (H : GA P S n m L ops (i :: l) (putE e (opAt ops i).dst v) w) : GA P S n m L ops l e w := by
  subst hv
  unfold gPv at h
  cases hs : stepB n m ops l i && Region.free .any ops (lst ops.size l) i with
  | false => simp [hs] at h
  | true =>
    simp only [hs, cond_true] at h
    simp only [Bool.and_eq_true] at hs
    unfold pvAt at h
    cases hg : goAt n ops i e with
    | false => simp [hg] at h
    | true =>
      cases hi : isVal P (opAt ops i) e with
      | false => simp [hg, hi] at h
      | true =>
        simp only [hg, hi, cond_true, Option.some.injEq] at h
        simp only [goAt, Bool.and_eq_true] at hg
        refine GA.first hs.1 hs.2 (.inl ⟨hg.2, fun w1 _ => ?_⟩) H
        rw [isVal_run hi w1]
        exact ⟨Ext.refl _, h⟩
theorem GA.bool {i : Nat} (b : Bool) (h : gPv P n m ops l i e = some (.bool b)) (ht : b = true → GA P S n m L ops (i :: l) (putE e (opAt ops i).dst (.bool true)) w)
    (hf : b = false → GA P S n m L ops (i :: l) (putE e (opAt ops i).dst (.bool false)) w) : GA P S n m L ops l e w := by
  refine GA.eqv h rfl ?_
  cases b with
  | true => exact ht rfl
  | false => exact hf rfl
theorem GA.boolP {i : Nat} (p : Prop) [Decidable p] (h : gPv P n m ops l i e = some (.bool (decide p))) (ht : p → GA P S n m L ops (i :: l) (putE e (opAt ops i).dst (.bool true)) w)
    (hf : ¬ p → GA P S n m L ops (i :: l) (putE e (opAt ops i).dst (.bool false)) w) : GA P S n m L ops l e w :=
  GA.bool _ h (fun hb => ht (of_decide_eq_true hb)) (fun hb => hf (of_decide_eq_false hb))
theorem GA.int {i : Nat} (z : Int) (h : gPv P n m ops l i e = some (.int .i64 (IntKind.i64.wrap z))) (hz : -9223372036854775808 ≤ z ∧ z ≤ 9223372036854775807)
    (H : GA P S n m L ops (i :: l) (putE e (opAt ops i).dst (.int .i64 z)) w) : GA P S n m L ops l e w :=
  GA.eqv h (by rw [IntWalk.i64_in z hz]) H
theorem GA.det {i : Nat} {v : Value} (h : (stepB n m ops l i && Region.free .any ops (lst ops.size l) i && goAt n ops i e) = true)
    (hy : ∀ w1, Chg S w w1 → (execOp (ev e) (opAt ops i)).run P w1 = .ok (.value v) w1) (H : GA P S n m L ops (i :: l) (putE e (opAt ops i).dst v) w) : GA P S n m L ops l e w := by
  simp only [Bool.and_eq_true, goAt] at h
  refine GA.first h.1.1 h.1.2 (.inl ⟨h.2.2, fun w1 hx => ?_⟩) H
  rw [hy w1 hx]
  exact ⟨Ext.refl _, rfl⟩
def gLoad (n m : Nat) (ops : Array Oper) (l : List Nat) (i : Nat) (e : Env) : Option (TypeId × Addr) :=
  bif stepB n m ops l i && Region.free .any ops (lst ops.size l) i then loadAt n ops i e else none
theorem run_load {P : Program} {j : Nat} {t : TypeId} {a : Addr} {v : Value} {w' : World} (h : loadAt n ops j e = some (t, a)) (hv : (loadVar t a).run P w = .ok v w') : goAt n ops j e = true ∧ (execOp (ev e) (opAt ops j)).run P w = .ok (.value v) w' := by
  obtain ⟨hg, h⟩ := goAt_of h
  refine ⟨hg, ?_⟩
  split at h
  · rename_i t' x hop
    split at h
    · rename_i a' hx
      simp only [Option.some.injEq, Prod.mk.injEq] at h
      obtain ⟨rfl, rfl⟩ := h
      simp only [execOp, hop, hx]
      exact run_bind_ok hv
    · cases h
  · cases h
theorem GA.load {i : Nat} {t : TypeId} {a : Addr} {v : Value} (h : gLoad n m ops l i e = some (t, a)) (hv : ∀ w1, Chg S w w1 → (loadVar t a).run P w1 = .ok v w1)
    (H : GA P S n m L ops (i :: l) (putE e (opAt ops i).dst v) w) : GA P S n m L ops l e w := by
  unfold gLoad at h
  cases hs : stepB n m ops l i && Region.free .any ops (lst ops.size l) i with
  | false => simp [hs] at h
  | true =>
    simp only [hs, cond_true] at h
    have hg := (run_load h (hv w (Chg.refl S _))).1
    exact GA.det (by rw [hs, hg]; rfl) (fun w1 hx => (run_load h (hv w1 hx)).2) H
theorem GA.loadH {i : Nat} {t' : TypeId} {b o : Nat} {cs : List Value} (k : Nat) {v : Value} (hc : Has w ⟨b, o, none⟩ cs) (hS : ¬ S b) (h : gLoad n m ops l i e = some (t', ⟨b, o + k, none⟩)) (hs : scalarB P t' = true) (hv : cs[k]? = some v)
    (H : GA P S n m L ops (i :: l) (putE e (opAt ops i).dst v) w) : GA P S n m L ops l e w :=
  GA.load h (fun _ hx => (hc.chg hx hS).loadAt k hs hv) H
theorem GA.loadHN {i : Nat} {t' : TypeId} {b o : Nat} {cs : List Value} (k : Nat) (vs : List Value) (hc : Has w ⟨b, o, none⟩ cs) (hS : ¬ S b) (h : gLoad n m ops l i e = some (t', ⟨b, o + k, none⟩)) (hs : aggB P t' vs.length = true) (hv : (cs.drop k).take vs.length = vs)
    (H : GA P S n m L ops (i :: l) (putE e (opAt ops i).dst (.agg vs.toArray)) w) : GA P S n m L ops l e w :=
  GA.load h (fun _ hx => (hc.chg hx hS).loadNAt k vs hs hv) H
theorem GA.loadB {i : Nat} {t t' : TypeId} {b o : Nat} {cs : List Value} {v : Value} (hb : Box w b t cs) (hS : ¬ S b) (h : gLoad n m ops l i e = some (t', ⟨b, o, none⟩)) (hs : scalarB P t' = true) (hv : cs[o]? = some v)
    (H : GA P S n m L ops (i :: l) (putE e (opAt ops i).dst v) w) : GA P S n m L ops l e w :=
  GA.load h (fun _ hx => by
    have := ((hb.chg hx hS).has 0 cs (by simp)).loadAt (P := P) o hs hv
    rwa [Nat.zero_add] at this) H
theorem GA.loadBN {i : Nat} {t t' : TypeId} {b o : Nat} {cs : List Value} (vs : List Value) (hb : Box w b t cs) (hS : ¬ S b) (h : gLoad n m ops l i e = some (t', ⟨b, o, none⟩)) (hs : aggB P t' vs.length = true) (hv : (cs.drop o).take vs.length = vs)
    (H : GA P S n m L ops (i :: l) (putE e (opAt ops i).dst (.agg vs.toArray)) w) : GA P S n m L ops l e w :=
  GA.load h (fun _ hx => ((hb.chg hx hS).has o vs hv).loadN hs) H
def gIdx (P : Program) (n m : Nat) (ops : Array Oper) (l : List Nat) (i : Nat) (e : Env) : Option (Option Addr × Nat × Int × Nat) :=
  bif stepB n m ops l i && Region.free .any ops (lst ops.size l) i then idxAt P n ops i e else none
theorem GA.idx {i : Nat} {a : Option Addr} {len : Nat} {z : Int} {sz b o : Nat} (i' : Nat) (h : gIdx P n m ops l i e = some (a, len, z, sz)) (hi : z = (i' : Int)) (hlt : i' < len) (ha : a = some ⟨b, o, none⟩)
    (H : GA P S n m L ops (i :: l) (putE e (opAt ops i).dst (.pointer (some ⟨b, o + i' * sz, none⟩))) w) : GA P S n m L ops l e w := by
  unfold gIdx at h
  cases hs : stepB n m ops l i && Region.free .any ops (lst ops.size l) i with
  | false => simp [hs] at h
  | true =>
    simp only [hs, cond_true] at h
    exact GA.det (by rw [hs, (run_idx h hi hlt ha w).1]; rfl) (fun w1 _ => (run_idx h hi hlt ha w1).2) H
theorem GA.eqI {i : Nat} {a b : Int} (h : gPv P n m ops l i e = some (.bool (a == b))) (ht : a = b → GA P S n m L ops (i :: l) (putE e (opAt ops i).dst (.bool true)) w)
    (hf : a ≠ b → GA P S n m L ops (i :: l) (putE e (opAt ops i).dst (.bool false)) w) : GA P S n m L ops l e w :=
  GA.bool _ h (fun hb => ht (by simpa using hb)) (fun hb => hf (by simpa using hb))
theorem GA.neI {i : Nat} {a b : Int} (h : gPv P n m ops l i e = some (.bool (a != b))) (ht : a ≠ b → GA P S n m L ops (i :: l) (putE e (opAt ops i).dst (.bool true)) w)
    (hf : a = b → GA P S n m L ops (i :: l) (putE e (opAt ops i).dst (.bool false)) w) : GA P S n m L ops l e w :=
  GA.bool _ h (fun hb => ht (by simpa using hb)) (fun hb => hf (by simpa using hb))
def gCall (P : Program) (n m : Nat) (ops : Array Oper) (l : List Nat) (i : Nat) (e : Env) : Option (FuncId × List Value) :=
  bif stepB n m ops l i && Region.free .any ops (lst ops.size l) i then callAt P n ops i e else none
theorem run_call {j : Nat} {f : FuncId} {args : List Value} (h : callAt P n ops j e = some (f, args)) (w : World) : goAt n ops j e = true ∧ (execOp (ev e) (opAt ops j)).run P w = .ok (.enter f args.toArray) w := by
  obtain ⟨hg, h⟩ := goAt_of h
  refine ⟨hg, ?_⟩
  split at h
  · rename_i c hop
    split at h
    · rename_i fo hcal
      split at h
      · rename_i g first cap hf
        split at h
        · rename_i fn hfn
          cases hb : fn.body.isSome && !(fn.name == "runtime.NumGoroutine") with
          | false => simp [hb] at h
          | true =>
            simp only [hb, cond_true, Option.some.injEq, Prod.mk.injEq] at h
            obtain ⟨rfl, rfl⟩ := h
            simp only [Bool.and_eq_true, Bool.not_eq_true'] at hb
            have hbn : ¬ fn.body = none := by cases hx : fn.body <;> simp [hx] at hb ⊢
            have hargs : (first.toList ++ (c.args.toList.map (ev e)) ++ cap.toList).toArray = (first ++ c.args.map (ev e)) ++ cap := by
              apply Array.toList_inj.1; simp
            rw [hargs]
            have hne : fn.name ≠ "runtime.NumGoroutine" := by simpa using hb.2
            simp only [execOp, hop, resolve, hcal, hf, Deferred.ofValue]
            simp [invoke, callFunc, hfn, hne, hbn, go_sem]
        · cases h
      · cases h
    · cases h
  · cases h
theorem GA.call1 {i : Nat} {f : FuncId} {args : List Value} {v : Value} (h : gCall P n m ops l i e = some (f, args))
    (hc : ∀ w1, Chg S w w1 → Calls P f args.toArray w1 (rets fun u w2 => u = v ∧ Ext w1 w2)) (H : GA P S n m L ops (i :: l) (putE e (opAt ops i).dst v) w) : GA P S n m L ops l e w := by
  unfold gCall at h
  cases hs : stepB n m ops l i && Region.free .any ops (lst ops.size l) i with
  | false => simp [hs] at h
  | true =>
    simp only [hs, cond_true] at h
    simp only [Bool.and_eq_true] at hs
    have hg := (run_call h w).1
    simp only [goAt, Bool.and_eq_true] at hg
    refine GA.first hs.1 hs.2 (.inl ⟨hg.2, fun w1 hx => ?_⟩) H
    rw [(run_call h w1).2]
    exact ⟨Ext.refl _, (hc w1 hx).mono fun x w2 ⟨u, hxu, hu, hx2⟩ => ⟨u, hxu, hx2, hu⟩⟩
def oneB (n m : Nat) (ops : Array Oper) (l : List Nat) (i : Nat) (e : Env) : Bool :=
  stepB n m ops l i && goAt n ops i e && (match Region.ready .any ops (lst ops.size l) with | [j] => Nat.beq j i | _ => false)
theorem GA.one {i : Nat} (h : oneB n m ops l i e = true) (H : ∀ w1, Ext w w1 → emitV P S ((execOp (ev e) (opAt ops i)).run P w1) w1 (fun v w2 => GA P S n m L ops (i :: l) (putE e (opAt ops i).dst v) w2)) : GA P S n m L ops l e w := by
  intro hB f a hf ha inv
  simp only [oneB, Bool.and_eq_true] at h
  obtain ⟨⟨h1, h2⟩, h3⟩ := h
  obtain ⟨hlm, him, hd, hi, hr⟩ := stepB_spec h1
  obtain ⟨f, rfl⟩ : ∃ g, f = g + 1 := ⟨f - 1, by omega⟩
  have hready : Region.ready .any ops (lst ops.size l) = [i] := by
    split at h3
    · rename_i j hj
      rw [hj, Nat.eq_of_beq_eq_true h3]
    · cases h3
  refine ⟨by rw [hready]; simp, fun w1 hx j hj => ?_⟩
  have hji : j = i := by rw [hready] at hj; simpa using hj
  subst hji
  refine ⟨him, ?_⟩
  simp only [goAt, Bool.and_eq_true] at h2
  unfold gOp
  simp only [hi]
  rw [ha.want, h2.2, if_pos rfl, ha.eval]
  refine emitV_mono (fun v w2 _ hk => ?_) (H w1 hx)
  have := hk hB f (a.put (opAt ops j).dst v) (by simp only [List.length_cons]; omega) (ha.putO hd v) (by rw [lst_cons]; exact inv.set hr him)
  rwa [lst_cons] at this
theorem GA.done (h : (Nat.beq l.length m && decide (lst ops.size l = fin ops m)) = true) (H : ∀ w1, Ext w w1 → L e w1) : GA P S n m L ops l e w := by
  intro hB f a hf ha inv
  simp only [Bool.and_eq_true, decide_eq_true_eq] at h
  have := Nat.eq_of_beq_eq_true h.1
  obtain rfl : f = 0 := by omega
  exact fun w1 hx => ⟨h.2, e, ha, H w1 hx⟩
end
section
variable {P : Program} {f : FuncId} {fn : Func} {R : Value → World → Prop} {c : Code} {k : List Item} {e : Env} {w : World}
theorem T.regionD (S : Nat → Prop) (m : Nat) (h : (isReg c true && P.follows .mixedOrders && drawB (opsC c) m) = true)
    (H : ∀ w1, Ext w w1 → GA P S fn.ntmps m (fun e' w' => RG P fn.ntmps (fun e'' w'' => T P f fn R k e'' w'') (opsC c) m e' w') (opsC c) [] e w1) : T P f fn R (.code c :: k) e w := by
  simp only [Bool.and_eq_true] at h
  obtain ⟨⟨hc, hm⟩, hB⟩ := h
  cases c <;> simp [isReg] at hc
  rename_i id ops d
  subst hc
  simp only [opsC] at hB H
  obtain ⟨hle, hsel, htl, hseq⟩ := drawB_spec hB
  intro b a cs h1 h2 h3
  have hwp : (Code.region id ops true).wp P (fun x a' w' => x = .normal ∧ ∃ e', Sees fn.ntmps a' e' ∧ T P f fn R k e' w') a w := by
    refine wp_region_any hm ?_
    have hinv : HeadInv .any ops m (lst ops.size []) :=
      ⟨by simp [lst], fun j oj _ hl => (by simp only [lst, List.foldr_nil] at hl; rw [getD_replicate_false] at hl; cases hl), fun t _ ht => getD_in (by simpa [lst] using ht) (getD_replicate_false _ _)⟩
    have hg := H { w with drawn := w.drawn + 1 } (Ext.drew w) hB m a (by simp) h3 hinv
    have := wpAny_of_gAny (g := ops.size - m) (Q := fun x a' w' => x = .normal ∧ ∃ e', Sees fn.ntmps a' e' ∧ T P f fn R k e' w') (fun listed a' w' ⟨hl, e', hs', hr⟩ => by
      subst hl
      have hlen : (ops.toList.drop m).length = ops.size - m := by simp
      have := wpAny_of_seq (md := .any) (ops.toList.drop m) m (fin ops m) a' w' (fun j => by simp [List.getElem?_drop]) (by rw [hlen]; exact hseq) (hr a' hs')
      rwa [hlen] at this) _ _ _ _ hg
    rwa [show m + (ops.size - m) = ops.size by omega] at this
  obtain ⟨x, a', w', ⟨hx, e', hs', hT⟩, harr⟩ := hwp b k cs
  subst hx
  obtain ⟨v, w'', fr, hR, hst, r⟩ := hT b a' cs h1 h2 hs'
  exact ⟨v, w'', fr, hR, Steps.trans harr hst, r⟩
end
end Go.Proofs.YtfnpaglcnmcnbaaGreat
