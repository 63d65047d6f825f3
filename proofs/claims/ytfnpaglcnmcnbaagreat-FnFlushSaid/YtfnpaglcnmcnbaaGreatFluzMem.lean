/- Memory in two parts: the blocks M that the call still changes, and all the rest, which stands. No conditions. -/
import Derived.Test.YtfnpaglcnmcnbaaGreatFluzOwn
import Derived.MapKept
set_option linter.unusedVariables false
set_option linter.unusedSimpArgs false
namespace Go.Proofs.YtfnpaglcnmcnbaaGreat
def nin (G : Nat → Prop) (M : List Nat) (b : Nat) : Prop := G b ∧ b ∉ M
def fo (F : Nat → Prop) (s : Nat) (b : Nat) : Prop := F b ∨ s ≤ b
def ins (L : List Nat) (b : Nat) : Prop := b ∈ L
def Mv (M M' : List Nat) (w w' : World) : Prop := ∀ b, b < w.heap.size → b ∉ M → b ∉ M' ∧ w'.heap[b]? = w.heap[b]?
theorem Mv.mk {S : Nat → Prop} {M M' : List Nat} {w w' : World} (hx : Chg S w w') (h : ∀ b, b < w.heap.size → b ∉ M → b ∉ M' ∧ ¬ S b) : Mv M M' w w' :=
  fun b hb hm => ⟨(h b hb hm).1, hx.block b hb (h b hb hm).2⟩
section
variable {α : Type} [Rep α] {w w' : World} {G G' : Nat → Prop} {M M' : List Nat} {a : Option Addr} {n c r b : Nat} {t : TypeId} {xs : List α} {cs : List Value}
theorem RepS.mv (h : RepS w (nin G M) a n c xs) (hm : Mv M M' w w') : RepS w' (nin G M') a n c xs :=
  h.frame fun b hb hF => ⟨⟨hF.1, (hm b hb hF.2).1⟩, (hm b hb hF.2).2⟩
theorem RepS.base (h : RepS w (nin G M) a n c xs) (hg : ∀ b, b < w.heap.size → G b → G' b) : RepS w (nin G' M) a n c xs :=
  h.weak fun b hb hF => ⟨hg b hb hF.1, hF.2⟩
theorem Box.mv {S : Nat → Prop} (h : Box w b t cs) (hx : Chg S w w') (hb : ¬ S b) : Box w' b t cs := h.chg hx hb
theorem Own.mv {S : Nat → Prop} (h : Own w r t (nin G M) n c xs) (hm : Mv M M' w w') (hx : Chg S w w') (hr : ¬ S r) : Own w' r t (nin G M') n c xs := by
  refine ⟨h.len, h.le, h.cap, ?_, fun i x hi => ?_⟩
  · obtain ⟨cur, h1, h2⟩ := h.row
    exact ⟨cur, (hx.block r h.lt hr).trans h1, h2⟩
  · obtain ⟨cs, h1, h2⟩ := h.elem i x hi
    exact ⟨cs, Rep.frame h1 (fun b hb hF => ⟨⟨⟨hF.1.1, (hm b hb hF.1.2).1⟩, hF.2⟩, (hm b hb hF.1.2).2⟩), h2.chg hx hr⟩
theorem Own.base (h : Own w r t (nin G M) n c xs) (hg : ∀ b, b < w.heap.size → G b → G' b) : Own w r t (nin G' M) n c xs :=
  h.weak fun b hb hF => ⟨hg b hb hF.1, hF.2⟩
theorem Own.nil' (h : Box w r t []) : Own w r t (nin G M) 0 0 ([] : List α) := Own.nil h _
end
theorem RepS.top {α : Type} [Rep α] {w : World} {F : Nat → Prop} {a : Option Addr} {n c s : Nat} {xs : List α} (h : RepS w F a n c xs) : RepS w (nin (fo F s) []) a n c xs :=
  h.weak fun _ _ hF => ⟨.inl hF, by simp⟩
theorem RepS.fresh {α : Type} [Rep α] {w : World} {G : Nat → Prop} {M : List Nat} {a : Option Addr} {n c s : Nat} {xs : List α} (h : RepS w (ge s) a n c xs) (hM : ∀ b, b ∈ M → b < s) (hG : ∀ b, s ≤ b → G b) : RepS w (nin G M) a n c xs :=
  h.weak fun b _ hF => ⟨hG b hF, fun hm => by have := hM b hm; unfold ge at hF; omega⟩
def mtb (L : List Nat) (s : Nat) (b : Nat) : Prop := b ∈ L ∨ s ≤ b
theorem RepS.blt {α : Type} [Rep α] {w : World} {F : Nat → Prop} {a : Option Addr} {n c : Nat} {xs : List α} (h : RepS w F a n c xs) (hn : 0 < n) : blk a < w.heap.size := by
  have hx : 0 < xs.length := by have := h.len; omega
  obtain ⟨cs, hr, hc⟩ := h.elem 0 xs[0] (by simp [hx])
  have hl := Rep.len hr
  have hp := Rep.pos (α := α)
  have h0 := hc 0 cs[0] (by simp)
  rw [add_lit] at h0
  exact World.block_lt_of_cell? w _ h0
theorem RepS.mixed {α : Type} [Rep α] {w : World} {F : Nat → Prop} {M M' : List Nat} {a : Option Addr} {n c s s' : Nat} {xs : List α} (h : RepS w (fo (nin (fo F s') M') s) a n c xs) (hM : ∀ b, b ∈ M → b < s ∧ b ∈ M') (hs : s' ≤ s) : RepS w (nin (fo F s') M) a n c xs :=
  h.weak fun b _ hF => by
    rcases hF with hF | hF
    · exact ⟨hF.1, fun hm => hF.2 (hM b hm).2⟩
    · exact ⟨.inr (by omega), fun hm => by have := (hM b hm).1; omega⟩
section
variable {α : Type} [Rep α] {w w' : World} {G G' : Nat → Prop} {M M' : List Nat} {a : Option Addr} {n c r b : Nat} {t : TypeId} {xs : List α} {cs : List Value}
theorem Own.renin (h : Own w r t (nin G M) n c xs) (hm : ∀ b, b < w.heap.size → b ∉ M → b ≠ r → b ∉ M') : Own w r t (nin G M') n c xs :=
  ⟨h.len, h.le, h.cap, h.row, fun i x hi => by
    obtain ⟨cs, h1, h2⟩ := h.elem i x hi
    exact ⟨cs, Rep.frame h1 (fun b hb hF => ⟨⟨⟨hF.1.1, hm b hb hF.1.2 hF.2⟩, hF.2⟩, rfl⟩), h2⟩⟩
theorem VS.of {F : Nat → Prop} {x y : α} {v : Value} (h : VS F w y v) (e : y = x) : VS F w x v := e ▸ h
end
def VO {α : Type} [Rep α] (t : TypeId) (s : Nat) (w : World) (xs : List α) (v : Value) : Prop := ∃ r n c, v = .slice (some ⟨r, 0, none⟩) n c ∧ Own w r t (nin (ge s) []) n c xs ∧ s ≤ r
theorem VO.of {α : Type} [Rep α] {t : TypeId} {s r n c : Nat} {w : World} {M : List Nat} {xs ys : List α} (h : Own w r t (nin (ge s) M) n c xs) (e : xs = ys) (hr : s ≤ r) : VO t s w ys (.slice (some ⟨r, 0, none⟩) n c) :=
  ⟨r, n, c, rfl, e ▸ h.renin (fun _ _ _ _ => by simp), hr⟩
theorem Own.take {α : Type} [Rep α] {t : TypeId} {s s0 r n c : Nat} {w : World} {M : List Nat} {xs : List α} (h : Own w r t (nin (ge s) []) n c xs) (hM : ∀ b, b ∈ M → b < s) (hs : s0 ≤ s) : Own w r t (nin (ge s0) (r :: M)) n c xs :=
  ⟨h.len, h.le, h.cap, h.row, fun i x hi => by
    obtain ⟨cs, h1, h2⟩ := h.elem i x hi
    refine ⟨cs, Rep.frame h1 (fun b hb hF => ⟨⟨⟨Nat.le_trans hs hF.1.1, fun hm => ?_⟩, hF.2⟩, rfl⟩), h2⟩
    rcases List.mem_cons.1 hm with rfl | hm
    · exact hF.2 rfl
    · have h3 := hM b hm
      have h4 : s ≤ b := hF.1.1
      omega⟩
def Flat (α : Type) [Rep α] : Prop := ∀ (w w' : World) (F F' : Nat → Prop) (x : α) (cs : List Value), Rep.rep w F x cs → Rep.rep w' F' x cs
theorem flat_int : Flat Int := fun _ _ _ _ _ _ h => h
theorem flat_row : Flat Row := fun _ _ _ _ _ _ h => h
theorem flat_tag : Flat Tag := fun _ _ _ _ _ _ h => h
theorem flat_smp : Flat Smp := fun _ _ _ _ _ _ h => h
section
variable {α : Type} [Rep α] {w w' : World} {F F' : Nat → Prop} {a : Option Addr} {n c r m c' : Nat} {t : TypeId} {xs ys : List α}
theorem Own.flat (hf : Flat α) (h : Own w r t F n c xs) : Own w r t F' n c xs :=
  ⟨h.len, h.le, h.cap, h.row, fun i x hi => by
    obtain ⟨cs, h1, h2⟩ := h.elem i x hi
    exact ⟨cs, hf _ _ _ _ _ _ h1, h2⟩⟩
theorem Own.repF (hf : Flat α) (h : Own w r t F n c xs) : RepS w (one r) (some ⟨r, 0, none⟩) n c xs :=
  (h.flat (F' := fun _ => False) hf).rep' (fun _ _ h => h.elim) rfl
theorem Own.appendF {P : Program} {T ty : TypeId} {F2 : Nat → Prop} (hf : Flat α) (ho : Own w r t F n c xs) (hT : appB P T t (Rep.sz α) = true)
    (hn : RepS w F2 a m c' ys) (h2 : ∀ b, F2 b → b ≠ r) (hs : n + m ≤ 100000000000) :
    ∃ r' c2 w', (Builtin.append_ #[T, T] ty #[.slice (some ⟨r, 0, none⟩) n c, .slice a m c']).run P w = .ok (.slice (some ⟨r', 0, none⟩) (n + m) c2) w' ∧
      Own w' r' t F (n + m) c2 (xs ++ ys) ∧ (r' = r ∨ r' = w.heap.size) ∧ Chg (one r) w w' ∧ w'.heap.size ≤ w.heap.size + 1 := by
  obtain ⟨r', c2, w', h1, h3, h4, h5, h6⟩ := (ho.weak (F' := all) (fun _ _ _ => trivial)).append (P := P) (T := T) (ty := ty) hT hn (fun b _ hb => ⟨trivial, h2 b hb⟩) hs
  exact ⟨r', c2, w', h1, h3.flat hf, h4, h5, h6⟩
theorem RG.appendF {P : Program} {nn : Nat} {K : Env → World → Prop} {ops : Array Oper} {j : Nat} {e : Env} {T ty : TypeId} {F2 : Nat → Prop} (hf : Flat α) (ho : Own w r t F n c xs) (hn : RepS w F2 a m c' ys)
    (h : bltAt nn ops j e = some (.append, [T, T], ty, [.slice (some ⟨r, 0, none⟩) n c, .slice a m c'])) (hT : appB P T t (Rep.sz α) = true)
    (h2 : ∀ b, F2 b → b ≠ r) (hs : n + m ≤ 100000000000)
    (H : ∀ r' c2 w', Own w' r' t F (n + m) c2 (xs ++ ys) → (r' = r ∨ r' = w.heap.size) → Chg (one r) w w' → RG P nn K ops (j + 1) (putE e (opAt ops j).dst (.slice (some ⟨r', 0, none⟩) (n + m) c2)) w') : RG P nn K ops j e w := by
  obtain ⟨r', c2, w', hrun, ho', hor, hx, _⟩ := ho.appendF (P := P) (T := T) (ty := ty) hf hT hn h2 hs
  exact RG.append h hrun (H r' c2 w' ho' hor hx)
end
theorem drop_at {α : Type} {xs : List α} {k : Nat} {x : α} (h : xs[k]? = some x) : xs.drop k = x :: xs.drop (k + 1) := by
  obtain ⟨h1, h2⟩ := List.getElem?_eq_some_iff.1 h
  rw [List.drop_eq_getElem_cons h1, h2]
theorem drop_end {α : Type} {xs : List α} {k : Nat} (h : xs.length ≤ k) : xs.drop k = [] := List.drop_of_length_le h
theorem run_new {P : Program} {n : Nat} {ops : Array Oper} {j : Nat} {e : Env} {w : World} {v : Value} {t : TypeId} {cs : List Value} (h : newBoxAt P n ops j e w.heap.size = some (v, t, cs)) :
    goAt n ops j e = true ∧ (execOp (ev e) (opAt ops j)).run P w = .ok (.value v) (w.alloc (.cells cs.toArray t)) := by
  unfold newBoxAt at h
  split at h
  · rename_i v' cs' t' hn
    simp only [Option.some.injEq, Prod.mk.injEq] at h
    obtain ⟨rfl, rfl, rfl⟩ := h
    obtain ⟨hg, h⟩ := goAt_of hn
    refine ⟨hg, ?_⟩
    split at h
    · rename_i v2 o' hs
      simp only [Option.some.injEq, Prod.mk.injEq] at h
      obtain ⟨rfl, rfl⟩ := h
      rw [srS_run _ hs]
      have hp : w.heap ++ [Obj.cells cs' t' (0, 0)].toArray = w.heap.push (Obj.cells cs'.toList.toArray t' (0, 0)) := by simp
      rw [hp]
      rfl
    · cases h
  · cases h
theorem run_blt {P : Program} {n : Nat} {ops : Array Oper} {j : Nat} {e : Env} {w w' : World} {ats : List TypeId} {ty : TypeId} {args : List Value} {v : Value} (h : bltAt n ops j e = some (.append, ats, ty, args))
    (hr : (Builtin.append_ ats.toArray ty args.toArray).run P w = .ok v w') : (execOp (ev e) (opAt ops j)).run P w = .ok (.value v) w' := by
  obtain ⟨hg, h⟩ := goAt_of h
  split at h
  · rename_i c hop
    split at h
    · rename_i b hcal
      simp only [Option.some.injEq, Prod.mk.injEq] at h
      obtain ⟨rfl, rfl, rfl, rfl⟩ := h
      have ha : (c.args.toList.map (ev e)).toArray = c.args.map (ev e) := by apply Array.toList_inj.1; simp
      rw [ha, Array.toArray_toList] at hr
      simp only [execOp, hop, resolve, hcal]
      exact run_bind_ok hr
    · cases h
  · cases h
section
variable {P : Program} {S : Nat → Prop} {n m : Nat} {L : Env → World → Prop} {ops : Array Oper} {l : List Nat} {e : Env} {w : World}
def GE (P : Program) (S : Nat → Prop) (n m : Nat) (L : Env → World → Prop) (ops : Array Oper) (l : List Nat) (i : Nat) (e : Env) (w : World) : Prop :=
  ∀ w1, Ext w w1 → emitV P S ((execOp (ev e) (opAt ops i)).run P w1) w1 (fun v w2 => GA P S n m L ops (i :: l) (putE e (opAt ops i).dst v) w2)
theorem GE.one {i : Nat} (h : oneB n m ops l i e = true) (H : GE P S n m L ops l i e w) : GA P S n m L ops l e w := GA.one h H
def twoB (n m : Nat) (ops : Array Oper) (l : List Nat) (i j : Nat) (e : Env) : Bool :=
  stepB n m ops l i && goAt n ops i e && stepB n m ops l j && goAt n ops j e && (match Region.ready .any ops (lst ops.size l) with | [a, b] => Nat.beq a i && Nat.beq b j | _ => false)
theorem GE.two {i j : Nat} (h : twoB n m ops l i j e = true) (Hi : GE P S n m L ops l i e w) (Hj : GE P S n m L ops l j e w) : GA P S n m L ops l e w := by
  intro hB f a hf ha inv
  simp only [twoB, Bool.and_eq_true] at h
  obtain ⟨⟨⟨⟨h1, h2⟩, h3⟩, h4⟩, h5⟩ := h
  have hready : Region.ready .any ops (lst ops.size l) = [i, j] := by
    split at h5
    · rename_i a b hj
      simp only [Bool.and_eq_true] at h5
      rw [hj, Nat.eq_of_beq_eq_true h5.1, Nat.eq_of_beq_eq_true h5.2]
    · cases h5
  have hlm := (stepB_spec h1).1
  obtain ⟨f, rfl⟩ : ∃ g, f = g + 1 := ⟨f - 1, by omega⟩
  have key : ∀ k, stepB n m ops l k = true → goAt n ops k e = true → GE P S n m L ops l k e w → ∀ w1, Ext w w1 → k < m ∧ gOp P S ops k (gAny P S ops m (fun listed a' w' => listed = fin ops m ∧ ∃ e', Sees n a' e' ∧ L e' w') f ((lst ops.size l).setIfInBounds k true)) a w1 := by
    intro k hk1 hk2 HK w1 hx
    obtain ⟨_, him, hd, hi, hr⟩ := stepB_spec hk1
    refine ⟨him, ?_⟩
    simp only [goAt, Bool.and_eq_true] at hk2
    unfold gOp
    simp only [hi]
    rw [ha.want, hk2.2, if_pos rfl, ha.eval]
    refine emitV_mono (fun v w2 _ hq => ?_) (HK w1 hx)
    have := hq hB f (a.put (opAt ops k).dst v) (by simp only [List.length_cons]; omega) (ha.putO hd v) (by rw [lst_cons]; exact inv.set hr him)
    rwa [lst_cons] at this
  refine ⟨by rw [hready]; simp, fun w1 hx k hk => ?_⟩
  rw [hready] at hk
  rcases List.mem_cons.1 hk with rfl | hk
  · exact key _ h1 h2 Hi w1 hx
  · rcases List.mem_cons.1 hk with rfl | hk
    · exact key _ h3 h4 Hj w1 hx
    · cases hk
theorem GE.call {i : Nat} {f : FuncId} {args : List Value} {Q : World → Value → World → Prop} (hf : callAt P n ops i e = some (f, args))
    (hc : ∀ w1, Ext w w1 → Calls P f args.toArray w1 (rets (Q w1))) (H : ∀ w1, Ext w w1 → ∀ v w2, Q w1 v w2 → Chg S w1 w2 ∧ GA P S n m L ops (i :: l) (putE e (opAt ops i).dst v) w2) : GE P S n m L ops l i e w := fun w1 hx => by
  rw [(run_call hf w1).2]
  exact ⟨Chg.refl S _, (hc w1 hx).mono fun x w2 ⟨u, hxu, hq⟩ => ⟨u, hxu, H w1 hx u w2 hq⟩⟩
theorem GE.new {i : Nat} {v : Nat → Value} {t : TypeId} {cs : List Value} (hn : ∀ b, newBoxAt P n ops i e b = some (v b, t, cs))
    (H : ∀ w1, Ext w w1 → ∀ b w2, b = w1.heap.size → Ext w1 w2 → Box w2 b t cs → w2.heap.size = b + 1 → GA P S n m L ops (i :: l) (putE e (opAt ops i).dst (v b)) w2) : GE P S n m L ops l i e w := fun w1 hx => by
  rw [(run_new (hn _)).2]
  exact ⟨(Ext.alloc _ _).chg, H w1 hx _ _ rfl (Ext.alloc _ _) (Box.new _ _ _) (by show (w1.heap.push _).size = _; simp)⟩
theorem GE.append {i : Nat} {T ty : TypeId} {args : List Value} (hb : bltAt n ops i e = some (.append, [T, T], ty, args))
    (H : ∀ w1, Ext w w1 → ∃ v w2, (Builtin.append_ #[T, T] ty args.toArray).run P w1 = .ok v w2 ∧ Chg S w1 w2 ∧ GA P S n m L ops (i :: l) (putE e (opAt ops i).dst v) w2) : GE P S n m L ops l i e w := fun w1 hx => by
  obtain ⟨v, w2, h1, h2, h3⟩ := H w1 hx
  rw [run_blt hb h1]
  exact ⟨h2, h3⟩
theorem run_storeAt {i : Nat} {t : TypeId} {a : Addr} {v : Value} {w w' : World} (h : storeAt n ops i e = some (t, a, v)) (hv : (storeVar t a v).run P w = .ok () w') : (execOp (ev e) (opAt ops i)).run P w = .ok .skip w' := by
  obtain ⟨hg, h⟩ := goAt_of h
  split at h
  · rename_i t' x v' hop
    split at h
    · rename_i a' hx
      simp only [Option.some.injEq, Prod.mk.injEq] at h
      obtain ⟨rfl, rfl, rfl⟩ := h
      simp only [execOp, hop, hx]
      exact run_bind_ok hv
    · cases h
  · cases h
theorem GE.storeB {i : Nat} {t t' : TypeId} {b o : Nat} {cs : List Value} {v : Value} (cs' : List Value) (hb : Box w b t cs) (h : storeAt n ops i e = some (t', ⟨b, o, none⟩, v))
    (hs : (sizeB P t' v.cells.size && Nat.ble (o + v.cells.size) cs.length && v.cells.toList.all oneC) = true) (hc : splice cs o v.cells.toList = cs')
    (H : ∀ w1, Ext w w1 → ∀ w2, Chg (Go.Proofs.YtfnpaglcnmcnbaaGreat.one b) w1 w2 → Box w2 b t cs' → w2.heap.size = w1.heap.size → Chg S w1 w2 ∧ GA P S n m L ops (i :: l) (putE e (opAt ops i).dst undef) w2) : GE P S n m L ops l i e w := fun w1 hx => by
  simp only [Bool.and_eq_true] at hs
  obtain ⟨w', hr, hb', hx2, hsz⟩ := (hb.ext hx).store (P := P) (t' := t') (o := o) (v := v) hs.1.1 (Nat.le_of_ble_eq_true hs.1.2) hs.2
  rw [hc] at hb'
  rw [run_storeAt h hr]
  obtain ⟨h1, h2⟩ := H w1 hx w' hx2 hb' hsz
  exact ⟨h1, h2⟩
end
theorem bs_data (s : Str) : (bs s).data.toList = s := by simp [bs]
theorem loop_toList (s : ByteArray) : ∀ n i acc, n = s.size - i → ByteArray.toList.loop s i acc = acc.reverse ++ s.data.toList.drop i := by
  intro n
  induction n with
  | zero =>
    intro i acc h
    unfold ByteArray.toList.loop
    have hs : s.size = s.data.toList.length := rfl
    rw [if_neg (by omega), List.drop_of_length_le (by omega)]
    simp
  | succ n ih =>
    intro i acc h
    unfold ByteArray.toList.loop
    have hs : s.size = s.data.toList.length := rfl
    rw [if_pos (by omega), ih _ _ (by omega)]
    rw [List.drop_eq_getElem_cons (by omega : i < s.data.toList.length)]
    have : s.get! i = s.data.toList[i]'(by omega) := by
      have hi : i < s.data.size := by simpa using (by omega : i < s.data.toList.length)
      show s.data[i]! = _
      rw [getElem!_pos s.data i hi]
      simp
    rw [this]
    simp
theorem bs_toList (s : Str) : (bs s).toList = s := by
  unfold ByteArray.toList
  rw [loop_toList _ _ 0 [] rfl]
  simp [bs]
theorem bs_size (s : Str) : (bs s).size = s.length := by simp [bs, ByteArray.size]
theorem bs_app (s t : Str) : bs s ++ bs t = bs (s ++ t) := by
  apply ByteArray.ext
  simp [bs]
theorem bs_inj {s t : Str} (h : bs s = bs t) : s = t := by
  have := congrArg (fun b : ByteArray => b.data.toList) h
  simpa [bs] using this
theorem bs_beq (s t : Str) : (bs s == bs t) = (s == t) := by
  rw [Bool.eq_iff_iff, Go.MapKept.bytes_beq, beq_iff_eq]
  exact ⟨bs_inj, fun h => by rw [h]⟩
def strLt (s t : Str) : Bool := Op.bytesLess s t
def strLe (s t : Str) : Bool := Op.bytesLess s t || s == t
theorem s_eq (s t : Str) : Value.bool ((bs s).toList == (bs t).toList) = .bool (s == t) := by rw [bs_toList, bs_toList]
theorem s_ne (s t : Str) : Value.bool (!((bs s).toList == (bs t).toList)) = .bool (!(s == t)) := by rw [bs_toList, bs_toList]
theorem s_lt (s t : Str) : Value.bool (Op.bytesLess (bs s).toList (bs t).toList) = .bool (strLt s t) := by rw [bs_toList, bs_toList]; rfl
theorem s_le (s t : Str) : Value.bool (Op.bytesLess (bs s).toList (bs t).toList || (bs s).toList == (bs t).toList) = .bool (strLe s t) := by rw [bs_toList, bs_toList]; rfl
theorem s_gt (s t : Str) : Value.bool (!(Op.bytesLess (bs s).toList (bs t).toList || (bs s).toList == (bs t).toList)) = .bool (!strLe s t) := by rw [bs_toList, bs_toList]; rfl
theorem s_ge (s t : Str) : Value.bool (!(Op.bytesLess (bs s).toList (bs t).toList)) = .bool (!strLt s t) := by rw [bs_toList, bs_toList]; rfl
theorem s_len (s : Str) : Value.int .i64 ((bs s).size : Int) = .int .i64 (s.length : Int) := by rw [bs_size]
def ltG (G : Nat → Prop) (s b : Nat) : Prop := G b ∧ b < s
class Nb (a b : Nat) : Prop where ne : a ≠ b
def Gb (s b : Nat) : Prop := s ≤ b
class Cov (L : Nat → Prop) (w : World) (b : Nat) : Prop where or : L b ∨ w.heap.size ≤ b
def OrB (r r0 s : Nat) : Prop := r = r0 ∨ s ≤ r
theorem pos_of {α : Type} {xs : List α} {i : Nat} {x : α} (h : xs[i]? = some x) : 0 < xs.length := by
  obtain ⟨h1, _⟩ := List.getElem?_eq_some_iff.1 h
  omega
theorem all_nil {p : Nat → Prop} : ∀ b ∈ ([] : List Nat), p b := fun _ h => by cases h
theorem all_cons {p : Nat → Prop} {a : Nat} {l : List Nat} (h : p a) (hl : ∀ b ∈ l, p b) : ∀ b ∈ a :: l, p b := fun b hb => by
  rcases List.mem_cons.1 hb with rfl | hb
  · exact h
  · exact hl b hb
section
variable {a b x r r0 r2 s sz : Nat} {w w' base : World} {L : Nat → Prop}
instance : CoeFun (Nb a b) (fun _ => a = b → False) := ⟨fun h => h.ne⟩
instance : Coe (Nb a b) (a ≠ b) := ⟨fun h => h.ne⟩
instance : Coe (a ≠ b) (Nb a b) := ⟨Nb.mk⟩
instance : Coe (Cov (Go.Proofs.YtfnpaglcnmcnbaaGreat.one a) w b) (OrB b a w.heap.size) := ⟨fun h => h.or⟩
theorem Nb.symm (h : Nb a b) : Nb b a := ⟨Ne.symm h.ne⟩
theorem Nb.one (h : Nb a b) : ¬ one b a := h.ne
theorem nb_new (hb : b = s) (hx : x < s) : Nb b x := ⟨by omega⟩
theorem nb_ge (hb : s ≤ b) (hx : x < s) : Nb b x := ⟨by omega⟩
theorem nb_or (h : r2 = r ∨ r2 = s) (h1 : Nb r x) (h2 : x < s) : Nb r2 x := ⟨by have := h1.ne; omega⟩
theorem nb_or' (h : OrB r r0 s) (h1 : Nb r0 x) (h2 : x < s) : Nb r x := ⟨by have := h1.ne; unfold OrB at h; omega⟩
theorem gb_new (hb : b = sz) (hs : s ≤ sz) : Gb s b := by unfold Gb; omega
theorem gb_ge (hb : sz ≤ b) (hs : s ≤ sz) : Gb s b := by unfold Gb; omega
theorem gb_or (h : r2 = r ∨ r2 = sz) (h1 : Gb s r) (h2 : s ≤ sz) : Gb s r2 := by unfold Gb at *; omega
theorem gb_or' (h : OrB r r0 sz) (h1 : Gb s r0) (h2 : s ≤ sz) : Gb s r := by unfold Gb OrB at *; omega
theorem cov_new (hb : b = sz) (hs : base.heap.size ≤ sz) : Cov L base b := ⟨.inr (by omega)⟩
theorem cov_ge (hb : sz ≤ b) (hs : base.heap.size ≤ sz) : Cov L base b := ⟨.inr (by omega)⟩
theorem cov_or (h : r2 = r ∨ r2 = sz) (h1 : Cov L base r) (h2 : base.heap.size ≤ sz) : Cov L base r2 := by
  rcases h with rfl | rfl
  · exact h1
  · exact ⟨.inr h2⟩
theorem cov_or' (h : OrB r r0 sz) (h1 : Cov L base r0) (h2 : base.heap.size ≤ sz) : Cov L base r := by
  rcases h with rfl | h
  · exact h1
  · exact ⟨.inr (Nat.le_trans h2 h)⟩
theorem orb_or (h : r2 = r ∨ r2 = sz) (h1 : OrB r r0 s) (h2 : s ≤ sz) : OrB r2 r0 s := by unfold OrB at *; omega
theorem orb_or' (h : OrB r2 r sz) (h1 : OrB r r0 s) (h2 : s ≤ sz) : OrB r2 r0 s := by unfold OrB at *; omega
theorem orb_refl : OrB r r s := .inl rfl
theorem Chg.stepN {c d : World} (h : Chg L base c) (h' : Ext c d) : Chg L base d := Chg.step h h' (fun _ h _ => h.elim)
theorem Chg.stepO {c d : World} (h : Chg L base c) (h' : Chg (Go.Proofs.YtfnpaglcnmcnbaaGreat.one b) c d) (hc : Cov L base b) : Chg L base d :=
  Chg.step h h' (fun k hk hlt => by cases hk; exact hc.or.resolve_right (by omega))
theorem Chg.stepI {K : List Nat} {c d : World} (h : Chg L base c) (h' : Chg (ins K) c d) (hc : ∀ b ∈ K, Cov L base b) : Chg L base d :=
  Chg.step h h' (fun k hk hlt => (hc k hk).or.resolve_right (by omega))
theorem Cov.toS {K : List Nat} (h : Cov (mtb K w.heap.size) w b) : mtb K w.heap.size b := h.or.elim id .inr
theorem Chg.toS {K : List Nat} (h : Chg (Go.Proofs.YtfnpaglcnmcnbaaGreat.one b) w w') (hc : mtb K s b) : Chg (mtb K s) w w' := h.weak (fun k _ hk => by cases hk; exact hc)
variable {M M' M2 A B : List Nat}
theorem Mv.ext (hx : Ext w w') : Mv M M w w' := Mv.mk hx (fun _ _ h => ⟨h, fun h => h⟩)
theorem Mv.cons (hm : Mv M M' w w') (hs : w.heap.size ≤ b) : Mv M (b :: M') w w' := fun k hk hk' => ⟨by
  intro h
  rcases List.mem_cons.1 h with rfl | h
  · omega
  · exact (hm k hk hk').1 h, (hm k hk hk').2⟩
theorem Mv.on (hx : Chg (Go.Proofs.YtfnpaglcnmcnbaaGreat.one b) w w') (hb : b ∈ M) : Mv M M w w' := Mv.mk hx (fun k _ h => ⟨h, fun e => h (by cases e; exact hb)⟩)
theorem Mv.app (A B : List Nat) (hx : Chg (Go.Proofs.YtfnpaglcnmcnbaaGreat.one r) w w') (h : r2 = r ∨ r2 = w.heap.size) : Mv (A ++ r :: B) (A ++ r2 :: B) w w' := Mv.mk hx (fun k hk hm => by
  simp only [List.mem_append, List.mem_cons, not_or] at hm ⊢
  exact ⟨⟨hm.1, by omega, hm.2.2⟩, hm.2.1⟩)
theorem Mv.inl {K : List Nat} (hx : Chg (ins K) w w') (hK : ∀ b ∈ K, b ∈ M) (h2 : ∀ b ∈ M2, b ∈ M ∨ w.heap.size ≤ b) : Mv M M2 w w' := Mv.mk hx (fun k hk hm =>
  ⟨fun h => (h2 k h).elim hm (fun h => by omega), fun h => hm (hK k h)⟩)
theorem Mv.drop (A B : List Nat) : Mv (A ++ r :: B) (A ++ B) w w := fun k _ hm => ⟨by
  simp only [List.mem_append, List.mem_cons, not_or] at hm ⊢
  exact ⟨hm.1, hm.2.2⟩, rfl⟩
theorem Mv.less (h : ∀ b ∈ M', b ∈ M) : Mv M M' w w := fun k _ hm => ⟨fun h' => hm (h k h'), rfl⟩
theorem orb_mem (h : OrB r r0 s) (hm : r0 ∈ M) : r ∈ M ∨ s ≤ r := by
  rcases h with rfl | h
  · exact .inl hm
  · exact .inr h
theorem own_in {G : Nat → Prop} (hr : r ∈ M) (h : nin G M b) : nin G M b ∧ b ≠ r := ⟨h, fun e => h.2 (e ▸ hr)⟩
theorem hap_mk {G : Nat → Prop} (hg : G b) (hn : ∀ x ∈ M, Nb b x) (hr : Nb b r) : nin G M b ∧ b ≠ r := ⟨⟨hg, fun h => (hn b h).ne rfl⟩, hr.ne⟩
theorem nS_of {K : List Nat} (h1 : ∀ x ∈ K, Nb b x) (h2 : b < s) : ¬ mtb K s b := fun h => h.elim (fun h => (h1 b h).ne rfl) (fun h => by omega)
section
variable {α : Type} [Rep α] {G : Nat → Prop} {o : Option Addr} {n c : Nat} {t : TypeId} {xs : List α}
theorem RepS.mixed' {F : Nat → Prop} {s' : Nat} (h : RepS w (fo (nin (fo F s') M) s) o n c xs) (hM : ∀ b ∈ M, b < s) (hs : s' ≤ s) : RepS w (nin (fo F s') M) o n c xs :=
  h.mixed (fun b hb => ⟨hM b hb, hb⟩) hs
theorem Own.mixed' {F : Nat → Prop} {s' : Nat} (h : Own w r t (fo (nin (fo F s') M) s) n c xs) (hM : ∀ b ∈ M, b < s) (hs : s' ≤ s) : Own w r t (nin (fo F s') M) n c xs :=
  h.weak fun b _ hF => by
    rcases hF with hF | hF
    · exact hF
    · exact ⟨.inr (Nat.le_trans hs hF), fun hm => by have := hM b hm; omega⟩
theorem RepS.nS {K : List Nat} (h : RepS w (nin (ltG G s) M) o n c xs) (hn : 0 < n) (hL : ∀ x ∈ K, x ∈ M) : ¬ mtb K s (blk o) := fun hk =>
  have hF := h.inF hn
  hk.elim (fun hb => hF.2 (hL _ hb)) (fun hb => by have := hF.1.2; omega)
theorem RepS.chgS {K : List Nat} (h : RepS w (nin (ltG G s) M) o n c xs) (hx : Chg (mtb K s) w w') (hL : ∀ x ∈ K, x ∈ M) : RepS w' all o n c xs :=
  (h.chg hx (fun b hF hk => hk.elim (fun hb => hF.2 (hL _ hb)) (fun hb => by have := hF.1.2; omega))).weak (fun _ _ _ => trivial)
theorem RepS.into (h : RepS w (nin G M) o n c xs) : RepS w (nin (ltG G w.heap.size) M) o n c xs := h.weak (fun b hb hF => ⟨⟨hF.1, hb⟩, hF.2⟩)
theorem RepS.outof (h : RepS w (nin (ltG G s) M) o n c xs) : RepS w (nin G M) o n c xs := h.base (fun _ _ h => h.1)
end
end
section
variable {α : Type} [Rep α] {w : World} {G F : Nat → Prop} {M M' rs : List Nat} {o : Option Addr} {n c r s s0 s' : Nat} {t : TypeId} {xs ys : List α}
theorem RepS.eqx (h : RepS w F o n c xs) (e : xs = ys) : RepS w F o n c ys := e ▸ h
theorem Own.eqx (h : Own w r t F n c xs) (e : xs = ys) : Own w r t F n c ys := e ▸ h
theorem RepS.lessM (h : RepS w (nin G M) o n c xs) (hs : ∀ b ∈ M', b ∈ M) : RepS w (nin G M') o n c xs := h.weak fun k _ hk => ⟨hk.1, fun e => hk.2 (hs k e)⟩
theorem Own.lessM (h : Own w r t (nin G M) n c xs) (hs : ∀ b ∈ M', b ∈ M) : Own w r t (nin G M') n c xs := h.weak fun k _ hk => ⟨hk.1, fun e => hk.2 (hs k e)⟩
theorem nin_take {k : Nat} (h : nin (ge s) rs k) (hM : ∀ b ∈ M, b < s) (hs : s0 ≤ s) : nin (ge s0) (rs ++ M) k := ⟨Nat.le_trans hs h.1, fun hm => by
  rcases List.mem_append.1 hm with hm | hm
  · exact h.2 hm
  · have h1 := hM k hm
    have h2 : s ≤ k := h.1
    omega⟩
theorem RepS.takeM (h : RepS w (nin (ge s) rs) o n c xs) (hM : ∀ b ∈ M, b < s) (hs : s0 ≤ s) : RepS w (nin (ge s0) (rs ++ M)) o n c xs := h.weak fun _ _ hk => nin_take hk hM hs
theorem Own.takeM (h : Own w r t (nin (ge s) rs) n c xs) (hM : ∀ b ∈ M, b < s) (hs : s0 ≤ s) : Own w r t (nin (ge s0) (rs ++ M)) n c xs := h.weak fun _ _ hk => nin_take hk hM hs
end
end Go.Proofs.YtfnpaglcnmcnbaaGreat
