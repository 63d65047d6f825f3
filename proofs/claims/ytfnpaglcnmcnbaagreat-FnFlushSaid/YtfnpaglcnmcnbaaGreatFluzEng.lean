/- The engine: rules that walk a function of the program with its frame as a function of slots, its code as terms that the kernel unfolds, and its memory under named facts.
   No conditions: every rule holds over any program. -/
import Derived.Calls
import Derived.Orders
import Derived.StillTail
import Derived.KernelRfl
import Derived.Below
import Derived.OwnWalk
import Derived.IntWalk
set_option linter.unusedVariables false
set_option linter.unusedSimpArgs false
namespace Go.Proofs.YtfnpaglcnmcnbaaGreat
abbrev Env := Nat → Value
def upd (e : Env) (d : Nat) (v : Value) : Env := fun t => bif Nat.beq t d then v else e t
def putE (e : Env) : Option Nat → Value → Env
  | some d, v => upd e d v
  | none, _ => e
def ev (e : Env) : Operand → Value
  | .tmp t => e t
  | .const v => v
  | .global g => .pointer (some ⟨g, 0, none⟩)
  | .func f => .func (.func f) #[] #[]
structure Sees (n : Nat) (a : Act) (e : Env) : Prop where
  size : a.tmps.size = n
  dfr : a.defers = []
  get : ∀ t, a.tmps.getD t undef = e t
theorem Sees.eval {n : Nat} {a : Act} {e : Env} (h : Sees n a e) : a.eval = ev e := by
  funext x
  cases x with
  | tmp t => exact h.get t
  | _ => rfl
theorem Sees.put {n : Nat} {a : Act} {e : Env} (h : Sees n a e) {d : Nat} (hd : d < n) (v : Value) : Sees n (a.put (some d) v) (upd e d v) := by
  refine ⟨by simp [Act.put, h.size], h.dfr, fun t => ?_⟩
  have hsz := h.size
  by_cases htd : t = d
  · subst htd
    have : Nat.beq t t = true := Nat.beq_refl t
    simp [Act.put, upd, this, hsz, hd]
  · have hb : Nat.beq t d = false := by
      cases hb : Nat.beq t d with
      | false => rfl
      | true => exact absurd (Nat.eq_of_beq_eq_true hb) htd
    have := h.get t
    simp only [upd, hb, cond_false]
    rw [← this]
    simp [Act.put, Array.getElem?_setIfInBounds_ne (Ne.symm htd)]
def okD (n : Nat) (d : Option Nat) : Bool := match d with | some d => Nat.blt d n | none => true
theorem Sees.putO {n : Nat} {a : Act} {e : Env} (h : Sees n a e) {d : Option Nat} (hd : okD n d = true) (v : Value) : Sees n (a.put d v) (putE e d v) := by
  cases d with
  | none => exact h
  | some d =>
    have hlt : d < n := by
      have h1 := Nat.le_of_ble_eq_true hd
      omega
    exact h.put hlt v
def prS {α : Type} (P : Program) : Sem α → Option α
  | .pure a => some a
  | .program k => prS P (k P)
  | _ => none
theorem prS_run {α : Type} {P : Program} (s : Sem α) {a : α} (h : prS P s = some a) (w : World) : s.run P w = .ok a w := by
  induction s with
  | pure x => simp only [prS, Option.some.injEq] at h; subst h; rfl
  | program k ih => simp only [prS] at h; simp only [Sem.run]; exact ih P h
  | _ => simp [prS] at h
def srS {α : Type} (P : Program) : Sem α → Nat → Option (α × List Obj)
  | .pure a, _ => some (a, [])
  | .program k, s => srS P (k P) s
  | .new o k, s => match srS P (k s) (s + 1) with
    | some (a, os) => some (a, o :: os)
    | none => none
  | _, _ => none
theorem srS_run {α : Type} {P : Program} (s : Sem α) : ∀ {a : α} {os : List Obj} {w : World}, srS P s w.heap.size = some (a, os) →
    s.run P w = .ok a { w with heap := w.heap ++ os.toArray } := by
  induction s with
  | pure x => intro a os w h; simp only [srS, Option.some.injEq, Prod.mk.injEq] at h; obtain ⟨rfl, rfl⟩ := h; simp [Sem.run]
  | program k ih => intro a os w h; simp only [srS] at h; simp only [Sem.run]; exact ih P h
  | new o k ih =>
    intro a os w h
    simp only [srS] at h
    split at h
    · rename_i a' os' h'
      simp only [Option.some.injEq, Prod.mk.injEq] at h
      obtain ⟨rfl, rfl⟩ := h
      simp only [Sem.run]
      have := ih w.heap.size (w := { w with heap := w.heap.push o }) (a := a') (os := os') (by simpa using h')
      rw [this]
      simp
    · cases h
  | _ => intro a os w h; simp [srS] at h
section
variable {P : Program}
theorem run_bind_ok {α β : Type} {s : Sem α} {g : α → Sem β} {a : α} {w w' : World} (h : s.run P w = .ok a w') : (s >>= g).run P w = (g a).run P w' := by
  show (s.bind g).run P w = _
  induction s generalizing w with
  | pure x => simp only [Sem.run, Result.ok.injEq] at h; obtain ⟨rfl, rfl⟩ := h; rfl
  | load m ad k ih =>
    simp only [Sem.bind, Sem.run] at h ⊢
    split at h
    · exact ih _ h
    · split at h
      · exact ih _ h
      · cases h
  | store m ad v k ih =>
    cases v <;> simp only [Sem.bind, Sem.run] at h ⊢ <;> first
      | (cases h; done)
      | (split at h
         · split at h
           · cases h
           · rename_i h1 h2; simp only [h2]; exact ih h
         · split at h
           · exact ih h
           · cases h)
  | new o k ih => simp only [Sem.bind, Sem.run] at h ⊢; exact ih _ h
  | shape r k ih => simp only [Sem.bind, Sem.run] at h ⊢; exact ih _ h
  | freeze ad m k ih => simp only [Sem.bind, Sem.run] at h ⊢; exact ih h
  | frozen ad k ih => simp only [Sem.bind, Sem.run] at h ⊢; exact ih _ h
  | getObj r k ih =>
    simp only [Sem.bind, Sem.run] at h ⊢
    split at h
    · cases h
    · exact ih _ h
    · cases h
  | setObj r o k ih =>
    simp only [Sem.bind, Sem.run] at h ⊢
    split at h
    · cases h
    · exact ih h
    · cases h
  | choose q k ih =>
    simp only [Sem.bind, Sem.run] at h ⊢
    split at h
    · rename_i hq; rw [if_pos hq]; exact ih _ h
    · rename_i hq; rw [if_neg hq]; exact ih _ h
  | sys cc k ih => simp only [Sem.bind, Sem.run] at h ⊢; exact ih _ h
  | program k ih => simp only [Sem.bind, Sem.run] at h ⊢; exact ih _ h
  | mark m k ih => simp only [Sem.bind, Sem.run] at h ⊢; exact ih h
  | halt x => simp only [Sem.run] at h; cases h
end
theorem sem_id {α : Type} (x : Sem α) : x.bind Sem.pure = x := by
  induction x with
  | frozen a k ih => simp only [Sem.bind]; congr 1; funext b; exact ih b
  | _ => simp_all [Sem.bind]
theorem sem_assoc {α β γ : Type} (x : Sem α) (f : α → Sem β) (g : β → Sem γ) : (x.bind f).bind g = x.bind (fun a => (f a).bind g) := by
  induction x with
  | frozen a k ih => simp only [Sem.bind]; congr 1; funext b; exact ih b
  | _ => simp_all [Sem.bind]
instance : LawfulMonad Sem := LawfulMonad.mk' (m := Sem)
  (id_map := fun x => sem_id x)
  (pure_bind := fun _ _ => rfl)
  (bind_assoc := fun x f g => sem_assoc x f g)
theorem mapM1 (f : ResultVar → Sem Value) (r : ResultVar) : (#[r]).mapM f = (do let v ← f r; pure #[v]) := by
  simp
theorem mapM2 (f : ResultVar → Sem Value) (r r' : ResultVar) : (#[r, r']).mapM f = (do let v ← f r; let v' ← f r'; pure #[v, v']) := by
  simp
theorem mapM3 (f : ResultVar → Sem Value) (r r' r2 : ResultVar) : (#[r, r', r2]).mapM f = (do let v ← f r; let v' ← f r'; let v2 ← f r2; pure #[v, v', v2]) := by
  simp
def wantE (ops : Array Oper) (o : Oper) (e : Env) : Bool :=
  match o.guard with
  | none => true
  | some (j, want) =>
    match (ops[j]?).bind (·.dst) with
    | some t => match e t with
      | .bool b => b == want
      | _ => false
    | none => false
theorem Sees.want {n : Nat} {a : Act} {e : Env} (h : Sees n a e) (ops : Array Oper) (o : Oper) :
    Region.wanted o (yielded ops a.tmps) = wantE ops o e := by
  unfold Region.wanted wantE
  cases o.guard with
  | none => rfl
  | some g =>
    obtain ⟨j, want⟩ := g
    simp only [yielded]
    cases hd : (ops[j]?).bind (·.dst) with
    | none => simp
    | some t =>
      simp only [Option.bind_some]
      have hg := h.get t
      cases ht : a.tmps[t]? with
      | none =>
        have : e t = undef := by rw [← hg]; simp [ht]
        rw [this]; simp [undef]
      | some v =>
        have : e t = v := by rw [← hg]; simp [ht]
        rw [this]
        cases v <;> simp
def opAt (ops : Array Oper) (j : Nat) : Oper := ops.toList.getD j default
def okAt (n : Nat) (ops : Array Oper) (j : Nat) : Bool := Nat.blt j ops.toList.length && okD n (opAt ops j).dst
def goAt (n : Nat) (ops : Array Oper) (j : Nat) (e : Env) : Bool := okAt n ops j && wantE ops (opAt ops j) e
theorem drop_op {ops : Array Oper} {j : Nat} (h : j < ops.toList.length) : ops.toList.drop j = opAt ops j :: ops.toList.drop (j + 1) := by
  rw [List.drop_eq_getElem_cons h]
  congr 1
  have h' : j < ops.size := by simpa using h
  simp [opAt, h']
theorem okAt_lt {n : Nat} {ops : Array Oper} {j : Nat} (h : okAt n ops j = true) : j < ops.toList.length ∧ okD n (opAt ops j).dst = true := by
  simp only [okAt, Bool.and_eq_true] at h
  have := Nat.le_of_ble_eq_true h.1
  exact ⟨by omega, h.2⟩
def RG (P : Program) (n : Nat) (K : Env → World → Prop) (ops : Array Oper) (j : Nat) (e : Env) (w : World) : Prop :=
  ∀ a, Sees n a e → wpList P ops (fun x a' w' => x = .normal ∧ ∃ e', Sees n a' e' ∧ K e' w') (ops.toList.drop j) a w
section
variable {P : Program} {n : Nat} {K : Env → World → Prop} {ops : Array Oper} {j : Nat} {e : Env} {w : World}
theorem RG.done (h : Nat.beq ops.toList.length j = true) (H : K e w) : RG P n K ops j e w := by
  intro a ha
  have hj : ops.toList.length = j := Nat.eq_of_beq_eq_true h
  rw [List.drop_of_length_le (by omega)]
  exact wpList_nil ⟨rfl, e, ha, H⟩
theorem RG.upon (hk : goAt n ops j e = true)
    (h : ∀ a, Sees n a e → (opAt ops j).upon P a (fun a' w' => ∃ e', Sees n a' e' ∧ RG P n K ops (j + 1) e' w') (fun _ _ _ => False) ((execOp (ev e) (opAt ops j)).run P w)) : RG P n K ops j e w := by
  intro a ha
  simp only [goAt, Bool.and_eq_true] at hk
  obtain ⟨hlt, _⟩ := okAt_lt hk.1
  rw [drop_op hlt]
  unfold wpList
  rw [ha.want, hk.2]
  simp only [if_true]
  refine .inl ?_
  have h1 := h a ha
  unfold Oper.wp
  rw [ha.eval]
  generalize (execOp (ev e) (opAt ops j)).run P w = r at *
  have hb : ∀ a' w', (∃ e', Sees n a' e' ∧ RG P n K ops (j + 1) e' w') → wpList P ops (fun x a' w' => x = .normal ∧ ∃ e', Sees n a' e' ∧ K e' w') (ops.toList.drop (j + 1)) a' w' := fun a' w' ⟨e', hs, hr⟩ => hr a' hs
  cases r with
  | ok nx w' =>
    cases nx <;> simp only [Oper.upon] at h1 ⊢
    case value v => exact hb _ _ h1
    case skip => exact hb _ _ h1
    case defer d => exact hb _ _ h1
    case enter f args =>
      refine h1.mono fun x w'' hx => ?_
      cases x with
      | returned v => exact hb _ _ hx
      | panicked c => exact hx.elim
      | outgrown => obtain ⟨_, _, hf⟩ := hx; exact hf.elim
    case row r args => exact h1.mono fun v w'' hx => hb _ _ hx
  | halt x w' =>
    cases x <;> simp only [Oper.upon] at h1
theorem RG.val {v : Value} {w' : World} (hk : goAt n ops j e = true) (hr : (execOp (ev e) (opAt ops j)).run P w = .ok (.value v) w')
    (H : RG P n K ops (j + 1) (putE e (opAt ops j).dst v) w') : RG P n K ops j e w := by
  refine RG.upon hk fun a ha => ?_
  rw [hr]
  simp only [goAt, Bool.and_eq_true] at hk
  exact ⟨_, ha.putO (okAt_lt hk.1).2 v, H⟩
theorem RG.unit {w' : World} (hk : goAt n ops j e = true) (hr : (execOp (ev e) (opAt ops j)).run P w = .ok .skip w')
    (H : RG P n K ops (j + 1) (putE e (opAt ops j).dst undef) w') : RG P n K ops j e w := by
  refine RG.upon hk fun a ha => ?_
  rw [hr]
  simp only [goAt, Bool.and_eq_true] at hk
  exact ⟨_, ha.putO (okAt_lt hk.1).2 undef, H⟩
theorem RG.skip (hk : (okAt n ops j && !wantE ops (opAt ops j) e) = true)
    (H : RG P n K ops (j + 1) (putE e (opAt ops j).dst undef) w) : RG P n K ops j e w := by
  intro a ha
  simp only [Bool.and_eq_true, Bool.not_eq_true'] at hk
  obtain ⟨hlt, hd⟩ := okAt_lt hk.1
  rw [drop_op hlt]
  unfold wpList
  rw [ha.want, hk.2]
  simp only [Bool.false_eq_true, if_false]
  exact H _ (ha.putO hd undef)
def valE (P : Program) (o : Oper) (e : Env) : Value :=
  match prS P (execOp (ev e) o) with
  | some (.value v) => v
  | _ => undef
def isVal (P : Program) (o : Oper) (e : Env) : Bool :=
  match prS P (execOp (ev e) o) with
  | some (.value _) => true
  | _ => false
def stepE (P : Program) (ops : Array Oper) (j : Nat) (e : Env) : Env :=
  putE e (opAt ops j).dst (bif wantE ops (opAt ops j) e then valE P (opAt ops j) e else undef)
def stepOk (P : Program) (n : Nat) (ops : Array Oper) (j : Nat) (e : Env) : Bool :=
  okAt n ops j && (bif wantE ops (opAt ops j) e then isVal P (opAt ops j) e else true)
def runE (P : Program) (ops : Array Oper) : Nat → Nat → Env → Env
  | 0, _, e => e
  | m + 1, j, e => runE P ops m (j + 1) (stepE P ops j e)
def runOk (P : Program) (n : Nat) (ops : Array Oper) : Nat → Nat → Env → Bool
  | 0, _, _ => true
  | m + 1, j, e => stepOk P n ops j e && runOk P n ops m (j + 1) (stepE P ops j e)
theorem isVal_run {o : Oper} (h : isVal P o e = true) (w : World) : (execOp (ev e) o).run P w = .ok (.value (valE P o e)) w := by
  unfold isVal valE at *
  cases hp : prS P (execOp (ev e) o) with
  | none => simp [hp] at h
  | some x =>
    have hr := prS_run _ hp w
    cases x <;> simp [hp] at h ⊢
    exact hr
theorem RG.step (h : stepOk P n ops j e = true) (H : RG P n K ops (j + 1) (stepE P ops j e) w) : RG P n K ops j e w := by
  simp only [stepOk, Bool.and_eq_true] at h
  unfold stepE at H
  cases hw : wantE ops (opAt ops j) e with
  | true =>
    simp only [hw, cond_true] at h H
    exact RG.val (by simp [goAt, h.1, hw]) (isVal_run h.2 w) H
  | false =>
    simp only [hw, cond_false] at h H
    exact RG.skip (by simp [h.1, hw]) H
theorem RG.run (m : Nat) (h : runOk P n ops m j e = true) (H : RG P n K ops (j + m) (runE P ops m j e) w) : RG P n K ops j e w := by
  induction m generalizing j e with
  | zero => exact H
  | succ m ih =>
    simp only [runOk, Bool.and_eq_true] at h
    exact RG.step h.1 (ih h.2 (by rw [show j + 1 + m = j + (m + 1) by omega]; exact H))
def pvAt (P : Program) (n : Nat) (ops : Array Oper) (j : Nat) (e : Env) : Option Value :=
  bif goAt n ops j e then (bif isVal P (opAt ops j) e then some (valE P (opAt ops j) e) else none) else none
theorem RG.eqv {v v' : Value} (h : pvAt P n ops j e = some v') (hv : v' = v) (H : RG P n K ops (j + 1) (putE e (opAt ops j).dst v) w) : RG P n K ops j e w := by
  subst hv
  unfold pvAt at h
  cases hg : goAt n ops j e with
  | false => simp [hg] at h
  | true =>
    cases hi : isVal P (opAt ops j) e with
    | false => simp [hg, hi] at h
    | true =>
      simp only [hg, hi, cond_true, Option.some.injEq] at h
      exact RG.val hg (isVal_run hi w) (h ▸ H)
theorem RG.bool (b : Bool) (h : pvAt P n ops j e = some (.bool b)) (ht : b = true → RG P n K ops (j + 1) (putE e (opAt ops j).dst (.bool true)) w)
    (hf : b = false → RG P n K ops (j + 1) (putE e (opAt ops j).dst (.bool false)) w) : RG P n K ops j e w := by
  refine RG.eqv h rfl ?_
  cases b with
  | true => exact ht rfl
  | false => exact hf rfl
theorem RG.boolP (p : Prop) [Decidable p] (h : pvAt P n ops j e = some (.bool (decide p))) (ht : p → RG P n K ops (j + 1) (putE e (opAt ops j).dst (.bool true)) w)
    (hf : ¬ p → RG P n K ops (j + 1) (putE e (opAt ops j).dst (.bool false)) w) : RG P n K ops j e w :=
  RG.bool _ h (fun hb => ht (of_decide_eq_true hb)) (fun hb => hf (of_decide_eq_false hb))
theorem RG.int (z : Int) (h : pvAt P n ops j e = some (.int .i64 (IntKind.i64.wrap z))) (hz : -9223372036854775808 ≤ z ∧ z ≤ 9223372036854775807)
    (H : RG P n K ops (j + 1) (putE e (opAt ops j).dst (.int .i64 z)) w) : RG P n K ops j e w :=
  RG.eqv h (by rw [IntWalk.i64_in z hz]) H
end
def loadAt (n : Nat) (ops : Array Oper) (j : Nat) (e : Env) : Option (TypeId × Addr) :=
  bif goAt n ops j e then
    match (opAt ops j).op with
    | .load t x => match ev e x with
      | .pointer (some a) => some (t, a)
      | _ => none
    | _ => none
  else none
def storeAt (n : Nat) (ops : Array Oper) (j : Nat) (e : Env) : Option (TypeId × Addr × Value) :=
  bif goAt n ops j e then
    match (opAt ops j).op with
    | .store t x v => match ev e x with
      | .pointer (some a) => some (t, a, ev e v)
      | _ => none
    | _ => none
  else none
def callAt (P : Program) (n : Nat) (ops : Array Oper) (j : Nat) (e : Env) : Option (FuncId × List Value) :=
  bif goAt n ops j e then
    match (opAt ops j).op with
    | .call c => match c.callee with
      | .value f => match ev e f with
        | .func (.func g) first cap => match P.funcs[g]? with
          | some fn => bif fn.body.isSome && !(fn.name == "runtime.NumGoroutine") then some (g, first.toList ++ (c.args.toList.map (ev e)) ++ cap.toList) else none
          | none => none
        | _ => none
      | _ => none
    | _ => none
  else none
def bltAt (n : Nat) (ops : Array Oper) (j : Nat) (e : Env) : Option (Builtin × List TypeId × TypeId × List Value) :=
  bif goAt n ops j e then
    match (opAt ops j).op with
    | .call c => match c.callee with
      | .builtin b => some (b, c.argTypes.toList, (opAt ops j).type, c.args.toList.map (ev e))
      | _ => none
    | _ => none
  else none
section
variable {P : Program} {n : Nat} {K : Env → World → Prop} {ops : Array Oper} {j : Nat} {e : Env} {w : World}
theorem goAt_of {α : Type} {x : Option α} {y : α} (h : (bif goAt n ops j e then x else none) = some y) : goAt n ops j e = true ∧ x = some y := by
  cases hg : goAt n ops j e with
  | false => simp [hg] at h
  | true => simp [hg] at h; exact ⟨rfl, h⟩
theorem RG.load {t : TypeId} {a : Addr} {v : Value} (h : loadAt n ops j e = some (t, a)) (hv : (loadVar t a).run P w = .ok v w)
    (H : RG P n K ops (j + 1) (putE e (opAt ops j).dst v) w) : RG P n K ops j e w := by
  obtain ⟨hg, h⟩ := goAt_of h
  refine RG.val (v := v) hg ?_ H
  split at h
  · rename_i t' x hop
    split at h
    · rename_i a' hx
      simp only [Option.some.injEq, Prod.mk.injEq] at h
      obtain ⟨rfl, rfl⟩ := h
      simp only [execOp, hop, hx]
      exact run_bind_ok hv
    · cases h
  · cases h
theorem RG.store {t : TypeId} {a : Addr} {v : Value} {w' : World} (h : storeAt n ops j e = some (t, a, v)) (hv : (storeVar t a v).run P w = .ok () w')
    (H : RG P n K ops (j + 1) (putE e (opAt ops j).dst undef) w') : RG P n K ops j e w := by
  obtain ⟨hg, h⟩ := goAt_of h
  refine RG.unit hg ?_ H
  split at h
  · rename_i t' x v' hop
    split at h
    · rename_i a' hx
      simp only [Option.some.injEq, Prod.mk.injEq] at h
      obtain ⟨rfl, rfl, rfl⟩ := h
      simp only [execOp, hop, hx]
      exact run_bind_ok hv
    · cases h
  · cases h
def rets (Q : Value → World → Prop) : Ending → World → Prop := fun x w' => ∃ v, x = .returned v ∧ Q v w'
theorem RG.call {f : FuncId} {args : List Value} {Q : Value → World → Prop} (h : callAt P n ops j e = some (f, args)) (hc : Calls P f args.toArray w (rets Q))
    (H : ∀ v w', Q v w' → RG P n K ops (j + 1) (putE e (opAt ops j).dst v) w') : RG P n K ops j e w := by
  obtain ⟨hg, h⟩ := goAt_of h
  refine RG.upon hg fun a ha => ?_
  have hd : okD n (opAt ops j).dst = true := by
    simp only [goAt, Bool.and_eq_true] at hg
    exact (okAt_lt hg.1).2
  split at h
  · rename_i c hop
    split at h
    · rename_i fo hcal
      split at h
      · rename_i g first cap hf
        split at h
        · rename_i fn hfn
          cases hb : fn.body.isSome && !(fn.name == "runtime.NumGoroutine") with
          | false => simp [hb] at h
          | true =>
            simp only [hb, cond_true, Option.some.injEq, Prod.mk.injEq] at h
            obtain ⟨rfl, rfl⟩ := h
            simp only [Bool.and_eq_true, Bool.not_eq_true'] at hb
            have hbn : ¬ fn.body = none := by cases hx : fn.body <;> simp [hx] at hb ⊢
            have hargs : (first.toList ++ (c.args.toList.map (ev e)) ++ cap.toList).toArray = (first ++ c.args.map (ev e)) ++ cap := by
              apply Array.toList_inj.1; simp
            have hrun : (execOp (ev e) (opAt ops j)).run P w = .ok (.enter g ((first ++ c.args.map (ev e)) ++ cap)) w := by
              have hne : fn.name ≠ "runtime.NumGoroutine" := by simpa using hb.2
              simp only [execOp, hop, resolve, hcal, hf, Deferred.ofValue]
              simp [invoke, callFunc, hfn, hne, hbn, go_sem]
            rw [hrun, Oper.upon_enter]
            rw [hargs] at hc
            refine hc.mono fun x w' ⟨v, hx, hq⟩ => ?_
            subst hx
            exact ⟨_, ha.putO hd v, H v w' hq⟩
        · cases h
      · cases h
    · cases h
  · cases h
theorem RG.append {ats : List TypeId} {ty : TypeId} {args : List Value} {v : Value} {w' : World} (h : bltAt n ops j e = some (.append, ats, ty, args))
    (hr : (Builtin.append_ ats.toArray ty args.toArray).run P w = .ok v w') (H : RG P n K ops (j + 1) (putE e (opAt ops j).dst v) w') : RG P n K ops j e w := by
  obtain ⟨hg, h⟩ := goAt_of h
  refine RG.val (v := v) hg ?_ H
  split at h
  · rename_i c hop
    split at h
    · rename_i b hcal
      simp only [Option.some.injEq, Prod.mk.injEq] at h
      obtain ⟨rfl, rfl, rfl, rfl⟩ := h
      have ha : (c.args.toList.map (ev e)).toArray = c.args.map (ev e) := by apply Array.toList_inj.1; simp
      rw [ha, Array.toArray_toList] at hr
      simp only [execOp, hop, resolve, hcal]
      exact run_bind_ok hr
    · cases h
  · cases h
theorem RG.copy {ats : List TypeId} {ty : TypeId} {args : List Value} {v : Value} {w' : World} (h : bltAt n ops j e = some (.copy, ats, ty, args))
    (hr : (Builtin.copy_ ats.toArray ty args.toArray).run P w = .ok v w') (H : RG P n K ops (j + 1) (putE e (opAt ops j).dst v) w') : RG P n K ops j e w := by
  obtain ⟨hg, h⟩ := goAt_of h
  refine RG.val (v := v) hg ?_ H
  split at h
  · rename_i c hop
    split at h
    · rename_i b hcal
      simp only [Option.some.injEq, Prod.mk.injEq] at h
      obtain ⟨rfl, rfl, rfl, rfl⟩ := h
      have ha : (c.args.toList.map (ev e)).toArray = c.args.map (ev e) := by apply Array.toList_inj.1; simp
      rw [ha, Array.toArray_toList] at hr
      simp only [execOp, hop, resolve, hcal]
      exact run_bind_ok hr
    · cases h
  · cases h
def newAt (P : Program) (n : Nat) (ops : Array Oper) (j : Nat) (e : Env) (s : Nat) : Option (Value × Obj) :=
  bif goAt n ops j e then
    match srS P (execOp (ev e) (opAt ops j)) s with
    | some (.value v, [o]) => some (v, o)
    | _ => none
  else none
theorem RG.newO {o : Obj} {v : Value} (h : newAt P n ops j e w.heap.size = some (v, o)) (H : RG P n K ops (j + 1) (putE e (opAt ops j).dst v) (w.alloc o)) : RG P n K ops j e w := by
  obtain ⟨hg, h⟩ := goAt_of h
  refine RG.val (v := v) hg ?_ H
  split at h
  · rename_i v' o' hs
    simp only [Option.some.injEq, Prod.mk.injEq] at h
    obtain ⟨rfl, rfl⟩ := h
    rw [srS_run _ hs]
    have hp : w.heap ++ [o'].toArray = w.heap.push o' := by simp
    rw [hp]
    rfl
  · cases h
end
def T (P : Program) (f : FuncId) (fn : Func) (R : Value → World → Prop) (todo : List Item) (e : Env) (w : World) : Prop :=
  ∀ (b : Frame) (a : Act) (cs : List Frame), b.fn = f → b.kind = .normal → Sees fn.ntmps a e →
    ∃ v w' fr, R v w' ∧ Steps P (lone (b.at a todo) cs w) (lone fr cs w') ∧ fr.fn = f ∧ fr.leaving P w' (.returned v)
def isSeq : Code → Bool | .seq .. => true | _ => false
def lft : Code → Code | .seq a _ => a | c => c
def rgt : Code → Code | .seq _ b => b | c => c
def thn : Code → Code | .cond _ a _ => a | c => c
def els : Code → Code | .cond _ _ b => b | c => c
def bdy : Code → Code | .block _ b => b | .loop b => b | c => c
def isLoop : Code → Bool | .loop _ => true | _ => false
def isBlock : Code → Nat → Bool | .block i _, k => Nat.beq i k | _, _ => false
def isExit : Code → Nat → Bool | .exit i, k => Nat.beq i k | _, _ => false
def isRet : Code → Bool | .ret => true | _ => false
def isSkip : Code → Bool | .skip => true | _ => false
def isReg : Code → Bool → Bool | .region _ _ d, b => d == b | _, _ => false
def opsC : Code → Array Oper | .region _ ops _ => ops | _ => #[]
def condVal (e : Env) : Code → Value | .cond c _ _ => ev e c | _ => undef
def bodyOf (fn : Func) : Code := match fn.body with | some c => c | none => .skip
section
variable {P : Program} {f : FuncId} {fn : Func} {R : Value → World → Prop} {c : Code} {k : List Item} {e : Env} {w : World}
theorem T.steps {todo todo' : List Item} (h : ∀ (b : Frame) (a : Act) (cs : List Frame), step P (lone (b.at a todo) cs w) = .next (lone (b.at a todo') cs w))
    (H : T P f fn R todo' e w) : T P f fn R todo e w := fun b a cs h1 h2 h3 =>
  let ⟨v, w', fr, hR, hs, r⟩ := H b a cs h1 h2 h3
  ⟨v, w', fr, hR, .head (h b a cs) hs, r⟩
theorem T.seq (h : isSeq c = true) (H : T P f fn R (.code (lft c) :: .code (rgt c) :: k) e w) : T P f fn R (.code c :: k) e w := by
  cases c <;> simp [isSeq] at h
  exact T.steps (fun _ _ _ => step_seq) H
theorem T.skip (h : isSkip c = true) (H : T P f fn R k e w) : T P f fn R (.code c :: k) e w := by
  cases c <;> simp [isSkip] at h
  exact T.steps (fun _ _ _ => step_skip) H
theorem T.block (i : Nat) (h : isBlock c i = true) (H : T P f fn R (.code (bdy c) :: .inBlock i :: k) e w) : T P f fn R (.code c :: k) e w := by
  cases c <;> simp [isBlock] at h
  rename_i id b
  have hid := h
  subst hid
  exact T.steps (fun _ _ _ => step_block) H
theorem T.inBlock (i : Nat) (H : T P f fn R k e w) : T P f fn R (.inBlock i :: k) e w := T.steps (fun _ _ _ => step_inBlock) H
theorem T.exit (i : Nat) {k' : List Item} (h : isExit c i = true) (hk : exitTo i k = some k') (H : T P f fn R k' e w) : T P f fn R (.code c :: k) e w := by
  cases c <;> simp [isExit] at h
  rename_i id
  have hid := h
  subst hid
  exact T.steps (fun _ _ _ => step_exit hk) H
theorem T.cond (b : Bool) (hc : condVal e c = .bool b) (ht : b = true → T P f fn R (.code (thn c) :: k) e w) (hf : b = false → T P f fn R (.code (els c) :: k) e w) : T P f fn R (.code c :: k) e w := by
  cases c <;> simp [condVal, undef] at hc
  rename_i x y z
  intro bf a cs h1 h2 h3
  have hb : a.eval x = .bool b := by rw [h3.eval]; exact hc
  cases b with
  | true =>
    obtain ⟨v, w', fr, hR, hs, r⟩ := ht rfl bf a cs h1 h2 h3
    exact ⟨v, w', fr, hR, .head (step_cond hb) hs, r⟩
  | false =>
    obtain ⟨v, w', fr, hR, hs, r⟩ := hf rfl bf a cs h1 h2 h3
    exact ⟨v, w', fr, hR, .head (step_cond hb) hs, r⟩
theorem T.condT (hc : condVal e c = .bool true) (H : T P f fn R (.code (thn c) :: k) e w) : T P f fn R (.code c :: k) e w :=
  T.cond true hc (fun _ => H) (fun h => by cases h)
theorem T.condF (hc : condVal e c = .bool false) (H : T P f fn R (.code (els c) :: k) e w) : T P f fn R (.code c :: k) e w :=
  T.cond false hc (fun h => by cases h) (fun _ => H)
theorem T.region (h : isReg c false = true) (H : RG P fn.ntmps (fun e' w' => T P f fn R k e' w') (opsC c) 0 e w) : T P f fn R (.code c :: k) e w := by
  cases c <;> simp [isReg] at h
  rename_i id ops d
  subst h
  intro b a cs h1 h2 h3
  have hwp : (Code.region id ops false).wp P (fun x a' w' => x = .normal ∧ ∃ e', Sees fn.ntmps a' e' ∧ T P f fn R k e' w') a w := by
    refine wp_region_list ?_
    simpa [opsC] using H a h3
  obtain ⟨x, a', w', ⟨hx, e', hs', hT⟩, harr⟩ := hwp b k cs
  subst hx
  obtain ⟨v, w'', fr, hR, hst, r⟩ := hT b a' cs h1 h2 hs'
  exact ⟨v, w'', fr, hR, Steps.trans harr hst, r⟩
def agrees (e : Env) : List (Nat × Value) → Prop
  | [] => True
  | p :: r => e p.1 = p.2 ∧ agrees e r
def sets (e : Env) : List (Nat × Value) → Env
  | [] => e
  | p :: r => upd (sets e r) p.1 p.2
theorem sets_same {S : List (Nat × Value)} (h : agrees e S) : sets e S = e := by
  induction S with
  | nil => rfl
  | cons p r ih =>
    obtain ⟨h1, h2⟩ := h
    funext t
    simp only [sets, upd, ih h2]
    cases hb : Nat.beq t p.1 with
    | false => rfl
    | true =>
      have := Nat.eq_of_beq_eq_true hb
      subst this
      simp [h1]
theorem T.only (S : List (Nat × Value)) {todo : List Item} (hs : agrees e S) (H : ∀ e', T P f fn R todo (sets e' S) w) : T P f fn R todo e w := by
  have := H e
  rwa [sets_same hs] at this
theorem T.loop {X : Type} (x0 : X) (S : X → List (Nat × Value)) (I : X → World → Prop) (μ : X → Nat) (h : isLoop c = true) (hs : agrees e (S x0)) (hI : I x0 w)
    (H : ∀ x e w, I x w → (∀ x' e' w', agrees e' (S x') → I x' w' → μ x' < μ x → T P f fn R (.inLoop (bdy c) :: k) e' w') → T P f fn R (.code (bdy c) :: .inLoop (bdy c) :: k) (sets e (S x)) w) :
    T P f fn R (.code c :: k) e w := by
  cases c <;> simp [isLoop] at h
  rename_i body
  have key : ∀ m x e w, μ x = m → agrees e (S x) → I x w → T P f fn R (.code body :: .inLoop body :: k) e w := by
    intro m
    induction m using Nat.strongRecOn with
    | _ m ih =>
      intro x e w hm ha hI
      have h1 := H x e w hI (fun x' e' w' ha' hI' hlt => T.steps (fun _ _ _ => step_inLoop) (ih (μ x') (hm ▸ hlt) x' e' w' rfl ha' hI'))
      rwa [sets_same ha] at h1
  exact T.steps (fun _ _ _ => step_loop) (key _ x0 e w rfl hs hI)
theorem T.leave {v : Value} (h : isRet c = true) (hr : ∀ a, Sees fn.ntmps a e → (results fn a.tmps).run P w = .ok v w) (hf : P.funcs[f]? = some fn) (hR : R v w) : T P f fn R (.code c :: k) e w := by
  cases c <;> simp [isRet] at h
  intro b a cs h1 h2 h3
  refine ⟨v, w, _, hR, .one step_ret, h1, rfl, h3.dfr, h2, fn, ?_, hr a h3⟩
  show P.funcs[b.fn]? = some fn
  rw [h1]; exact hf
theorem T.fall {v : Value} (hr : ∀ a, Sees fn.ntmps a e → (results fn a.tmps).run P w = .ok v w) (hf : P.funcs[f]? = some fn) (hR : R v w) : T P f fn R [] e w := by
  intro b a cs h1 h2 h3
  refine ⟨v, w, _, hR, .one step_end, h1, rfl, h3.dfr, h2, fn, ?_, hr a h3⟩
  show P.funcs[b.fn]? = some fn
  rw [h1]; exact hf
def Res1 (P : Program) (w : World) (e : Env) (r : ResultVar) (v : Value) : Prop :=
  match r with
  | .tmp t => e t = v
  | .cell a t => ∃ ad, e a = .pointer (some ad) ∧ (loadVar t ad).run P w = .ok v w
theorem Res1.tmp {t : Tmp} {v : Value} (h : e t = v) : Res1 P w e (.tmp t) v := h
theorem Res1.cell {x t : Nat} {ad : Addr} {v : Value} (h : e x = .pointer (some ad)) (hv : (loadVar t ad).run P w = .ok v w) : Res1 P w e (.cell x t) v := ⟨ad, h, hv⟩
def resOne (tmps : Array Value) : ResultVar → Sem Value
  | .tmp t => pure (tmps.getD t undef)
  | .cell a t => do loadVar t (← asAddr (tmps.getD a undef))
theorem results_eq (tmps : Array Value) : results fn tmps = (do let vs ← fn.results.mapM (resOne tmps); pure (if h : vs.size = 1 then vs[0] else .tuple vs)) := by
  unfold results
  congr 1
theorem Res1.run {n : Nat} {a : Act} {r : ResultVar} {v : Value} (hs : Sees n a e) (h : Res1 P w e r v) : (resOne a.tmps r).run P w = .ok v w := by
  cases r with
  | tmp t =>
    simp only [Res1] at h
    have hg := hs.get t
    simp only [resOne, hg, h]
    rfl
  | cell x t =>
    obtain ⟨ad, h1, h2⟩ := h
    have hg := hs.get x
    simp only [resOne, hg, h1, asAddr]
    exact h2
theorem run_results1 {a : Act} {r : ResultVar} {v : Value} (hs : Sees fn.ntmps a e) (hr : fn.results = #[r]) (h : Res1 P w e r v) : (results fn a.tmps).run P w = .ok v w := by
  rw [results_eq, hr, mapM1]
  exact run_bind_ok (a := #[v]) (run_bind_ok (h.run hs))
theorem run_results2 {a : Act} {r r' : ResultVar} {v v' : Value} (hs : Sees fn.ntmps a e) (hr : fn.results = #[r, r']) (h : Res1 P w e r v) (h' : Res1 P w e r' v') :
    (results fn a.tmps).run P w = .ok (.tuple #[v, v']) w := by
  rw [results_eq, hr, mapM2]
  refine run_bind_ok (a := #[v, v']) ?_
  rw [run_bind_ok (h.run hs), run_bind_ok (h'.run hs)]
  rfl
theorem run_results3 {a : Act} {r r' r'' : ResultVar} {v v' v'' : Value} (hs : Sees fn.ntmps a e) (hr : fn.results = #[r, r', r'']) (h : Res1 P w e r v) (h' : Res1 P w e r' v') (h'' : Res1 P w e r'' v'') :
    (results fn a.tmps).run P w = .ok (.tuple #[v, v', v'']) w := by
  rw [results_eq, hr, mapM3]
  refine run_bind_ok (a := #[v, v', v'']) ?_
  rw [run_bind_ok (h.run hs), run_bind_ok (h'.run hs), run_bind_ok (h''.run hs)]
  rfl
theorem run_results0 {a : Act} (hr : fn.results = #[]) : (results fn a.tmps).run P w = .ok (.tuple #[]) w := by
  simp [results, hr]
theorem T.ret0 (h : isRet c = true) (hf : P.funcs[f]? = some fn) (hres : fn.results = #[]) (hR : R (.tuple #[]) w) : T P f fn R (.code c :: k) e w :=
  T.leave h (fun _ _ => run_results0 hres) hf hR
theorem T.fall0 (hf : P.funcs[f]? = some fn) (hres : fn.results = #[]) (hR : R (.tuple #[]) w) : T P f fn R [] e w :=
  T.fall (fun _ _ => run_results0 hres) hf hR
theorem T.ret1 {r : ResultVar} {v : Value} (h : isRet c = true) (hf : P.funcs[f]? = some fn) (hres : fn.results = #[r]) (h1 : Res1 P w e r v) (hR : R v w) : T P f fn R (.code c :: k) e w :=
  T.leave h (fun _ hs => run_results1 hs hres h1) hf hR
theorem T.ret2 {r r' : ResultVar} {v v' : Value} (h : isRet c = true) (hf : P.funcs[f]? = some fn) (hres : fn.results = #[r, r']) (h1 : Res1 P w e r v) (h2 : Res1 P w e r' v') (hR : R (.tuple #[v, v']) w) : T P f fn R (.code c :: k) e w :=
  T.leave h (fun _ hs => run_results2 hs hres h1 h2) hf hR
theorem T.ret3 {r r' r'' : ResultVar} {v v' v'' : Value} (h : isRet c = true) (hf : P.funcs[f]? = some fn) (hres : fn.results = #[r, r', r'']) (h1 : Res1 P w e r v) (h2 : Res1 P w e r' v') (h3 : Res1 P w e r'' v'')
    (hR : R (.tuple #[v, v', v'']) w) : T P f fn R (.code c :: k) e w :=
  T.leave h (fun _ hs => run_results3 hs hres h1 h2 h3) hf hR
def env0 (args : List Value) : Env := fun t => args.getD t undef
theorem calls_T {args : List Value} {body : Code} (hf : P.funcs[f]? = some fn) (hb : fn.body = some body) (hn : Nat.ble args.length fn.ntmps = true) (H : T P f fn R [.code body] (env0 args) w) :
    Calls P f args.toArray w (rets R) := by
  intro cs
  let b : Frame := { (default : Frame) with fn := f, kind := .normal }
  let a : Act := { tmps := args.toArray ++ Array.replicate (fn.ntmps - args.toArray.size) undef, defers := [] }
  have henter : Frame.enter P f args.toArray .normal = b.at a [.code body] := by
    simp [Frame.enter, Frame.at, hf, hb, b, a]
  have hle : args.length ≤ fn.ntmps := Nat.le_of_ble_eq_true hn
  have hs : Sees fn.ntmps a (env0 args) := by
    refine ⟨by simp [a]; omega, rfl, fun t => ?_⟩
    simp only [env0, a, Array.getD_eq_getD_getElem?, List.getD_eq_getElem?_getD, Array.getElem?_append]
    split
    · simp
    · rename_i hlt
      have h1 : args[t]? = none := by simp at hlt ⊢; exact hlt
      rw [h1]
      simp [Array.getElem?_replicate]
      split <;> rfl
  obtain ⟨v, w', fr, hR, hst, hfn, hl⟩ := H b a cs rfl rfl hs
  refine ⟨.returned v, w', fr, ⟨v, rfl, hR⟩, ?_, hfn, hl⟩
  rw [henter]
  exact hst
end
end Go.Proofs.YtfnpaglcnmcnbaaGreat
