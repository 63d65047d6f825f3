/- How Go values stand for plain data: boxes, rows, slices; what a change of memory leaves alone. No conditions. -/
import Derived.Test.YtfnpaglcnmcnbaaGreatFluzEng
set_option linter.unusedVariables false
set_option linter.unusedSimpArgs false
namespace Go.Proofs.YtfnpaglcnmcnbaaGreat
structure Chg (S : Nat → Prop) (w w' : World) : Prop where
  os : w'.os = w.os
  tape : w'.tape = w.tape
  output : w'.output = w.output
  size : w.heap.size ≤ w'.heap.size
  block : ∀ k, k < w.heap.size → ¬ S k → w'.heap[k]? = w.heap[k]?
def nil (_ : Nat) : Prop := False
abbrev Ext (w w' : World) : Prop := Chg nil w w'
def one (r k : Nat) : Prop := k = r
theorem Ext.block {w w' : World} (h : Ext w w') {k : Nat} (hk : k < w.heap.size) : w'.heap[k]? = w.heap[k]? := Chg.block h k hk (fun h => h)
theorem Ext.refl (w : World) : Ext w w := ⟨rfl, rfl, rfl, Nat.le_refl _, fun _ _ _ => rfl⟩
theorem Chg.refl (S : Nat → Prop) (w : World) : Chg S w w := ⟨rfl, rfl, rfl, Nat.le_refl _, fun _ _ _ => rfl⟩
theorem Chg.weak {S S' : Nat → Prop} {w w' : World} (h : Chg S w w') (hs : ∀ k, k < w.heap.size → S k → S' k) : Chg S' w w' :=
  ⟨h.os, h.tape, h.output, h.size, fun k hk hn => h.block k hk (fun hk' => hn (hs k hk hk'))⟩
theorem Ext.chg {S : Nat → Prop} {w w' : World} (h : Ext w w') : Chg S w w' := h.weak (fun _ _ h => h.elim)
theorem Chg.trans {S : Nat → Prop} {a b c : World} (h : Chg S a b) (h' : Chg S b c) : Chg S a c :=
  ⟨h'.os.trans h.os, h'.tape.trans h.tape, h'.output.trans h.output, Nat.le_trans h.size h'.size, fun k hk hn => (h'.block k (Nat.lt_of_lt_of_le hk h.size) hn).trans (h.block k hk hn)⟩
theorem Ext.trans {a b c : World} (h : Ext a b) (h' : Ext b c) : Ext a c := Chg.trans h h'
theorem Ext.step {S : Nat → Prop} {a b c : World} (h : Ext a b) (h' : Chg S b c) (hs : ∀ k, S k → a.heap.size ≤ k) : Ext a c :=
  ⟨h'.os.trans h.os, h'.tape.trans h.tape, h'.output.trans h.output, Nat.le_trans h.size h'.size, fun k hk _ =>
    (h'.block k (Nat.lt_of_lt_of_le hk h.size) (fun hk' => by have := hs k hk'; omega)).trans (h.block hk)⟩
theorem Chg.step {S S' : Nat → Prop} {a b c : World} (h : Chg S a b) (h' : Chg S' b c) (hs : ∀ k, S' k → k < a.heap.size → S k) : Chg S a c :=
  ⟨h'.os.trans h.os, h'.tape.trans h.tape, h'.output.trans h.output, Nat.le_trans h.size h'.size, fun k hk hn =>
    (h'.block k (Nat.lt_of_lt_of_le hk h.size) (fun hk' => hn (hs k hk' hk))).trans (h.block k hk hn)⟩
theorem Ext.alloc (w : World) (o : Obj) : Ext w (w.alloc o) :=
  ⟨rfl, rfl, rfl, by show w.heap.size ≤ (w.heap.push o).size; simp, fun k hk _ => by
    show (w.heap.push o)[k]? = _
    rw [Array.getElem?_push, if_neg (by omega)]⟩
theorem Ext.drew (w : World) : Ext w { w with drawn := w.drawn + 1 } := ⟨rfl, rfl, rfl, Nat.le_refl _, fun _ _ _ => rfl⟩
theorem Ext.below {w w' : World} (h : Ext w w') : Go.RowKit.Below w.heap.size w w' := ⟨h.os, h.tape, h.output, h.size, fun _ hk => h.block hk⟩
def oneC : Value → Bool
  | .agg _ => false
  | .tuple _ => false
  | _ => true
def Box (w : World) (b : Nat) (t : TypeId) (cs : List Value) : Prop := w.heap[b]? = some (.cells cs.toArray t (0, 0))
theorem Box.lt {w : World} {b : Nat} {t : TypeId} {cs : List Value} (h : Box w b t cs) : b < w.heap.size := (Array.getElem?_eq_some_iff.1 h).1
theorem Box.chg {S : Nat → Prop} {w w' : World} {b : Nat} {t : TypeId} {cs : List Value} (h : Box w b t cs) (hx : Chg S w w') (hb : ¬ S b) : Box w' b t cs := (hx.block b h.lt hb).trans h
theorem Box.ext {w w' : World} {b : Nat} {t : TypeId} {cs : List Value} (h : Box w b t cs) (hx : Ext w w') : Box w' b t cs := h.chg hx (fun h => h)
theorem Box.new (w : World) (t : TypeId) (cs : List Value) : Box (w.alloc (.cells cs.toArray t)) w.heap.size t cs := by
  show (w.heap.push _)[w.heap.size]? = _
  simp
def Has (w : World) (a : Addr) (cs : List Value) : Prop := ∀ i u, cs[i]? = some u → w.cell? (a.add i) = some u
theorem add_lit (b o i : Nat) : (⟨b, o, none⟩ : Addr).add i = ⟨b, o + i, none⟩ := by
  unfold Addr.add; split <;> simp_all
theorem Has.chg {S : Nat → Prop} {w w' : World} {a : Addr} {cs : List Value} (h : Has w a cs) (hx : Chg S w w') (hb : ¬ S a.block) : Has w' a cs := fun i u hu => by
  have h1 := h i u hu
  have hbk : (a.add i).block = a.block := by unfold Addr.add; split <;> rfl
  have hlt : a.block < w.heap.size := by rw [← hbk]; exact World.block_lt_of_cell? w _ h1
  rw [← h1]
  exact World.cell?_of_block (by rw [hbk]; exact hx.block _ hlt hb)
theorem Has.ext {w w' : World} {a : Addr} {cs : List Value} (h : Has w a cs) (hx : Ext w w') : Has w' a cs := h.chg hx (fun h => h)
theorem Box.has {w : World} {b : Nat} {t : TypeId} {cs : List Value} (h : Box w b t cs) (o : Nat) (vs : List Value) (hv : (cs.drop o).take vs.length = vs) : Has w ⟨b, o, none⟩ vs := by
  intro i u hu
  have h1 : cs[o + i]? = some u := by
    rw [← hv] at hu
    rw [List.getElem?_take] at hu
    split at hu
    · rw [List.getElem?_drop] at hu; exact hu
    · cases hu
  rw [add_lit]
  unfold Box at h
  simp [World.cell?, h, h1]
def scalarB (P : Program) (t : TypeId) : Bool := match P.underlying t with | some (.struct _) => false | some (.array ..) => false | some _ => true | none => false
def aggB (P : Program) (t : TypeId) (n : Nat) : Bool := (match P.underlying t with | some (.struct _) => true | some (.array ..) => true | _ => false) && (match P.info? t with | some i => Nat.beq i.size n | none => false)
def sizeB (P : Program) (t : TypeId) (n : Nat) : Bool := match P.info? t with | some i => Nat.beq i.size n | none => false
section
variable {P : Program} {w : World}
theorem run_isAgg_false {t : TypeId} (h : scalarB P t = true) (w : World) : (isAgg t).run P w = .ok false w := by
  unfold scalarB at h
  unfold isAgg underlying
  split at h
  · cases h
  · cases h
  · rename_i d hn1 hn2 hd
    cases d <;> simp_all [go_sem]
  · cases h
theorem run_sizeOf {t : TypeId} {n : Nat} (h : sizeB P t n = true) (w : World) : (sizeOf t).run P w = .ok n w := by
  unfold sizeB at h
  split at h
  · rename_i i hi
    have := Nat.eq_of_beq_eq_true h
    subst this
    simp [sizeOf, typeInfo, hi, go_sem]
  · cases h
theorem Has.load1 {t : TypeId} {a : Addr} {v : Value} {cs : List Value} (h : Has w a cs) (ht : scalarB P t = true) (hv : cs[0]? = some v) : (loadVar t a).run P w = .ok v w := by
  have h1 := h 0 v hv
  have h0 : a.add 0 = a := by simp [Addr.add]
  rw [h0] at h1
  unfold loadVar
  rw [run_bind_ok (run_isAgg_false ht w)]
  simp [load, Sem.run, h1]
theorem run_loadCellsFrom (a : Addr) (cs : List Value) : ∀ (i : Nat) (acc : Array Value) (vs : List Value), cs.drop i = vs → Has w a cs → (loadCellsFrom a i vs.length acc).run P w = .ok (acc ++ vs.toArray) w := by
  intro i acc vs
  induction vs generalizing i acc with
  | nil => intro _ _; simp [loadCellsFrom, go_sem]
  | cons v vs ih =>
    intro hd h
    have hv : cs[i]? = some v := by
      have : (cs.drop i)[0]? = some v := by rw [hd]; rfl
      simpa [List.getElem?_drop] using this
    have hd' : cs.drop (i + 1) = vs := by
      rw [← List.drop_drop, hd]; rfl
    simp only [List.length_cons, loadCellsFrom]
    have hl : (load (a.add i)).run P w = .ok v w := by simp [load, Sem.run, h i v hv]
    rw [run_bind_ok hl, ih (i + 1) (acc.push v) hd' h]
    simp
theorem Has.loadN {t : TypeId} {a : Addr} {cs : List Value} (h : Has w a cs) (ht : aggB P t cs.length = true) : (loadVar t a).run P w = .ok (.agg cs.toArray) w := by
  simp only [aggB, Bool.and_eq_true] at ht
  unfold loadVar
  have h1 : (isAgg t).run P w = .ok true w := by
    unfold isAgg underlying
    have := ht.1
    split at this
    · rename_i d hd; simp [run_program, hd, go_sem]
    · rename_i d hd; simp [run_program, hd, go_sem]
    · cases this
  rw [run_bind_ok h1]
  simp only [if_true]
  rw [run_bind_ok (run_sizeOf (n := cs.length) ht.2 w)]
  have h2 := run_loadCellsFrom (P := P) a cs 0 #[] cs (by simp) h
  rw [run_bind_ok (show (loadCells a cs.length).run P w = _ from h2)]
  simp [go_sem]
end
def splice (cs : List Value) (o : Nat) (vs : List Value) : List Value := cs.take o ++ vs ++ cs.drop (o + vs.length)
section
variable {P : Program} {w : World}
theorem Box.store1 {b o : Nat} {t : TypeId} {cs : List Value} {v u : Value} (h : Box w b t cs) (ho : cs[o]? = some u) (hv : oneC v = true) :
    (Go.store ⟨b, o, none⟩ v).run P w = .ok () (w.setCell ⟨b, o, none⟩ v) := by
  unfold Box at h
  have hc : w.cell? ⟨b, o, none⟩ = some u := by simp [World.cell?, h, ho]
  have hf : w.frozen? ⟨b, o, none⟩ = false := by simp [World.frozen?, h]
  cases v <;> simp [oneC] at hv <;> simp [Go.store, Sem.run, hc, hf]
theorem Box.setCell {b o : Nat} {t : TypeId} {cs : List Value} {v : Value} (h : Box w b t cs) (ho : o < cs.length) :
    Box (w.setCell ⟨b, o, none⟩ v) b t (cs.set o v) ∧ Chg (one b) w (w.setCell ⟨b, o, none⟩ v) ∧ (w.setCell ⟨b, o, none⟩ v).heap.size = w.heap.size := by
  unfold Box at *
  refine ⟨?_, ⟨rfl, rfl, rfl, by simp [World.setCell], fun k hk hn => ?_⟩, by simp [World.setCell]⟩
  · simp only [World.setCell, Array.getElem?_modify, if_true, h]
    simp
  · exact Go.RowKit.Below.heap_setCell w _ v k (fun hb => hn hb)
theorem Box.storeL {b : Nat} {t : TypeId} (vs : List Value) : ∀ {w : World} {cs : List Value} {o i : Nat}, Box w b t cs → o + i + vs.length ≤ cs.length → (∀ v ∈ vs, oneC v = true) →
    ∃ w', (storeCells ⟨b, o, none⟩ vs i).run P w = .ok () w' ∧ Box w' b t (splice cs (o + i) vs) ∧ Chg (one b) w w' ∧ w'.heap.size = w.heap.size := by
  induction vs with
  | nil =>
    intro w cs o i h _ _
    exact ⟨w, by simp [storeCells, go_sem], by simpa [splice] using h, Chg.refl _ _, rfl⟩
  | cons v vs ih =>
    intro w cs o i h hle h1
    simp only [List.length_cons] at hle
    have hlt : o + i < cs.length := by omega
    have hs := h.store1 (P := P) (o := o + i) (v := v) (u := cs[o + i]) (by simp [hlt]) (h1 v (by simp))
    obtain ⟨hb', hx, hsz⟩ := h.setCell (o := o + i) (v := v) hlt
    obtain ⟨w', hr, hb2, hx2, hsz2⟩ := ih (o := o) (i := i + 1) hb' (by simp; omega) (fun u hu => h1 u (by simp [hu]))
    refine ⟨w', ?_, ?_, hx.trans hx2, by rw [hsz2, hsz]⟩
    · simp only [storeCells, add_lit]
      rw [run_bind_ok hs]
      exact hr
    · have : splice (cs.set (o + i) v) (o + (i + 1)) vs = splice cs (o + i) (v :: vs) := by
        unfold splice
        rw [show o + (i + 1) = o + i + 1 by omega, List.drop_set]
        rw [if_pos (by omega)]
        rw [List.take_set, List.take_succ_eq_append_getElem (by omega)]
        simp only [List.length_cons]
        rw [show o + i + 1 + vs.length = o + i + (vs.length + 1) by omega]
        rw [List.set_append]
        have hm : min (o + i) cs.length = o + i := by omega
        simp [hm]
      rw [this] at hb2
      exact hb2
theorem Box.store {b o : Nat} {t t' : TypeId} {cs : List Value} {v : Value} (h : Box w b t cs) (hsz : sizeB P t' v.cells.size = true) (hle : o + v.cells.size ≤ cs.length)
    (h1 : v.cells.toList.all oneC = true) :
    ∃ w', (storeVar t' ⟨b, o, none⟩ v).run P w = .ok () w' ∧ Box w' b t (splice cs o v.cells.toList) ∧ Chg (one b) w w' ∧ w'.heap.size = w.heap.size := by
  obtain ⟨w', hr, hb, hx, hs⟩ := h.storeL (P := P) v.cells.toList (o := o) (i := 0) (by simpa using hle) (fun u hu => List.all_eq_true.1 h1 u hu)
  refine ⟨w', ?_, hb, hx, hs⟩
  unfold storeVar
  rw [run_bind_ok (run_sizeOf hsz w)]
  simp only [ne_eq, not_true_eq_false, if_false]
  exact hr
end
section
variable {P : Program} {n : Nat} {K : Env → World → Prop} {ops : Array Oper} {j : Nat} {e : Env} {w : World}
def newBoxAt (P : Program) (n : Nat) (ops : Array Oper) (j : Nat) (e : Env) (b : Nat) : Option (Value × TypeId × List Value) :=
  match newAt P n ops j e b with
  | some (v, .cells cs t (0, 0)) => some (v, t, cs.toList)
  | _ => none
theorem RG.new {v : Nat → Value} {t : TypeId} {cs : List Value} (h : ∀ b, newBoxAt P n ops j e b = some (v b, t, cs))
    (H : ∀ b w', b = w.heap.size → Ext w w' → Box w' b t cs → w'.heap.size = b + 1 → RG P n K ops (j + 1) (putE e (opAt ops j).dst (v b)) w') : RG P n K ops j e w := by
  have h1 := h w.heap.size
  unfold newBoxAt at h1
  split at h1
  · rename_i v' cs' t' hn
    simp only [Option.some.injEq, Prod.mk.injEq] at h1
    obtain ⟨rfl, rfl, rfl⟩ := h1
    refine RG.newO hn (H _ _ rfl (Ext.alloc _ _) ?_ (by show (w.heap.push _).size = _; simp))
    have := Box.new w t' cs'.toList
    simpa using this
  · cases h1
theorem RG.loadB {t t' : TypeId} {b o : Nat} {cs : List Value} {v : Value} (hb : Box w b t cs) (h : loadAt n ops j e = some (t', ⟨b, o, none⟩)) (hs : scalarB P t' = true) (hv : cs[o]? = some v)
    (H : RG P n K ops (j + 1) (putE e (opAt ops j).dst v) w) : RG P n K ops j e w :=
  RG.load h ((hb.has o [v] (by
    have : (cs.drop o)[0]? = some v := by simpa [List.getElem?_drop] using hv
    cases hd : cs.drop o with
    | nil => rw [hd] at this; cases this
    | cons x r => rw [hd] at this; simp at this; subst this; simp)).load1 hs rfl) H
theorem RG.loadBN {t t' : TypeId} {b o : Nat} {cs : List Value} (vs : List Value) (hb : Box w b t cs) (h : loadAt n ops j e = some (t', ⟨b, o, none⟩)) (hs : aggB P t' vs.length = true) (hv : (cs.drop o).take vs.length = vs)
    (H : RG P n K ops (j + 1) (putE e (opAt ops j).dst (.agg vs.toArray)) w) : RG P n K ops j e w :=
  RG.load h ((hb.has o vs hv).loadN hs) H
theorem RG.storeB {t t' : TypeId} {b o : Nat} {cs : List Value} {v : Value} (cs' : List Value) (hb : Box w b t cs) (h : storeAt n ops j e = some (t', ⟨b, o, none⟩, v))
    (hs : (sizeB P t' v.cells.size && Nat.ble (o + v.cells.size) cs.length && v.cells.toList.all oneC) = true) (hc : splice cs o v.cells.toList = cs')
    (H : ∀ w', Chg (one b) w w' → Box w' b t cs' → w'.heap.size = w.heap.size → RG P n K ops (j + 1) (putE e (opAt ops j).dst undef) w') : RG P n K ops j e w := by
  simp only [Bool.and_eq_true] at hs
  obtain ⟨w', hr, hb', hx, hsz⟩ := hb.store (P := P) (t' := t') (o := o) (v := v) hs.1.1 (Nat.le_of_ble_eq_true hs.1.2) hs.2
  rw [hc] at hb'
  exact RG.store h hr (H w' hx hb' hsz)
end
def idxAt (P : Program) (n : Nat) (ops : Array Oper) (j : Nat) (e : Env) : Option (Option Addr × Nat × Int × Nat) :=
  bif goAt n ops j e then
    match (opAt ops j).op with
    | .indexAddr t x ix => match P.underlying t, ev e x, ev e ix with
      | some (.slice el), .slice a len _, .int _ i => match P.info? el with
        | some inf => some (a, len, i, inf.size)
        | none => none
      | _, _, _ => none
    | _ => none
  else none
section
variable {P : Program} {n : Nat} {K : Env → World → Prop} {ops : Array Oper} {j : Nat} {e : Env} {w : World}
theorem run_idx {a : Option Addr} {len : Nat} {i : Int} {sz b o i' : Nat} (h : idxAt P n ops j e = some (a, len, i, sz)) (hi : i = (i' : Int)) (hlt : i' < len) (ha : a = some ⟨b, o, none⟩) (w : World) :
    goAt n ops j e = true ∧ (execOp (ev e) (opAt ops j)).run P w = .ok (.value (.pointer (some ⟨b, o + i' * sz, none⟩))) w := by
  obtain ⟨hg, h⟩ := goAt_of h
  refine ⟨hg, ?_⟩
  split at h
  · rename_i t x ix hop
    split at h
    · rename_i el a' len' c' k i0 hu hx hix
      split at h
      · rename_i inf hinf
        simp only [Option.some.injEq, Prod.mk.injEq] at h
        obtain ⟨rfl, rfl, rfl, rfl⟩ := h
        subst ha hi
        simp only [execOp, hop, hx, hix]
        refine run_bind_ok (a := Value.pointer (some ⟨b, o + i' * inf.size, none⟩)) ?_
        unfold Instr.indexAt
        have h1 : (0 : Int) ≤ (i' : Int) ∧ (i' : Int) < (len' : Int) := by omega
        have hs : (sizeOf el).run P w = .ok inf.size w := by simp [sizeOf, typeInfo, hinf, go_sem]
        have hun : (underlying t).run P w = .ok (.slice el) w := by simp [underlying, hu, go_sem]
        rw [run_bind_ok (a := (k, (i' : Int))) (w' := w) (by rfl)]
        simp only []
        rw [run_bind_ok hun]
        simp only [pure_bind]
        rw [run_bind_ok hun]
        simp only [h1, and_self, if_true]
        rw [run_bind_ok hs]
        rw [add_lit]
        simp [go_sem]
      · cases h
    · cases h
  · cases h
theorem RG.idx {a : Option Addr} {len : Nat} {i : Int} {sz b o : Nat} (i' : Nat) (h : idxAt P n ops j e = some (a, len, i, sz)) (hi : i = (i' : Int)) (hlt : i' < len) (ha : a = some ⟨b, o, none⟩)
    (H : RG P n K ops (j + 1) (putE e (opAt ops j).dst (.pointer (some ⟨b, o + i' * sz, none⟩))) w) : RG P n K ops j e w :=
  have h1 := run_idx h hi hlt ha w
  RG.val h1.1 h1.2 H
theorem Has.loadAt {t' : TypeId} {b o : Nat} {cs : List Value} (k : Nat) {v : Value} (hc : Has w ⟨b, o, none⟩ cs) (hs : scalarB P t' = true) (hv : cs[k]? = some v) : (loadVar t' ⟨b, o + k, none⟩).run P w = .ok v w := by
  have h1 := hc k v hv
  rw [add_lit] at h1
  unfold loadVar
  rw [run_bind_ok (run_isAgg_false hs w)]
  simp [Go.load, Sem.run, h1]
theorem Has.sub {b o : Nat} {cs : List Value} (k : Nat) (vs : List Value) (hc : Has w ⟨b, o, none⟩ cs) (hv : (cs.drop k).take vs.length = vs) : Has w ⟨b, o + k, none⟩ vs := by
  intro i u hu
  have h1 : cs[k + i]? = some u := by
    rw [← hv] at hu
    rw [List.getElem?_take] at hu
    split at hu
    · rw [List.getElem?_drop] at hu; exact hu
    · cases hu
  have h2 := hc (k + i) u h1
  rw [add_lit] at h2 ⊢
  rw [show o + k + i = o + (k + i) by omega]
  exact h2
theorem Has.loadNAt {t' : TypeId} {b o : Nat} {cs : List Value} (k : Nat) (vs : List Value) (hc : Has w ⟨b, o, none⟩ cs) (hs : aggB P t' vs.length = true) (hv : (cs.drop k).take vs.length = vs) :
    (loadVar t' ⟨b, o + k, none⟩).run P w = .ok (.agg vs.toArray) w := (hc.sub k vs hv).loadN hs
theorem RG.loadH {t' : TypeId} {b o : Nat} {cs : List Value} (k : Nat) {v : Value} (hc : Has w ⟨b, o, none⟩ cs) (h : loadAt n ops j e = some (t', ⟨b, o + k, none⟩)) (hs : scalarB P t' = true) (hv : cs[k]? = some v)
    (H : RG P n K ops (j + 1) (putE e (opAt ops j).dst v) w) : RG P n K ops j e w :=
  RG.load h (hc.loadAt k hs hv) H
theorem RG.loadHN {t' : TypeId} {b o : Nat} {cs : List Value} (k : Nat) (vs : List Value) (hc : Has w ⟨b, o, none⟩ cs) (h : loadAt n ops j e = some (t', ⟨b, o + k, none⟩)) (hs : aggB P t' vs.length = true) (hv : (cs.drop k).take vs.length = vs)
    (H : RG P n K ops (j + 1) (putE e (opAt ops j).dst (.agg vs.toArray)) w) : RG P n K ops j e w :=
  RG.load h (hc.loadNAt k vs hs hv) H
theorem RG.eqI {a b : Int} (h : pvAt P n ops j e = some (.bool (a == b))) (ht : a = b → RG P n K ops (j + 1) (putE e (opAt ops j).dst (.bool true)) w)
    (hf : a ≠ b → RG P n K ops (j + 1) (putE e (opAt ops j).dst (.bool false)) w) : RG P n K ops j e w :=
  RG.bool _ h (fun hb => ht (by simpa using hb)) (fun hb => hf (by simpa using hb))
theorem RG.neI {a b : Int} (h : pvAt P n ops j e = some (.bool (a != b))) (ht : a ≠ b → RG P n K ops (j + 1) (putE e (opAt ops j).dst (.bool true)) w)
    (hf : a = b → RG P n K ops (j + 1) (putE e (opAt ops j).dst (.bool false)) w) : RG P n K ops j e w :=
  RG.bool _ h (fun hb => ht (by simpa using hb)) (fun hb => hf (by simpa using hb))
end
class Rep (α : Type) where
  sz : Nat
  rep : World → (Nat → Prop) → α → List Value → Prop
  len : ∀ {w F x cs}, rep w F x cs → cs.length = sz
  pos : 0 < sz
  flat : ∀ {w F x cs}, rep w F x cs → ∀ v ∈ cs, oneC v = true
  frame : ∀ {w w' : World} {F F' : Nat → Prop} {x cs}, rep w F x cs → (∀ b, b < w.heap.size → F b → F' b ∧ w'.heap[b]? = w.heap[b]?) → rep w' F' x cs
def blk : Option Addr → Nat | some a => a.block | none => 0
def off : Option Addr → Nat | some a => a.off | none => 0
section
variable {α : Type} [Rep α]
structure RepS (w : World) (F : Nat → Prop) (a : Option Addr) (n c : Nat) (xs : List α) : Prop where
  len : n = xs.length
  le : n ≤ c
  cap : c ≤ maxLen
  addr : 0 < n → a = some ⟨blk a, off a, none⟩
  inF : 0 < n → F (blk a)
  elem : ∀ i x, xs[i]? = some x → ∃ cs, Rep.rep w F x cs ∧ Has w ⟨blk a, off a + i * Rep.sz α, none⟩ cs
theorem RepS.frame {w w' : World} {F F' : Nat → Prop} {a : Option Addr} {n c : Nat} {xs : List α} (h : RepS w F a n c xs) (hf : ∀ b, b < w.heap.size → F b → F' b ∧ w'.heap[b]? = w.heap[b]?) : RepS w' F' a n c xs := by
  have hblk : 0 < n → blk a < w.heap.size := fun hn => by
    have hx : 0 < xs.length := by have := h.len; omega
    obtain ⟨cs, hr, hc⟩ := h.elem 0 xs[0] (by simp [hx])
    have hl := Rep.len hr
    have hp := Rep.pos (α := α)
    have h0 := hc 0 cs[0] (by simp)
    rw [add_lit] at h0
    exact World.block_lt_of_cell? w _ h0
  refine ⟨h.len, h.le, h.cap, h.addr, fun hn => (hf _ (hblk hn) (h.inF hn)).1, fun i x hx => ?_⟩
  have hn : 0 < n := by
    have := (List.getElem?_eq_some_iff.1 hx).1
    have := h.len
    omega
  obtain ⟨cs, hr, hc⟩ := h.elem i x hx
  refine ⟨cs, Rep.frame hr hf, fun k u hu => ?_⟩
  have h1 := hc k u hu
  rw [← h1, add_lit]
  exact World.cell?_of_block (hf _ (hblk hn) (h.inF hn)).2
theorem RepS.max {w : World} {F : Nat → Prop} {a : Option Addr} {n c : Nat} {xs : List α} (h : RepS w F a n c xs) : n ≤ 9223372036854775807 := by
  have h1 := h.le
  have h2 := h.cap
  unfold maxLen at h2
  omega
theorem RepS.chg {S F : Nat → Prop} {w w' : World} {a : Option Addr} {n c : Nat} {xs : List α} (h : RepS w F a n c xs) (hx : Chg S w w') (hs : ∀ b, F b → ¬ S b) : RepS w' F a n c xs :=
  h.frame fun b hb hF => ⟨hF, hx.block b hb (hs b hF)⟩
theorem RepS.ext {F : Nat → Prop} {w w' : World} {a : Option Addr} {n c : Nat} {xs : List α} (h : RepS w F a n c xs) (hx : Ext w w') : RepS w' F a n c xs :=
  h.chg hx fun _ _ h => h
theorem RepS.weak {F F' : Nat → Prop} {w : World} {a : Option Addr} {n c : Nat} {xs : List α} (h : RepS w F a n c xs) (hf : ∀ b, b < w.heap.size → F b → F' b) : RepS w F' a n c xs :=
  h.frame fun b hb hF => ⟨hf b hb hF, rfl⟩
def lo (s b : Nat) : Prop := b < s
theorem RepS.nil' (w : World) (F : Nat → Prop) (a : Option Addr) (c : Nat) (hc : c ≤ maxLen) : RepS w F a 0 c ([] : List α) :=
  ⟨rfl, Nat.zero_le _, hc, fun h => absurd h (by omega), fun h => absurd h (by omega), fun i x hx => by simp at hx⟩
instance : Rep (List α) where
  sz := 1
  rep w F xs cs := ∃ a n c, cs = [.slice a n c] ∧ RepS w F a n c xs
  len := by rintro w F x cs ⟨a, n, c, rfl, _⟩; rfl
  pos := by decide
  flat := by rintro w F x cs ⟨a, n, c, rfl, _⟩ v hv; simp at hv; subst hv; rfl
  frame := by rintro w w' F F' x cs ⟨a, n, c, rfl, h⟩ hf; exact ⟨a, n, c, rfl, h.frame hf⟩
end
instance : Rep Int where
  sz := 1
  rep _ _ x cs := cs = [.int .i64 x]
  len := by rintro w F x cs rfl; rfl
  pos := by decide
  flat := by rintro w F x cs rfl v hv; simp at hv; subst hv; rfl
  frame := by rintro w w' F F' x cs rfl _; rfl
instance : Rep UInt8 where
  sz := 1
  rep _ _ x cs := cs = [.int .u8 x.toNat]
  len := by rintro w F x cs rfl; rfl
  pos := by decide
  flat := by rintro w F x cs rfl v hv; simp at hv; subst hv; rfl
  frame := by rintro w w' F F' x cs rfl _; rfl
def VL {α : Type} [Rep α] (F : Nat → Prop) (w : World) (y : List α) (v : Value) : Prop := ∃ a c, v = .slice a y.length c ∧ RepS w F a y.length c y
def VS {α : Type} [Rep α] (F : Nat → Prop) (w : World) (y : α) (v : Value) : Prop := ∃ cs, v = .agg cs.toArray ∧ Rep.rep w F y cs
theorem RepS.vl {α : Type} [Rep α] {F F' : Nat → Prop} {w : World} {a : Option Addr} {n c : Nat} {xs y : List α} (h : RepS w F a n c xs) (hy : xs = y) (hf : ∀ b, b < w.heap.size → F b → F' b) : VL F' w y (.slice a n c) := by
  subst hy
  have hl := h.len
  subst hl
  exact ⟨a, c, rfl, h.weak hf⟩
abbrev Str := List UInt8
def bs (s : Str) : ByteArray := ⟨s.toArray⟩
structure Txt where
  s : Str
  deriving DecidableEq
instance : Rep Txt where
  sz := 1
  rep _ _ x cs := cs = [.string (bs x.s)]
  len := by rintro w F x cs rfl; rfl
  pos := by decide
  flat := by rintro w F x cs rfl v hv; simp at hv; subst hv; rfl
  frame := by rintro w w' F F' x cs rfl _; rfl
end Go.Proofs.YtfnpaglcnmcnbaaGreat
