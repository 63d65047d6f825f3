/- Rows that the call itself has made: what append and a store into an element do to them. No conditions. -/
import Derived.Test.YtfnpaglcnmcnbaaGreatFluzData
import Derived.Test.YtfnpaglcnmcnbaaGreatFluzDraw
set_option linter.unusedVariables false
set_option linter.unusedSimpArgs false
namespace Go.Proofs.YtfnpaglcnmcnbaaGreat
structure Own {α : Type} [Rep α] (w : World) (r : Nat) (t : TypeId) (F : Nat → Prop) (n c : Nat) (xs : List α) : Prop where
  len : n = xs.length
  le : n ≤ c
  cap : c ≤ maxLen
  row : ∃ cur, w.heap[r]? = some (.cells cur t (0, 0)) ∧ cur.size = c * Rep.sz α
  elem : ∀ i x, xs[i]? = some x → ∃ cs, Rep.rep w (fun b => F b ∧ b ≠ r) x cs ∧ Has w ⟨r, i * Rep.sz α, none⟩ cs
section
variable {α : Type} [Rep α] {w w' : World} {r : Nat} {t : TypeId} {F : Nat → Prop} {n c : Nat} {xs : List α}
theorem Own.lt (h : Own w r t F n c xs) : r < w.heap.size := by
  obtain ⟨cur, h1, _⟩ := h.row
  exact (Array.getElem?_eq_some_iff.1 h1).1
theorem Own.max (h : Own w r t F n c xs) : n ≤ 9223372036854775807 := by
  have h1 := h.le
  have h2 := h.cap
  unfold maxLen at h2
  omega
theorem Own.chg {S : Nat → Prop} (h : Own w r t F n c xs) (hx : Chg S w w') (hr : ¬ S r) (hs : ∀ b, F b → b ≠ r → ¬ S b) : Own w' r t F n c xs := by
  refine ⟨h.len, h.le, h.cap, ?_, fun i x hi => ?_⟩
  · obtain ⟨cur, h1, h2⟩ := h.row
    exact ⟨cur, (hx.block r h.lt hr).trans h1, h2⟩
  · obtain ⟨cs, h1, h2⟩ := h.elem i x hi
    exact ⟨cs, Rep.frame h1 (fun b hb hF => ⟨hF, hx.block b hb (hs b hF.1 hF.2)⟩), h2.chg hx hr⟩
theorem Own.ext (h : Own w r t F n c xs) (hx : Ext w w') : Own w' r t F n c xs := h.chg hx (fun h => h) (fun _ _ _ h => h)
theorem Own.weak {F' : Nat → Prop} (h : Own w r t F n c xs) (hf : ∀ b, b < w.heap.size → F b → F' b) : Own w r t F' n c xs :=
  ⟨h.len, h.le, h.cap, h.row, fun i x hi => by
    obtain ⟨cs, h1, h2⟩ := h.elem i x hi
    exact ⟨cs, Rep.frame h1 (fun b hb hF => ⟨⟨hf b hb hF.1, hF.2⟩, rfl⟩), h2⟩⟩
theorem Own.rep' {F' : Nat → Prop} (h : Own w r t F n c xs) (hf : ∀ b, b < w.heap.size → F b → F' b) (hr : F' r) : RepS w F' (some ⟨r, 0, none⟩) n c xs :=
  ⟨h.len, h.le, h.cap, fun _ => rfl, fun _ => hr, fun i x hi => by
    obtain ⟨cs, h1, h2⟩ := h.elem i x hi
    refine ⟨cs, Rep.frame h1 (fun b hb hF => ⟨hf b hb hF.1, rfl⟩), ?_⟩
    simpa [blk, off] using h2⟩
def all (_ : Nat) : Prop := True
def ge (l b : Nat) : Prop := l ≤ b
theorem Own.rep (h : Own w r t F n c xs) : RepS w all (some ⟨r, 0, none⟩) n c xs := h.rep' (fun _ _ _ => trivial) trivial
theorem Own.nil (h : Box w r t []) (F : Nat → Prop) : Own w r t F 0 0 ([] : List α) :=
  ⟨rfl, Nat.le_refl _, by decide, ⟨#[], h, by simp⟩, fun i x hi => by simp at hi⟩
theorem RepS.flatten {a : Option Addr} (h : RepS w F a n c xs) : ∃ cs : List Value, cs.length = n * Rep.sz α ∧ (∀ v ∈ cs, oneC v = true) ∧
    (∀ j u, cs[j]? = some u → w.cell? ⟨blk a, off a + j, none⟩ = some u) ∧ (∀ i x, xs[i]? = some x → Rep.rep w F x ((cs.drop (i * Rep.sz α)).take (Rep.sz α))) := by
  have key : ∀ k, k ≤ n → ∃ cs : List Value, cs.length = k * Rep.sz α ∧ (∀ v ∈ cs, oneC v = true) ∧
      (∀ j u, cs[j]? = some u → w.cell? ⟨blk a, off a + j, none⟩ = some u) ∧ (∀ i x, i < k → xs[i]? = some x → Rep.rep w F x ((cs.drop (i * Rep.sz α)).take (Rep.sz α))) := by
    intro k
    induction k with
    | zero => exact fun _ => ⟨[], by simp, by simp, by simp, fun i x hi => absurd hi (by omega)⟩
    | succ k ih =>
      intro hk
      obtain ⟨cs, h1, h2, h3, h4⟩ := ih (by omega)
      have hlt : k < xs.length := by have := h.len; omega
      obtain ⟨ds, hr, hd⟩ := h.elem k xs[k] (by simp [hlt])
      have hl := Rep.len hr
      refine ⟨cs ++ ds, by rw [List.length_append, h1, hl, Nat.succ_mul], ?_, ?_, ?_⟩
      · intro v hv
        rcases List.mem_append.1 hv with hv | hv
        · exact h2 v hv
        · exact Rep.flat hr v hv
      · intro j u hu
        rw [List.getElem?_append] at hu
        split at hu
        · exact h3 j u hu
        · rename_i hj
          have := hd (j - cs.length) u hu
          rw [add_lit] at this
          rw [← this]
          congr 2
          rw [h1] at hj ⊢
          omega
      · intro i x hi hx
        by_cases hik : i = k
        · subst hik
          have hxe : xs[i] = x := by
            have := List.getElem?_eq_getElem hlt
            rw [this] at hx
            exact Option.some.inj hx
          rw [← h1, List.drop_left, ← hl, List.take_length, ← hxe]
          exact hr
        · have hi' : i < k := by omega
          have := h4 i x hi' hx
          have hle : (i + 1) * Rep.sz α ≤ cs.length := by rw [h1]; exact Nat.mul_le_mul_right _ (by omega)
          rw [Nat.succ_mul] at hle
          rw [List.drop_append_of_le_length (by omega), List.take_append_of_le_length (by rw [List.length_drop]; omega)]
          exact this
  obtain ⟨cs, h1, h2, h3, h4⟩ := key n (Nat.le_refl _)
  exact ⟨cs, h1, h2, h3, fun i x hx => h4 i x (by have := (List.getElem?_eq_some_iff.1 hx).1; have := h.len; omega) hx⟩
def appB (P : Program) (T t : TypeId) (sz : Nat) : Bool :=
  (match P.underlying T with | some (.slice e) => Nat.beq e t | _ => false) &&
  (match P.info? t with
   | some i => Nat.beq i.size sz && Nat.ble i.bytes 1000 && (match i.zero with | some z => Nat.beq z.cells.size sz | none => false)
   | none => false)
theorem appB_spec {P : Program} {T : TypeId} {sz : Nat} (h : appB P T t sz = true) : P.underlying T = some (.slice t) ∧ ∃ i z, P.info? t = some i ∧ i.size = sz ∧ i.bytes ≤ 1000 ∧ i.zero = some z ∧ z.cells.size = sz := by
  simp only [appB, Bool.and_eq_true] at h
  obtain ⟨h1, h2⟩ := h
  constructor
  · split at h1
    · rename_i e he; rw [he, Nat.eq_of_beq_eq_true h1]
    · cases h1
  · split at h2
    · rename_i i hi
      simp only [Bool.and_eq_true] at h2
      obtain ⟨⟨h3, h4⟩, h5⟩ := h2
      split at h5
      · rename_i z hz
        exact ⟨i, z, hi, Nat.eq_of_beq_eq_true h3, Nat.le_of_ble_eq_true h4, hz, Nat.eq_of_beq_eq_true h5⟩
      · cases h5
    · cases h2
theorem oneC_old {v : Value} (h : oneC v = true) : v.oneCell' = true := by cases v <;> simp_all [oneC, Value.oneCell']
theorem run_append_zero {P : Program} {T ty : TypeId} {i : TypeInfo} (ht : P.underlying T = some (.slice t)) (hi : P.info? t = some i) (b a : Option Addr) (n c c' : Nat) (hc : n ≤ c) (w : World) :
    (Builtin.append_ #[T, T] ty #[.slice b n c, .slice a 0 c']).run P w = .ok (.slice b n c) w := by
  have hf : (Builtin.firstCells i.size 0 (.slice a 0 c')).run P w = .ok #[] w := by
    cases a <;> simp [Builtin.firstCells, loadCells, loadCellsFrom]
  cases b <;> simp [Builtin.append_, run_underlying ht, sizeOf, typeInfo, hi, Builtin.lenOf, hc, hf, storeCells]
theorem Own.append {P : Program} {T ty : TypeId} {F2 : Nat → Prop} {a : Option Addr} {m c' : Nat} {ys : List α} (ho : Own w r t F n c xs) (hT : appB P T t (Rep.sz α) = true)
    (hn : RepS w F2 a m c' ys) (h2 : ∀ b, b < w.heap.size → F2 b → F b ∧ b ≠ r) (hs : n + m ≤ 100000000000) :
    ∃ r' c2 w', (Builtin.append_ #[T, T] ty #[.slice (some ⟨r, 0, none⟩) n c, .slice a m c']).run P w = .ok (.slice (some ⟨r', 0, none⟩) (n + m) c2) w' ∧
      Own w' r' t F (n + m) c2 (xs ++ ys) ∧ (r' = r ∨ r' = w.heap.size) ∧ Chg (one r) w w' ∧ w'.heap.size ≤ w.heap.size + 1 := by
  obtain ⟨ht, i, z, hi, hsz, hby, hz, hzs⟩ := appB_spec hT
  have hpos := Rep.pos (α := α)
  by_cases hm : m = 0
  · subst hm
    have hy : ys = [] := List.eq_nil_of_length_eq_zero hn.len.symm
    subst hy
    exact ⟨r, c, w, run_append_zero ht hi _ _ _ _ _ ho.le w, by simpa using ho, .inl rfl, Chg.refl _ _, by omega⟩
  · have haddr := hn.addr (by omega)
    obtain ⟨ncs, hl, h1, hc2, hrep⟩ := hn.flatten
    rw [haddr]
    have hnews : ∀ j u, ncs[j]? = some u → w.cell? ((⟨blk a, off a, none⟩ : Addr).add j) = some u := fun j u hu => by rw [add_lit]; exact hc2 j u hu
    have hold1 : ∀ u ∈ ncs, u.oneCell' = true := fun u hu => oneC_old (h1 u hu)
    obtain ⟨cur, hcur, hcs⟩ := ho.row
    by_cases hroom : n + m ≤ c
    · have hfit : n * Rep.sz α + ncs.length ≤ cur.size := by rw [hl, hcs, ← Nat.add_mul]; exact Nat.mul_le_mul_right _ hroom
      have hr := run_append_room (P := P) w T ty t i ht hi r n c cur hcur ⟨blk a, off a, none⟩ m c' ncs (by rw [hsz]; exact hl) hnews hold1 hroom (by rw [hsz]; exact hfit)
      rw [hsz] at hr
      generalize hcur' : (cur.toList.take (n * Rep.sz α) ++ ncs ++ cur.toList.drop (n * Rep.sz α + ncs.length)) = cur' at hr
      have hlen' : cur'.length = cur.size := by
        rw [← hcur']
        simp only [List.length_append, List.length_take, List.length_drop, Array.length_toList]
        omega
      have hset : (w.setRow r cur'.toArray).heap[r]? = some (.cells cur'.toArray t (0, 0)) := setRow_heap w r cur _ t _ hcur
      have hoth : ∀ k, k ≠ r → (w.setRow r cur'.toArray).heap[k]? = w.heap[k]? := fun k hk => setRow_other w r k _ hk
      have hsize : (w.setRow r cur'.toArray).heap.size = w.heap.size := by simp [World.setRow]
      refine ⟨r, c, _, hr, ⟨?_, hroom, ho.cap, ⟨_, hset, by simp [hlen', hcs]⟩, ?_⟩, .inl rfl, ⟨rfl, rfl, rfl, by omega, fun k hk hn => hoth k hn⟩, by omega⟩
      · rw [List.length_append, ← ho.len, ← hn.len]
      · intro j x hx
        have hcell : ∀ k u, cur'[k]? = some u → (w.setRow r cur'.toArray).cell? ⟨r, k, none⟩ = some u := fun k u hu => by simp [World.cell?, hset, hu]
        rw [List.getElem?_append] at hx
        split at hx
        · rename_i hj
          obtain ⟨cs, hr1, hr2⟩ := ho.elem j x hx
          refine ⟨cs, Rep.frame hr1 (fun b hb hF => ⟨hF, hoth b hF.2⟩), fun k u hu => ?_⟩
          have h5 := hr2 k u hu
          rw [add_lit] at h5 ⊢
          apply hcell
          have hk : k < Rep.sz α := by
            have := (List.getElem?_eq_some_iff.1 hu).1
            rw [Rep.len hr1] at this
            exact this
          have hjn : j < n := by have := ho.len; omega
          have hlt : j * Rep.sz α + k < n * Rep.sz α := by
            have : (j + 1) * Rep.sz α ≤ n * Rep.sz α := Nat.mul_le_mul_right _ hjn
            rw [Nat.succ_mul] at this
            omega
          have hlen : n * Rep.sz α ≤ cur.toList.length := by simp only [Array.length_toList]; omega
          rw [← hcur', List.append_assoc, List.getElem?_append_left (by rw [List.length_take]; omega), List.getElem?_take, if_pos hlt]
          simp only [World.cell?, hcur] at h5
          simpa using h5
        · rename_i hj
          have hxl : xs.length = n := ho.len.symm
          rw [hxl] at hx hj
          have hrp := hrep (j - n) x hx
          have hjm : j - n < m := by
            have := (List.getElem?_eq_some_iff.1 hx).1
            have := hn.len
            omega
          refine ⟨_, Rep.frame hrp (fun b hb hF => ⟨h2 b hb hF, hoth b (h2 b hb hF).2⟩), fun k u hu => ?_⟩
          rw [add_lit]
          apply hcell
          rw [List.getElem?_take] at hu
          split at hu
          · rename_i hk
            rw [List.getElem?_drop] at hu
            have hlen : n * Rep.sz α ≤ cur.toList.length := by simp only [Array.length_toList]; omega
            have hidx : (j - n) * Rep.sz α + k < ncs.length := (List.getElem?_eq_some_iff.1 hu).1
            have hjm2 : j * Rep.sz α = n * Rep.sz α + (j - n) * Rep.sz α := by rw [← Nat.add_mul]; congr 1; omega
            rw [← hcur', List.append_assoc, List.getElem?_append_right (by rw [List.length_take]; omega), List.length_take, Nat.min_eq_left hlen]
            rw [show j * Rep.sz α + k - n * Rep.sz α = (j - n) * Rep.sz α + k by omega]
            rw [List.getElem?_append_left hidx]
            exact hu
          · cases hu
    · have hcl : cur.toList.length = c * Rep.sz α := by simp [hcs]
      have hole : (cur.toList.take (n * Rep.sz α)).length = n * i.size := by
        rw [List.length_take, hcl, hsz]
        have := Nat.mul_le_mul_right (Rep.sz α) ho.le
        omega
      have holds : ∀ j v, (cur.toList.take (n * Rep.sz α))[j]? = some v → w.cell? ((⟨r, 0, none⟩ : Addr).add j) = some v := by
        intro j v hv
        rw [List.getElem?_take] at hv
        split at hv
        · rw [add_lit]; simp only [Nat.zero_add, World.cell?, hcur]; simpa using hv
        · cases hv
      have hr := run_append_grow (P := P) w T ty t i z ht hi hz ⟨r, 0, none⟩ n c (cur.toList.take (n * Rep.sz α)) hole holds ⟨blk a, off a, none⟩ m c' ncs (by rw [hsz]; exact hl) hnews (by omega) (by omega)
        (growslice_fits (by omega) (Nat.le_trans (Nat.mul_le_mul hs hby) (by omega)))
      generalize hg : grownCap w (n + m) c t = gc at hr
      have hge : n + m ≤ gc := by rw [← hg]; exact grownCap_ge _ _ _ _
      have hgm : gc ≤ maxLen := by rw [← hg]; exact grownCap_le_maxLen _ _ _ _ (by unfold maxLen; omega)
      generalize hob : ((cur.toList.take (n * Rep.sz α)).toArray ++ ncs.toArray ++ Builtin.zeroCells z.cells (gc - (n + m))) = ob at hr
      have hnew : (w.drew.alloc (.cells ob t)).heap[w.heap.size]? = some (.cells ob t (0, 0)) := heap_alloc_new w.drew _
      have hoth : ∀ k, k < w.heap.size → (w.drew.alloc (.cells ob t)).heap[k]? = w.heap[k]? := fun k hk => heap_alloc_old w.drew _ k hk
      have hcell : ∀ k u, ob[k]? = some u → (w.drew.alloc (.cells ob t)).cell? ⟨w.heap.size, k, none⟩ = some u := fun k u hu => by simp only [World.cell?, hnew]; simpa using hu
      refine ⟨w.heap.size, gc, _, hr, ⟨?_, hge, hgm, ⟨ob, hnew, ?_⟩, ?_⟩, .inr rfl, ⟨rfl, rfl, rfl, by simp, fun k hk _ => hoth k hk⟩, by simp⟩
      · rw [List.length_append, ← ho.len, ← hn.len]
      · rw [← hob]
        simp only [Array.size_append, List.size_toArray, hole, hsz, hl, size_zeroCells, hzs, ← Nat.add_mul]
        congr 1
        omega
      · intro j x hx
        rw [List.getElem?_append] at hx
        split at hx
        · rename_i hj
          obtain ⟨cs, hr1, hr2⟩ := ho.elem j x hx
          refine ⟨cs, Rep.frame hr1 (fun b hb hF => ⟨⟨hF.1, by omega⟩, hoth b hb⟩), fun k u hu => ?_⟩
          have h5 := hr2 k u hu
          rw [add_lit] at h5 ⊢
          apply hcell
          have hk : k < Rep.sz α := by
            have := (List.getElem?_eq_some_iff.1 hu).1
            rw [Rep.len hr1] at this
            exact this
          have hjn : j < n := by have := ho.len; omega
          have hlt : j * Rep.sz α + k < n * Rep.sz α := by
            have : (j + 1) * Rep.sz α ≤ n * Rep.sz α := Nat.mul_le_mul_right _ hjn
            rw [Nat.succ_mul] at this
            omega
          rw [← hob, Array.append_assoc, Array.getElem?_append_left (by rw [List.size_toArray, hole, hsz]; omega)]
          simp only [List.getElem?_toArray, List.getElem?_take, if_pos hlt]
          simp only [World.cell?, hcur] at h5
          simpa using h5
        · rename_i hj
          have hxl : xs.length = n := ho.len.symm
          rw [hxl] at hx hj
          have hrp := hrep (j - n) x hx
          refine ⟨_, Rep.frame hrp (fun b hb hF => ⟨⟨(h2 b hb hF).1, by omega⟩, hoth b hb⟩), fun k u hu => ?_⟩
          rw [add_lit]
          apply hcell
          rw [List.getElem?_take] at hu
          split at hu
          · rename_i hk
            rw [List.getElem?_drop] at hu
            have hidx : (j - n) * Rep.sz α + k < ncs.length := (List.getElem?_eq_some_iff.1 hu).1
            have hjm2 : j * Rep.sz α = n * Rep.sz α + (j - n) * Rep.sz α := by rw [← Nat.add_mul]; congr 1; omega
            rw [← hob, Array.append_assoc, Array.getElem?_append_right (by rw [List.size_toArray, hole, hsz]; omega), List.size_toArray, hole, hsz]
            rw [show j * Rep.sz α + k - n * Rep.sz α = (j - n) * Rep.sz α + k by omega]
            rw [Array.getElem?_append_left (by simpa using hidx)]
            simpa using hu
          · cases hu
theorem Own.append1 {P : Program} {T ty : TypeId} {b : Nat} {cs : List Value} {y : α} (ho : Own w r t F n c xs) (hT : appB P T t (Rep.sz α) = true)
    (hB : Box w b t cs) (hr : Rep.rep w (fun b => F b ∧ b ≠ r) y cs) (hb : F b ∧ b ≠ r) (hs : n + 1 ≤ 100000000000) :
    ∃ r' c2 w', (Builtin.append_ #[T, T] ty #[.slice (some ⟨r, 0, none⟩) n c, .slice (some ⟨b, 0, none⟩) 1 1]).run P w = .ok (.slice (some ⟨r', 0, none⟩) (n + 1) c2) w' ∧
      Own w' r' t F (n + 1) c2 (xs ++ [y]) ∧ (r' = r ∨ r' = w.heap.size) ∧ Chg (one r) w w' ∧ w'.heap.size ≤ w.heap.size + 1 := by
  refine ho.append hT (F2 := fun b => F b ∧ b ≠ r) (ys := [y]) ⟨rfl, Nat.le_refl _, by decide, fun _ => rfl, fun _ => hb, fun i x hi => ?_⟩ (fun _ _ h => h) hs
  cases i with
  | zero =>
    simp at hi
    subst hi
    exact ⟨cs, hr, by simpa [blk, off] using hB.has 0 cs (by simp)⟩
  | succ i => simp at hi
theorem RG.append1 {P : Program} {nn : Nat} {K : Env → World → Prop} {ops : Array Oper} {j : Nat} {e : Env} {T ty : TypeId} {b : Nat} {cs : List Value} {y : α} (ho : Own w r t F n c xs) (hB : Box w b t cs)
    (h : bltAt nn ops j e = some (.append, [T, T], ty, [.slice (some ⟨r, 0, none⟩) n c, .slice (some ⟨b, 0, none⟩) 1 1])) (hT : appB P T t (Rep.sz α) = true)
    (hr : Rep.rep w (fun b => F b ∧ b ≠ r) y cs) (hb : F b ∧ b ≠ r) (hs : n + 1 ≤ 100000000000)
    (H : ∀ r' c2 w', Own w' r' t F (n + 1) c2 (xs ++ [y]) → (r' = r ∨ r' = w.heap.size) → Chg (one r) w w' → RG P nn K ops (j + 1) (putE e (opAt ops j).dst (.slice (some ⟨r', 0, none⟩) (n + 1) c2)) w') : RG P nn K ops j e w := by
  obtain ⟨r', c2, w', hrun, ho', hor, hx, _⟩ := ho.append1 (P := P) (T := T) (ty := ty) hT hB hr hb hs
  exact RG.append h hrun (H r' c2 w' ho' hor hx)
theorem RG.appendN {P : Program} {nn : Nat} {K : Env → World → Prop} {ops : Array Oper} {j : Nat} {e : Env} {T ty : TypeId} {F2 : Nat → Prop} {a : Option Addr} {m c' : Nat} {ys : List α} (ho : Own w r t F n c xs) (hn : RepS w F2 a m c' ys)
    (h : bltAt nn ops j e = some (.append, [T, T], ty, [.slice (some ⟨r, 0, none⟩) n c, .slice a m c'])) (hT : appB P T t (Rep.sz α) = true)
    (h2 : ∀ b, b < w.heap.size → F2 b → F b ∧ b ≠ r) (hs : n + m ≤ 100000000000)
    (H : ∀ r' c2 w', Own w' r' t F (n + m) c2 (xs ++ ys) → (r' = r ∨ r' = w.heap.size) → Chg (one r) w w' → RG P nn K ops (j + 1) (putE e (opAt ops j).dst (.slice (some ⟨r', 0, none⟩) (n + m) c2)) w') : RG P nn K ops j e w := by
  obtain ⟨r', c2, w', hrun, ho', hor, hx, _⟩ := ho.append (P := P) (T := T) (ty := ty) hT hn h2 hs
  exact RG.append h hrun (H r' c2 w' ho' hor hx)
theorem wf_has {cur : Array Value} {o : Nat} {cs : List Value} (hc : w.heap[r]? = some (.cells cur t (0, 0))) (h : Has w ⟨r, o, none⟩ cs) : ∀ k u, cs[k]? = some u → cur[o + k]? = some u := fun k u hu => by
  have := h k u hu
  rw [add_lit] at this
  simp only [World.cell?, hc] at this
  simpa using this
theorem Own.store {P : Program} {t' : TypeId} {i k : Nat} {x x' : α} {cs : List Value} {v : Value} (ho : Own w r t F n c xs) (hx : xs[i]? = some x) (hh : Has w ⟨r, i * Rep.sz α, none⟩ cs) (hl : cs.length = Rep.sz α)
    (hs : (sizeB P t' v.cells.size && Nat.ble (k + v.cells.size) cs.length && v.cells.toList.all oneC) = true) (hr : Rep.rep w (fun b => F b ∧ b ≠ r) x' (splice cs k v.cells.toList)) :
    ∃ w', (storeVar t' ⟨r, i * Rep.sz α + k, none⟩ v).run P w = .ok () w' ∧ Own w' r t F n c (xs.set i x') ∧ Chg (one r) w w' ∧ w'.heap.size = w.heap.size := by
  simp only [Bool.and_eq_true] at hs
  obtain ⟨cur, hcur, hcs⟩ := ho.row
  have hin : i < xs.length := (List.getElem?_eq_some_iff.1 hx).1
  have hkb : k + v.cells.size ≤ cs.length := Nat.le_of_ble_eq_true hs.1.2
  have hlt : i * Rep.sz α + Rep.sz α ≤ c * Rep.sz α := by
    have h1 : (i + 1) * Rep.sz α ≤ c * Rep.sz α := Nat.mul_le_mul_right _ (by have := ho.len; have := ho.le; omega)
    rw [Nat.succ_mul] at h1
    exact h1
  have hbox : Box w r t cur.toList := by unfold Box; rw [hcur]
  obtain ⟨w', hrun, hb', hx', hsz⟩ := hbox.store (P := P) (t' := t') (o := i * Rep.sz α + k) (v := v) hs.1.1 (by simp only [Array.length_toList]; omega) hs.2
  refine ⟨w', hrun, ⟨by simpa using ho.len, ho.le, ho.cap, ⟨_, hb', ?_⟩, ?_⟩, hx', hsz⟩
  · simp only [splice, List.size_toArray, List.length_append, List.length_take, List.length_drop, Array.length_toList]
    omega
  · have hoth : ∀ b, b ≠ r → b < w.heap.size → w'.heap[b]? = w.heap[b]? := fun b hb hbl => hx'.block b hbl hb
    have hcell : ∀ q u, (splice cur.toList (i * Rep.sz α + k) v.cells.toList)[q]? = some u → w'.cell? ⟨r, q, none⟩ = some u := fun q u hu => by
      have hb2 := hb'
      unfold Box at hb2
      simp only [World.cell?, hb2]
      simpa using hu
    have hclen : cur.toList.length = c * Rep.sz α := by simp [hcs]
    have hvl : v.cells.toList.length = v.cells.size := by simp
    intro j y hy
    by_cases hji : j = i
    · subst hji
      have hxy : x' = y := by
        rw [List.getElem?_set_self hin] at hy
        exact Option.some.inj hy
      subst hxy
      refine ⟨_, Rep.frame hr (fun b hb hF => ⟨hF, hoth b hF.2 hb⟩), fun q u hu => ?_⟩
      rw [add_lit]
      apply hcell
      have hcw := wf_has hcur hh
      unfold splice at hu ⊢
      rw [List.append_assoc, List.getElem?_append] at hu
      rw [List.append_assoc, List.getElem?_append]
      simp only [List.length_take, hclen] at hu ⊢
      split at hu
      · rename_i hq
        rw [if_pos (by omega)]
        rw [List.getElem?_take] at hu ⊢
        split at hu
        · rename_i hq2
          rw [if_pos (by omega)]
          have := hcw q u hu
          simpa using this
        · cases hu
      · rename_i hq
        have hmin : min k cs.length = k := by omega
        have hmin2 : min (j * Rep.sz α + k) (c * Rep.sz α) = j * Rep.sz α + k := by omega
        rw [hmin] at hu hq
        rw [hmin2, if_neg (by omega)]
        rw [show j * Rep.sz α + q - (j * Rep.sz α + k) = q - k by omega]
        rw [List.getElem?_append] at hu ⊢
        split at hu
        · rename_i hq2
          rw [if_pos hq2]
          exact hu
        · rename_i hq2
          rw [if_neg hq2]
          rw [List.getElem?_drop] at hu ⊢
          have := hcw _ u hu
          rw [show j * Rep.sz α + k + v.cells.toList.length + (q - k - v.cells.toList.length) = j * Rep.sz α + (k + v.cells.toList.length + (q - k - v.cells.toList.length)) by omega]
          simpa using this
    · rw [List.getElem?_set_ne (Ne.symm hji)] at hy
      obtain ⟨ds, hr1, hr2⟩ := ho.elem j y hy
      refine ⟨ds, Rep.frame hr1 (fun b hb hF => ⟨hF, hoth b hF.2 hb⟩), fun q u hu => ?_⟩
      rw [add_lit]
      apply hcell
      have hq : q < Rep.sz α := by
        have := (List.getElem?_eq_some_iff.1 hu).1
        rw [Rep.len hr1] at this
        exact this
      have hcu := wf_has hcur hr2 q u hu
      have hqc : j * Rep.sz α + q < cur.toList.length := by
        have := (Array.getElem?_eq_some_iff.1 hcu).1
        simpa using this
      unfold splice
      rw [List.append_assoc, List.getElem?_append, List.length_take]
      rcases Nat.lt_or_gt_of_ne hji with hlt2 | hgt
      · have : j * Rep.sz α + Rep.sz α ≤ i * Rep.sz α := by
          have h1 : (j + 1) * Rep.sz α ≤ i * Rep.sz α := Nat.mul_le_mul_right _ hlt2
          rw [Nat.succ_mul] at h1
          exact h1
        rw [if_pos (by omega), List.getElem?_take, if_pos (by omega)]
        simpa using hcu
      · have : i * Rep.sz α + Rep.sz α ≤ j * Rep.sz α := by
          have h1 : (i + 1) * Rep.sz α ≤ j * Rep.sz α := Nat.mul_le_mul_right _ hgt
          rw [Nat.succ_mul] at h1
          exact h1
        rw [if_neg (by omega), List.getElem?_append, if_neg (by omega), List.getElem?_drop]
        rw [show i * Rep.sz α + k + v.cells.toList.length + (j * Rep.sz α + q - min (i * Rep.sz α + k) cur.toList.length - v.cells.toList.length) = j * Rep.sz α + q by omega]
        simpa using hcu
theorem RG.storeO {P : Program} {nn : Nat} {K : Env → World → Prop} {ops : Array Oper} {j : Nat} {e : Env} {t' : TypeId} {i k : Nat} {x : α} {cs : List Value} {v : Value} (x' : α) (ho : Own w r t F n c xs) (hx : xs[i]? = some x)
    (hh : Has w ⟨r, 0 + i * Rep.sz α, none⟩ cs) (h : storeAt nn ops j e = some (t', ⟨r, 0 + i * Rep.sz α + k, none⟩, v)) (hl : Nat.beq cs.length (Rep.sz α) = true)
    (hs : (sizeB P t' v.cells.size && Nat.ble (k + v.cells.size) cs.length && v.cells.toList.all oneC) = true) (hr : Rep.rep w (fun b => F b ∧ b ≠ r) x' (splice cs k v.cells.toList))
    (H : ∀ w', Own w' r t F n c (xs.set i x') → Chg (one r) w w' → w'.heap.size = w.heap.size → RG P nn K ops (j + 1) (putE e (opAt ops j).dst undef) w') : RG P nn K ops j e w := by
  rw [Nat.zero_add] at hh h
  obtain ⟨w', hrun, ho', hx', hsz⟩ := ho.store (P := P) (t' := t') (k := k) hx hh (Nat.eq_of_beq_eq_true hl) hs hr
  exact RG.store h hrun (H w' ho' hx' hsz)
end
end Go.Proofs.YtfnpaglcnmcnbaaGreat
