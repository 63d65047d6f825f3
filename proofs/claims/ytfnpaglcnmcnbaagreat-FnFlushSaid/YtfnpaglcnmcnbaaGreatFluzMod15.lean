/- Whether an index, a store is well; adding: what the specification computes. -/
import Derived.Test.YtfnpaglcnmcnbaaGreatFluzMod14
set_option linter.unusedVariables false
set_option linter.unusedSimpArgs false
namespace Go.Proofs.YtfnpaglcnmcnbaaGreat
structure IxI (x : Idx) : Prop where
  eq : x = idxOf x.names
  nm : NmI x.names
theorem IxI.posts {x : Idx} (h : IxI x) : x.posts = postsOf x.names := by have := h.eq; rw [this]; rfl
theorem IxI.sz {x : Idx} (h : IxI x) : IdxSz x := ⟨by have := h.nm.len; omega, h.nm.sz⟩
theorem SD.ix {s : Sto} (h : SD s) : IxI s.idx := ⟨h.idx, h.nm⟩
theorem SD.sz {s : Sto} (h : SD s) : StoSz s := ⟨h.ix.sz, by have := h.np; omega, fun p hp => (h.part p hp).sz, by have := h.nm2; omega⟩
theorem nodup_at {names : List (List Tag)} (h : (names.map text).Nodup) {i k : Nat} {x y : List Tag} (hx : names[i]? = some x) (hy : names[k]? = some y) (hk : k < i) : ¬ (text x = text y) := by
  intro e
  have h1 : (names.map text)[i]? = some (text x) := by rw [List.getElem?_map, hx]; rfl
  have h2 : (names.map text)[k]? = some (text y) := by rw [List.getElem?_map, hy]; rfl
  obtain ⟨g1, g2⟩ := List.getElem?_eq_some_iff.1 h1
  obtain ⟨g3, g4⟩ := List.getElem?_eq_some_iff.1 h2
  exact (List.pairwise_iff_getElem.1 h) k i g3 g1 hk (by rw [g2, g4, e])
theorem ids_len (names : List (List Tag)) (t : Tag) : (ids names t).length ≤ names.length := by
  unfold ids
  have : ∀ (ns : List (List Tag)) (i : Nat), (idsF t i ns).length ≤ ns.length := by
    intro ns
    induction ns with
    | nil => intro i; simp [idsF]
    | cons n ns ih =>
      intro i
      have := ih (i + 1)
      rw [idsF, List.length_append, List.length_cons]
      split <;> simp <;> omega
  exact this names 0
theorem lenStep {α : Type} {f : α → Nat} {l : List α} {i : Nat} {x : α} (h : l[i]? = some x) : ((l.take (i + 1)).map f).sum = ((l.take i).map f).sum + f x := by
  obtain ⟨h1, h2⟩ := List.getElem?_eq_some_iff.1 h
  rw [List.take_add_one, h]
  simp
theorem posts_prev {names : List (List Tag)} {i : Nat} {x y : Pst} (hx : (postsOf names)[i]? = some x) (hy : (postsOf names)[i - 1]? = some y) (hi : 0 < i) : tagLt y.tag x.tag = true := by
  have h := posts_sorted names
  rw [List.pairwise_iff_getElem] at h
  obtain ⟨g1, g2⟩ := List.getElem?_eq_some_iff.1 hx
  obtain ⟨g3, g4⟩ := List.getElem?_eq_some_iff.1 hy
  have := h (i - 1) i g3 g1 (by omega)
  rw [g2, g4] at this
  exact this
theorem posts_len (names : List (List Tag)) : (postsOf names).length ≤ 44 := by
  rw [postsOf_eq]
  have h : ∀ U : List Tag, (U.flatMap (post1 names)).length ≤ U.length := by
    intro U
    induction U with
    | nil => simp
    | cons t ts ih =>
      rw [List.flatMap_cons, List.length_append, List.length_cons]
      have : (post1 names t).length ≤ 1 := by unfold post1; split <;> simp
      omega
  have h2 : tagsU.length = 44 := by decide +kernel
  have := h tagsU
  omega
theorem ix_sum {x : Idx} (h : IxI x) : idSum x.posts = lenSum x.names := by rw [h.posts]; exact idSum_eq h.nm.ok
theorem allStep {α : Type} {f : α → Bool} {l : List α} {i : Nat} {x : α} {b : Bool} (h : (l.drop i).all f = b) (hd : l.drop i = x :: l.drop (i + 1)) (hx : f x = true) : (l.drop (i + 1)).all f = b := by
  rw [hd, List.all_cons, hx, Bool.true_and] at h
  exact h
theorem allNo {α : Type} {f : α → Bool} {l : List α} {i : Nat} {x : α} {b : Bool} (h : (l.drop i).all f = b) (hd : l.drop i = x :: l.drop (i + 1)) (hx : f x = false) : b = false := by
  rw [hd, List.all_cons, hx, Bool.false_and] at h
  exact h.symm
theorem allEnd {α : Type} {f : α → Bool} {l : List α} {i : Nat} {b : Bool} (h : (l.drop i).all f = b) (hi : l.length ≤ i) : b = true := by
  rw [drop_end hi] at h
  exact h.symm
def memOk (n : Nat) (m : Smp) : Bool := inR m.id 1 n && rowOk m.row
def cntOk (s : Sto) (i : Nat) : Bool := decide ((rowsOf s ((i : Int) + 1)).length ≤ 24)
def storeOk (s : Sto) : Bool :=
  decide (s.parts.length ≤ 6) && decide (s.mem.length ≤ 20) && s.parts.all (fun p => partIn p s.idx.names.length) && s.mem.all (memOk s.idx.names.length) && (List.range s.idx.names.length).all (cntOk s)
theorem storeOk_1 {s : Sto} (h : (s.parts.length : Int) > 6 ∨ (s.mem.length : Int) > 20) : storeOk s = false := by
  unfold storeOk
  rcases h with h | h
  · rw [decide_eq_false (by omega)]; simp
  · rw [decide_eq_false (p := s.mem.length ≤ 20) (by omega)]; simp
theorem storeOk_2 {s : Sto} (h : s.parts.all (fun p => partIn p s.idx.names.length) = false) : storeOk s = false := by unfold storeOk; rw [h]; simp
theorem storeOk_3 {s : Sto} (h : s.mem.all (memOk s.idx.names.length) = false) : storeOk s = false := by unfold storeOk; rw [h]; simp
theorem storeOk_4 {s : Sto} (h : (List.range s.idx.names.length).all (cntOk s) = false) : storeOk s = false := by unfold storeOk; rw [h]; simp
theorem storeOk_5 {s : Sto} (h1 : ¬ (s.parts.length : Int) > 6) (h2 : ¬ (s.mem.length : Int) > 20) (h3 : s.parts.all (fun p => partIn p s.idx.names.length) = true) (h4 : s.mem.all (memOk s.idx.names.length) = true) (h5 : (List.range s.idx.names.length).all (cntOk s) = true) : storeOk s = true := by
  unfold storeOk
  rw [h3, h4, h5, decide_eq_true (by omega), decide_eq_true (by omega)]
  rfl
theorem range_at {n i : Nat} (h : i < n) : (List.range n).drop i = i :: (List.range n).drop (i + 1) := by
  rw [List.drop_eq_getElem_cons (by simpa using h)]
  simp
theorem SD.copy {s : Sto} (h : SD s) : copyS s = s := by
  have := h.idx
  unfold copyS
  rw [← this]
theorem cntStep {s : Sto} {n k : Nat} {b : Bool} (h : ((List.range n).drop (k - 1)).all (cntOk s) = b) (h1 : 1 ≤ k) (h2 : k ≤ n) (h3 : ((rowsOf s (k : Int)).length : Int) ≤ 24) : ((List.range n).drop (k + 1 - 1)).all (cntOk s) = b := by
  have hd := range_at (n := n) (i := k - 1) (by omega)
  have := allStep h hd (by unfold cntOk; rw [show ((k - 1 : Nat) : Int) + 1 = (k : Int) by omega]; simp; omega)
  rw [show k + 1 - 1 = k - 1 + 1 by omega]
  exact this
theorem cntNo {s : Sto} {n k : Nat} {b : Bool} (h : ((List.range n).drop (k - 1)).all (cntOk s) = b) (h1 : 1 ≤ k) (h2 : k ≤ n) (h3 : ((rowsOf s (k : Int)).length : Int) > 24) : b = false := by
  have hd := range_at (n := n) (i := k - 1) (by omega)
  exact allNo h hd (by unfold cntOk; rw [show ((k - 1 : Nat) : Int) + 1 = (k : Int) by omega]; simp; omega)
theorem cntEnd {s : Sto} {n k : Nat} {b : Bool} (h : ((List.range n).drop (k - 1)).all (cntOk s) = b) (h1 : n + 1 ≤ k) : b = true := allEnd h (by simp; omega)
end Go.Proofs.YtfnpaglcnmcnbaaGreat
