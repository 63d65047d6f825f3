/- A row put to a block, as the program does it, and what adding says of it: plain laws. -/
import Derived.Test.YtfnpaglcnmcnbaaGreatFnAddRowszMod23
set_option linter.unusedVariables false
set_option linter.unusedSimpArgs false
namespace Go.Proofs.YtfnpaglcnmcnbaaGreat
def putI (b : List Row) (r : Row) : List Row × Bool := if blockOk b = true ∧ rowOk r = true then (if ((insR r b).length : Int) > 24 then (b, false) else (insR r b, true)) else ([], false)
section
variable {b : List Row} {r : Row}
theorem putI_1 (h : blockOk b = false ∨ rowOk r = false) : putI b r = ([], false) := by
  unfold putI
  rw [if_neg]
  rintro ⟨h1, h2⟩
  rcases h with h | h
  · rw [h] at h1; cases h1
  · rw [h] at h2; cases h2
theorem putI_2 (h1 : blockOk b = true) (h2 : rowOk r = true) (h3 : ((insR r b).length : Int) > 24) : putI b r = (b, false) := by unfold putI; rw [if_pos ⟨h1, h2⟩, if_pos h3]
theorem putI_3 (h1 : blockOk b = true) (h2 : rowOk r = true) (h3 : ¬ ((insR r b).length : Int) > 24) : putI b r = (insR r b, true) := by unfold putI; rw [if_pos ⟨h1, h2⟩, if_neg h3]
theorem bok (h : blockOk b = true) : b.length ≤ 24 := by
  unfold blockOk at h
  simp only [Bool.and_eq_true, decide_eq_true_eq] at h
  exact h.2
theorem Blk.bok (h : Blk b) (h2 : b.length ≤ 24) : blockOk b = true := by
  unfold blockOk
  simp only [Bool.and_eq_true, decide_eq_true_eq]
  exact ⟨h, h2⟩
end
theorem rowsI_len {s : Sto} (h : SD s) (i : Int) : (rowsI s i).length ≤ 100 := by
  unfold rowsI
  split
  · rename_i h1
    exact ((StoK.of h h1.1).stoI.blk i).len
  · simp
theorem rowsOf_none {s : Sto} (h : SD s) (hk : storeOk s = true) {i : Int} (hi : (s.idx.names.length : Int) < i) : rowsOf s i = [] := by
  obtain ⟨_, _, a3, _, _⟩ := storeOk_iff.1 hk
  unfold rowsOf
  rw [foldP_other (n := s.idx.names.length) s.parts [] a3 hi, foldM_other s.mem [] (fun m hm => by have := ((StoK.of h hk).id m hm).2; omega)]
theorem rowsI_all {s : Sto} (h : SD s) (hk : storeOk s = true) {i : Int} (h1 : 1 ≤ i) : rowsI s i = rowsOf s i := by
  by_cases hi : i ≤ (s.idx.names.length : Int)
  · exact rowsI_yes hk (by unfold inR; simp [h1, hi])
  · rw [rowsI_no (.inr (by unfold inR; simp [hi])), rowsOf_none h hk (by omega)]
theorem rows24 {s : Sto} (h : SD s) (hk : storeOk s = true) {i : Int} (h1 : 1 ≤ i) : (rowsOf s i).length ≤ 24 := by
  by_cases hi : i ≤ (s.idx.names.length : Int)
  · have := (storeOk_iff.1 hk).2.2.2.2 (i.toNat - 1) (by omega)
    rwa [show ((i.toNat - 1 : Nat) : Int) + 1 = i by omega] at this
  · rw [rowsOf_none h hk (by omega)]; simp
theorem rowsOf_add {s : Sto} {n : List Tag} {r : Row} (h : SD s) (hk : storeOk s = true) (j : Int) : rowsOf (addX s n r) j = if j = (addR s.idx n).2.1 then insR r (rowsOf s j) else rowsOf s j := by
  have hb : Blk (rowsOf s j) := (StoK.of h hk).stoI.blk _
  unfold addX
  rw [rowsOf_snoc]
  by_cases hj : j = (addR s.idx n).2.1
  · rw [if_pos hj]
    exact rowsM_hit (m := ⟨_, r⟩) hj.symm hb
  · rw [if_neg hj]
    exact rowsM_no (m := ⟨_, r⟩) (fun e => hj e.symm)
theorem law_rows {s : Sto} {n : List Tag} {r : Row} (h : SD s) (hok : (addP s n r).2 = true) :
    (addI s.idx n).2.2 = true ∧ (addP s n r).1.mem = s.mem ++ [⟨(addI s.idx n).2.1, r⟩] ∧ (addP s n r).1.parts = s.parts ∧ storeOk (addP s n r).1 = true ∧
      ∀ i : Int, 1 ≤ i → rowsI (addP s n r).1 i = if i = (addI s.idx n).2.1 then (putI (rowsI s i) r).1 else rowsI s i := by
  have hx : SD (addP s n r).1 → True := fun _ => trivial
  obtain ⟨k1, kn, e1⟩ := addP_ok hok
  rw [h.copy] at e1
  rw [e1] at hok ⊢
  obtain ⟨a1, a2, a3, a4, a5⟩ := addS_ok hok
  rw [a5, addI_ok kn]
  dsimp only
  have hy : storeOk (addX s n r) = true := addX_ok h k1 a1 a2 a3 a4
  have hid := (addR_I h.idx h.nm n).2.2.2 a1
  refine ⟨a1, rfl, rfl, hy, fun i hi => ?_⟩
  rw [rowsI_all h k1 hi]
  have er := rowsOf_add (n := n) (r := r) h k1 i
  have hin : rowsI (addX s n r) i = rowsOf (addX s n r) i := by
    by_cases hl : i ≤ ((addX s n r).idx.names.length : Int)
    · exact rowsI_yes hy (by unfold inR; simp [hi, hl])
    · rw [rowsI_no (.inr (by unfold inR; simp [hl]))]
      have hl2 : ¬ i ≤ ((addR s.idx n).1.names.length : Int) := hl
      rw [er, if_neg (by omega), rowsOf_none h k1 (by have := (addR_I h.idx h.nm n).2.2.1; omega)]
  rw [hin, er]
  by_cases hj : i = (addR s.idx n).2.1
  · rw [if_pos hj, if_pos hj]
    have hl := rows24 h k1 hi
    have hb : Blk (rowsOf s i) := (StoK.of h k1).stoI.blk _
    have h4 : ¬ ((insR r (rowsOf s i)).length : Int) > 24 := by
      rw [← hj, er, if_pos hj] at a4
      omega
    rw [putI_3 (hb.bok hl) a2 h4]
  · rw [if_neg hj, if_neg hj]
theorem rows_y {s : Sto} {n : List Tag} {r : Row} (h : SD s) (hok : (addP s n r).2 = true) {k : Nat} (hk : 1 ≤ k) (e : (k : Int) = (addI s.idx n).2.1) (hf : (rowsI (addP s n r).1 k == (putI (rowsI s k) r).1) = false) : False := by
  have q := (law_rows h hok).2.2.2.2 k (by omega)
  rw [if_pos e] at q
  rw [q] at hf
  simp at hf
theorem rows_n {s : Sto} {n : List Tag} {r : Row} (h : SD s) (hok : (addP s n r).2 = true) {k : Nat} (hk : 1 ≤ k) (e : (k : Int) ≠ (addI s.idx n).2.1) (hf : (rowsI (addP s n r).1 k == rowsI s k) = false) : False := by
  have q := (law_rows h hok).2.2.2.2 k (by omega)
  rw [if_neg e] at q
  rw [q] at hf
  simp at hf
end Go.Proofs.YtfnpaglcnmcnbaaGreat
