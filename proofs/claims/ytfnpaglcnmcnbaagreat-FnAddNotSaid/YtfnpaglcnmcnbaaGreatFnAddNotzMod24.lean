/- A row put to a block, as the program does it, and what adding says of it: plain laws. -/
import Derived.Test.YtfnpaglcnmcnbaaGreatFnAddNotzMod23
set_option linter.unusedVariables false
set_option linter.unusedSimpArgs false
namespace Go.Proofs.YtfnpaglcnmcnbaaGreat
def putI (b : List Row) (r : Row) : List Row × Bool := if blockOk b = true ∧ rowOk r = true then (if ((insR r b).length : Int) > 24 then (b, false) else (insR r b, true)) else ([], false)
section
variable {b : List Row} {r : Row}
theorem putI_1 (h : blockOk b = false ∨ rowOk r = false) : putI b r = ([], false) := by
  unfold putI
  rw [if_neg]
  rintro ⟨h1, h2⟩
  rcases h with h | h
  · rw [h] at h1; cases h1
  · rw [h] at h2; cases h2
theorem putI_2 (h1 : blockOk b = true) (h2 : rowOk r = true) (h3 : ((insR r b).length : Int) > 24) : putI b r = (b, false) := by unfold putI; rw [if_pos ⟨h1, h2⟩, if_pos h3]
theorem putI_3 (h1 : blockOk b = true) (h2 : rowOk r = true) (h3 : ¬ ((insR r b).length : Int) > 24) : putI b r = (insR r b, true) := by unfold putI; rw [if_pos ⟨h1, h2⟩, if_neg h3]
theorem bok (h : blockOk b = true) : b.length ≤ 24 := by
  unfold blockOk at h
  simp only [Bool.and_eq_true, decide_eq_true_eq] at h
  exact h.2
theorem rok (h : blockOk [r] = true) : rowOk r = true := by
  unfold blockOk blockF at h
  simp only [Bool.and_eq_true] at h
  exact h.1.1.1
theorem Blk.bok (h : Blk b) (h2 : b.length ≤ 24) : blockOk b = true := by
  unfold blockOk
  simp only [Bool.and_eq_true, decide_eq_true_eq]
  exact ⟨h, h2⟩
end
theorem rowsI_len {s : Sto} (h : SD s) (i : Int) : (rowsI s i).length ≤ 100 := by
  unfold rowsI
  split
  · rename_i h1
    exact ((StoK.of h h1.1).stoI.blk i).len
  · simp
theorem rowsOf_none {s : Sto} (h : SD s) (hk : storeOk s = true) {i : Int} (hi : (s.idx.names.length : Int) < i) : rowsOf s i = [] := by
  obtain ⟨_, _, a3, _, _⟩ := storeOk_iff.1 hk
  unfold rowsOf
  rw [foldP_other (n := s.idx.names.length) s.parts [] a3 hi, foldM_other s.mem [] (fun m hm => by have := ((StoK.of h hk).id m hm).2; omega)]
theorem rowsI_all {s : Sto} (h : SD s) (hk : storeOk s = true) {i : Int} (h1 : 1 ≤ i) : rowsI s i = rowsOf s i := by
  by_cases hi : i ≤ (s.idx.names.length : Int)
  · exact rowsI_yes hk (by unfold inR; simp [h1, hi])
  · rw [rowsI_no (.inr (by unfold inR; simp [hi])), rowsOf_none h hk (by omega)]
theorem rows24 {s : Sto} (h : SD s) (hk : storeOk s = true) {i : Int} (h1 : 1 ≤ i) : (rowsOf s i).length ≤ 24 := by
  by_cases hi : i ≤ (s.idx.names.length : Int)
  · have := (storeOk_iff.1 hk).2.2.2.2 (i.toNat - 1) (by omega)
    rwa [show ((i.toNat - 1 : Nat) : Int) + 1 = i by omega] at this
  · rw [rowsOf_none h hk (by omega)]; simp
theorem rowsOf_add {s : Sto} {n : List Tag} {r : Row} (h : SD s) (hk : storeOk s = true) (j : Int) : rowsOf (addX s n r) j = if j = (addR s.idx n).2.1 then insR r (rowsOf s j) else rowsOf s j := by
  have hb : Blk (rowsOf s j) := (StoK.of h hk).stoI.blk _
  unfold addX
  rw [rowsOf_snoc]
  by_cases hj : j = (addR s.idx n).2.1
  · rw [if_pos hj]
    exact rowsM_hit (m := ⟨_, r⟩) hj.symm hb
  · rw [if_neg hj]
    exact rowsM_no (m := ⟨_, r⟩) (fun e => hj e.symm)
theorem law_not {s : Sto} {n : List Tag} {r : Row} (h : SD s) (hk : storeOk s = true) (hn : nameOk n = true) (hr : blockOk [r] = true) :
    (addP s n r).2 = ((addI s.idx n).2.2 && (putI (rowsI s (addI s.idx n).2.1) r).2 && decide ((s.mem.length : Int) < 20)) ∧ ((addP s n r).2 = false → (addP s n r).1 = s) := by
  have hro := rok hr
  have e1 : addP s n r = addS s n r := by
    have : addP s n r = addS (copyS s) n r := by unfold addP; rw [if_pos ⟨hk, hn⟩]
    rw [this, h.copy]
  rw [e1, addI_ok hn]
  cases h1 : (addR s.idx n).2.2 with
  | false => rw [addS_1 h1]; simp
  | true =>
    have hid := (addR_I h.idx h.nm n).2.2.2 h1
    rw [rowsI_all h hk hid.1, Bool.true_and]
    by_cases h3 : s.mem.length < 20
    · have hl := rows24 h hk hid.1
      have hb : Blk (rowsOf s (addR s.idx n).2.1) := (StoK.of h hk).stoI.blk _
      have hbo := hb.bok hl
      have er := rowsOf_add (n := n) (r := r) h hk (addR s.idx n).2.1
      rw [if_pos rfl] at er
      by_cases h4 : ((insR r (rowsOf s (addR s.idx n).2.1)).length : Int) > 24
      · rw [putI_2 hbo hro h4]
        have : addS s n r = (s, false) := addS_4 h1 hro (by omega) (by rw [← er] at h4; exact h4)
        rw [this]; simp
      · rw [putI_3 hbo hro h4]
        have : addS s n r = (addX s n r, true) := addS_5 h1 hro (by omega) (by rw [← er] at h4; exact h4)
        rw [this]
        simp
        omega
    · rw [addS_3 (by omega)]
      simp
      omega
end Go.Proofs.YtfnpaglcnmcnbaaGreat
