/- The program's index and store against the specification's: plain laws. -/
import Derived.Test.YtfnpaglcnmcnbaaGreatFluzW21
set_option linter.unusedVariables false
set_option linter.unusedSimpArgs false
namespace Go.Proofs.YtfnpaglcnmcnbaaGreat
theorem NsD.add {names : List (List Tag)} {n : List Tag} (h : NsD names) (hn : NmD n) : NsD (names ++ [n]) := fun m hm => by
  rcases List.mem_append.1 hm with hm | hm
  · exact h m hm
  · simp at hm; rw [hm]; exact hn
theorem partG_asc : ∀ (is : List Int) (bs : List (List Row)) (o : Option Int), partG o is bs = true → (∀ q, o = some q → ∀ i ∈ is, q < i) ∧ ∀ m, maxF m is = (match is.getLast? with | some l => if l > m then l else m | none => m) ∨ is = [] := by
  intro is
  induction is with
  | nil => intro bs o _; exact ⟨fun _ _ i hi => (by cases hi), fun m => .inr rfl⟩
  | cons x xs ih =>
    intro bs o h
    cases bs with
    | nil => simp [partG] at h
    | cons b bs =>
      simp only [partG, Bool.and_eq_true] at h
      obtain ⟨⟨⟨⟨_, h2⟩, _⟩, _⟩, h5⟩ := h
      obtain ⟨g1, g2⟩ := ih bs (some x) h5
      refine ⟨fun q hq i hi => ?_, fun m => .inl ?_⟩
      · subst hq
        have hqx : q < x := by simpa using h2
        rcases List.mem_cons.1 hi with rfl | hi
        · exact hqx
        · have := g1 x rfl i hi; omega
      · unfold maxF
        rcases g2 (if x > m then x else m) with g | g
        · rw [g]
          cases hl : xs.getLast? with
          | none =>
            have : xs = [] := List.getLast?_eq_none_iff.1 hl
            subst this
            simp
          | some l =>
            have hlm := g1 x rfl l (List.mem_of_getLast? hl)
            have e : (x :: xs).getLast? = some l := by rw [List.getLast?_cons, hl]; rfl
            rw [e]
            simp only
            repeat' split
            all_goals omega
        · subst g
          simp [maxF]
theorem partIn_max {p : Prt} {n : Int} (h : partOk p = true) (h0 : (p.ids.length : Int) ≠ 0) : partIn p n = !decide (maxOf p.ids > n) := by
  unfold partIn
  rw [h, Bool.true_and]
  unfold partOk at h
  simp only [Bool.and_eq_true, decide_eq_true_eq] at h
  match hi : p.ids, h.2 with
  | [], _ => rw [hi] at h0; simp at h0
  | x :: xs, hg =>
    cases hb : p.blocks with
    | nil => rw [hb] at hg; simp [partG] at hg
    | cons b bs =>
      rw [hb] at hg
      simp only [partG, Bool.and_eq_true] at hg
      obtain ⟨g1, g2⟩ := partG_asc xs bs (some x) hg.2
      show (match (x :: xs).getLast? with | some i => decide (i ≤ n) | none => false) = !decide (maxF x xs > n)
      rcases g2 x with g | g
      · rw [g]
        cases hl : xs.getLast? with
        | none =>
          have : xs = [] := List.getLast?_eq_none_iff.1 hl
          subst this
          simp only [List.getLast?_singleton]
          rw [Bool.eq_iff_iff]; simp
        | some l =>
          have hlm := g1 x rfl l (List.mem_of_getLast? hl)
          have e : (x :: xs).getLast? = some l := by rw [List.getLast?_cons, hl]; rfl
          rw [e]
          simp only
          simp only [show l > x from hlm, if_true]
          rw [Bool.eq_iff_iff]; simp
      · subst g
        simp only [List.getLast?_singleton, maxF]
        rw [Bool.eq_iff_iff]; simp
theorem partIn_1 {p : Prt} {n : Int} (h : partOk p = false) : partIn p n = false := by unfold partIn; rw [h]; rfl
theorem partIn_2 {p : Prt} {n : Int} (h : (p.ids.length : Int) = 0) : partIn p n = false := by
  have : p.ids = [] := List.eq_nil_of_length_eq_zero (by omega)
  unfold partIn; rw [this]; simp
theorem partIn_3 {p : Prt} {n : Int} (h : partOk p = true) (h0 : (p.ids.length : Int) ≠ 0) (h1 : maxOf p.ids > n) : partIn p n = false := by rw [partIn_max h h0]; simp [h1]
theorem partIn_4 {p : Prt} {n : Int} (h : partOk p = true) (h0 : (p.ids.length : Int) ≠ 0) (h1 : ¬ maxOf p.ids > n) : partIn p n = true := by rw [partIn_max h h0]; simp [h1]
theorem partIn_ok {p : Prt} {n : Int} (h : partIn p n = true) : partOk p = true := by
  unfold partIn at h
  simp only [Bool.and_eq_true] at h
  exact h.1
structure StoK (s : Sto) : Prop where
  sd : SD s
  part : ∀ p ∈ s.parts, PrtI p ∧ partOk p = true
  row : ∀ m ∈ s.mem, rowOk m.row = true
  id : ∀ m ∈ s.mem, 1 ≤ m.id ∧ m.id ≤ s.idx.names.length
  nm2 : s.mem.length ≤ 20
theorem StoK.of {s : Sto} (h : SD s) (hk : storeOk s = true) : StoK s := by
  unfold storeOk at hk
  simp only [Bool.and_eq_true, decide_eq_true_eq, List.all_eq_true] at hk
  obtain ⟨⟨⟨⟨_, h2⟩, h3⟩, h4⟩, _⟩ := hk
  refine ⟨h, fun p hp => ⟨h.part p hp, partIn_ok (h3 p hp)⟩, fun m hm => ?_, fun m hm => ?_, h2⟩
  · have := h4 m hm
    unfold memOk at this
    simp only [Bool.and_eq_true] at this
    exact this.2
  · have := h4 m hm
    unfold memOk at this
    simp only [Bool.and_eq_true] at this
    exact inR_t this.1
theorem StoK.stoI {s : Sto} (h : StoK s) : StoI s := ⟨h.sd.idx, h.sd.nm, h.sd.np, h.sd.part, h.nm2, fun m hm => ⟨(h.id m hm).1, (h.id m hm).2, h.row m hm⟩⟩
theorem StoK.pt {s : Sto} (h : SD s) (h3 : s.parts.all (fun p => partIn p s.idx.names.length) = true) : ∀ p ∈ s.parts, PrtI p ∧ partOk p = true := fun p hp => ⟨h.part p hp, partIn_ok (List.all_eq_true.1 h3 p hp)⟩
theorem StoK.rw {s : Sto} (h4 : s.mem.all (memOk s.idx.names.length) = true) : ∀ m ∈ s.mem, rowOk m.row = true := fun m hm => by
  have := List.all_eq_true.1 h4 m hm
  unfold memOk at this
  simp only [Bool.and_eq_true] at this
  exact this.2
def rowsI (s : Sto) (id : Int) : List Row := if storeOk s = true ∧ inR id 1 s.idx.names.length = true then rowsOf s id else []
theorem rowsI_yes {s : Sto} {id : Int} (h : storeOk s = true) (h2 : inR id 1 s.idx.names.length = true) : rowsI s id = rowsOf s id := by unfold rowsI; rw [if_pos ⟨h, h2⟩]
end Go.Proofs.YtfnpaglcnmcnbaaGreat
