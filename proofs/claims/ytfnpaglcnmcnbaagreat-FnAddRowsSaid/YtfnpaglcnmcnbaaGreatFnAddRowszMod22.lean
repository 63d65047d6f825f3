/- The program's index and store against the specification's: plain laws. -/
import Derived.Test.YtfnpaglcnmcnbaaGreatFnAddRowszW21
set_option linter.unusedVariables false
set_option linter.unusedSimpArgs false
namespace Go.Proofs.YtfnpaglcnmcnbaaGreat
theorem tag1 {t : Tag} (h : tagOk t = true) : ∃ x y, t = ⟨[x], [y]⟩ := by
  obtain ⟨k, v⟩ := t
  simp only [tagOk, Bool.and_eq_true] at h
  have h1 : k.length = 1 := one1_len h.1
  have h2 : v.length = 1 := one1_len h.2
  match k, v, h1, h2 with
  | [x], [y], _, _ => exact ⟨x, y, rfl⟩
theorem textF_inj : ∀ (n m : List Tag) (i : Nat), (∀ t ∈ n, tagOk t = true) → (∀ t ∈ m, tagOk t = true) → textF i n = textF i m → n = m := by
  intro n
  induction n with
  | nil =>
    intro m i _ hm h
    cases m with
    | nil => rfl
    | cons t ts =>
      obtain ⟨x, y, rfl⟩ := tag1 (hm t (by simp))
      simp [textF, text1] at h
  | cons t ts ih =>
    intro m i hn hm h
    obtain ⟨x, y, rfl⟩ := tag1 (hn t (by simp))
    cases m with
    | nil => simp [textF, text1] at h
    | cons u us =>
      obtain ⟨x', y', rfl⟩ := tag1 (hm u (by simp))
      simp only [textF, text1, List.append_assoc] at h
      have h2 := List.append_cancel_left h
      simp only [List.cons_append, List.nil_append, List.cons.injEq, true_and] at h2
      obtain ⟨rfl, rfl, h3⟩ := h2
      rw [ih us (i + 1) (fun t ht => hn t (by simp [ht])) (fun t ht => hm t (by simp [ht])) h3]
theorem nameOk_tags {n : List Tag} (h : nameOk n = true) : ∀ t ∈ n, tagOk t = true := by
  simp only [nameOk, Bool.and_eq_true] at h
  exact nameF_tags n none h.1
theorem text_inj {n m : List Tag} (hn : nameOk n = true) (hm : nameOk m = true) (h : text n = text m) : n = m := textF_inj n m 0 (nameOk_tags hn) (nameOk_tags hm) h
theorem nm_idx {names : List (List Tag)} {n : List Tag} (h : ∀ m ∈ names, nameOk m = true) (hn : nameOk n = true) : ∀ i, nmF (text n) i names = idxN n i names + 1 := by
  induction names with
  | nil => intro i; rfl
  | cons x xs ih =>
    intro i
    unfold nmF idxN
    by_cases hx : x = n
    · rw [if_pos (by simp [hx]), if_pos (by simp [hx])]
    · have h1 : ¬ (text x == text n) = true := fun e => hx (text_inj (h x (by simp)) hn (eq_of_beq e))
      have h2 : ¬ (x == n) = true := fun e => hx (eq_of_beq e)
      rw [if_neg h1, if_neg h2]
      exact ih (fun m hm => h m (by simp [hm])) (i + 1)
theorem nmAt_idx {x : Idx} {n : List Tag} (h : NmI x.names) (hn : nameOk n = true) : nmAt x n = idxN n 0 x.names + 1 := nm_idx h.ok hn 0
def addI (x : Idx) (n : List Tag) : Idx × Int × Bool := if nameOk n = true then addR x n else (⟨[], []⟩, 0, false)
theorem addI_no {x : Idx} {n : List Tag} (h : nameOk n = false) : addI x n = (⟨[], []⟩, 0, false) := by unfold addI; rw [if_neg (by simp [h])]
theorem addI_ok {x : Idx} {n : List Tag} (h : nameOk n = true) : addI x n = addR x n := by unfold addI; rw [if_pos h]
theorem addI_hit {x : Idx} {n : List Tag} (hx : IxI x) (h : nameOk n = true) (h1 : idxN n 0 x.names + 1 > 0) : addI x n = (idxOf x.names, idxN n 0 x.names + 1, true) := by
  rw [addI_ok h, addR_hit (by rw [nmAt_idx hx.nm h]; exact h1), nmAt_idx hx.nm h, ← hx.eq]
theorem addI_full {x : Idx} {n : List Tag} (hx : IxI x) (h : nameOk n = true) (h1 : ¬ idxN n 0 x.names + 1 > 0) (h2 : (x.names.length : Int) = 6) : addI x n = (idxOf x.names, 0, false) := by
  rw [addI_ok h, addR_no (by rw [nmAt_idx hx.nm h]; exact h1) (.inr (by omega)), ← hx.eq]
theorem addI_new {x : Idx} {n : List Tag} (hx : IxI x) (h : nameOk n = true) (h1 : ¬ idxN n 0 x.names + 1 > 0) (h2 : (x.names.length : Int) ≠ 6) : addI x n = (idxOf (x.names ++ [n]), (x.names.length : Int) + 1, true) := by
  rw [addI_ok h, addR_new (by rw [nmAt_idx hx.nm h]; exact h1) h (by have := hx.nm.len; omega)]
theorem NmI.add2 {x : Idx} {n : List Tag} (hx : IxI x) (h : nameOk n = true) (h1 : ¬ idxN n 0 x.names + 1 > 0) (h2 : (x.names.length : Int) ≠ 6) : NmI (x.names ++ [n]) := by
  refine NmI.add (ps := x.posts) hx.nm h ?_ (by have := hx.nm.len; omega)
  have := nmAt_idx (x := ⟨x.names, x.posts⟩) hx.nm h
  rw [this]; exact h1
theorem NsD.add {names : List (List Tag)} {n : List Tag} (h : NsD names) (hn : NmD n) : NsD (names ++ [n]) := fun m hm => by
  rcases List.mem_append.1 hm with hm | hm
  · exact h m hm
  · simp at hm; rw [hm]; exact hn
theorem partG_asc : ∀ (is : List Int) (bs : List (List Row)) (o : Option Int), partG o is bs = true → (∀ q, o = some q → ∀ i ∈ is, q < i) ∧ ∀ m, maxF m is = (match is.getLast? with | some l => if l > m then l else m | none => m) ∨ is = [] := by
  intro is
  induction is with
  | nil => intro bs o _; exact ⟨fun _ _ i hi => (by cases hi), fun m => .inr rfl⟩
  | cons x xs ih =>
    intro bs o h
    cases bs with
    | nil => simp [partG] at h
    | cons b bs =>
      simp only [partG, Bool.and_eq_true] at h
      obtain ⟨⟨⟨⟨_, h2⟩, _⟩, _⟩, h5⟩ := h
      obtain ⟨g1, g2⟩ := ih bs (some x) h5
      refine ⟨fun q hq i hi => ?_, fun m => .inl ?_⟩
      · subst hq
        have hqx : q < x := by simpa using h2
        rcases List.mem_cons.1 hi with rfl | hi
        · exact hqx
        · have := g1 x rfl i hi; omega
      · unfold maxF
        rcases g2 (if x > m then x else m) with g | g
        · rw [g]
          cases hl : xs.getLast? with
          | none =>
            have : xs = [] := List.getLast?_eq_none_iff.1 hl
            subst this
            simp
          | some l =>
            have hlm := g1 x rfl l (List.mem_of_getLast? hl)
            have e : (x :: xs).getLast? = some l := by rw [List.getLast?_cons, hl]; rfl
            rw [e]
            simp only
            repeat' split
            all_goals omega
        · subst g
          simp [maxF]
theorem partIn_max {p : Prt} {n : Int} (h : partOk p = true) (h0 : (p.ids.length : Int) ≠ 0) : partIn p n = !decide (maxOf p.ids > n) := by
  unfold partIn
  rw [h, Bool.true_and]
  unfold partOk at h
  simp only [Bool.and_eq_true, decide_eq_true_eq] at h
  match hi : p.ids, h.2 with
  | [], _ => rw [hi] at h0; simp at h0
  | x :: xs, hg =>
    cases hb : p.blocks with
    | nil => rw [hb] at hg; simp [partG] at hg
    | cons b bs =>
      rw [hb] at hg
      simp only [partG, Bool.and_eq_true] at hg
      obtain ⟨g1, g2⟩ := partG_asc xs bs (some x) hg.2
      show (match (x :: xs).getLast? with | some i => decide (i ≤ n) | none => false) = !decide (maxF x xs > n)
      rcases g2 x with g | g
      · rw [g]
        cases hl : xs.getLast? with
        | none =>
          have : xs = [] := List.getLast?_eq_none_iff.1 hl
          subst this
          simp only [List.getLast?_singleton]
          rw [Bool.eq_iff_iff]; simp
        | some l =>
          have hlm := g1 x rfl l (List.mem_of_getLast? hl)
          have e : (x :: xs).getLast? = some l := by rw [List.getLast?_cons, hl]; rfl
          rw [e]
          simp only
          simp only [show l > x from hlm, if_true]
          rw [Bool.eq_iff_iff]; simp
      · subst g
        simp only [List.getLast?_singleton, maxF]
        rw [Bool.eq_iff_iff]; simp
theorem partIn_1 {p : Prt} {n : Int} (h : partOk p = false) : partIn p n = false := by unfold partIn; rw [h]; rfl
theorem partIn_2 {p : Prt} {n : Int} (h : (p.ids.length : Int) = 0) : partIn p n = false := by
  have : p.ids = [] := List.eq_nil_of_length_eq_zero (by omega)
  unfold partIn; rw [this]; simp
theorem partIn_3 {p : Prt} {n : Int} (h : partOk p = true) (h0 : (p.ids.length : Int) ≠ 0) (h1 : maxOf p.ids > n) : partIn p n = false := by rw [partIn_max h h0]; simp [h1]
theorem partIn_4 {p : Prt} {n : Int} (h : partOk p = true) (h0 : (p.ids.length : Int) ≠ 0) (h1 : ¬ maxOf p.ids > n) : partIn p n = true := by rw [partIn_max h h0]; simp [h1]
theorem partIn_ok {p : Prt} {n : Int} (h : partIn p n = true) : partOk p = true := by
  unfold partIn at h
  simp only [Bool.and_eq_true] at h
  exact h.1
structure StoK (s : Sto) : Prop where
  sd : SD s
  part : ∀ p ∈ s.parts, PrtI p ∧ partOk p = true
  row : ∀ m ∈ s.mem, rowOk m.row = true
  id : ∀ m ∈ s.mem, 1 ≤ m.id ∧ m.id ≤ s.idx.names.length
  nm2 : s.mem.length ≤ 20
theorem StoK.of {s : Sto} (h : SD s) (hk : storeOk s = true) : StoK s := by
  unfold storeOk at hk
  simp only [Bool.and_eq_true, decide_eq_true_eq, List.all_eq_true] at hk
  obtain ⟨⟨⟨⟨_, h2⟩, h3⟩, h4⟩, _⟩ := hk
  refine ⟨h, fun p hp => ⟨h.part p hp, partIn_ok (h3 p hp)⟩, fun m hm => ?_, fun m hm => ?_, h2⟩
  · have := h4 m hm
    unfold memOk at this
    simp only [Bool.and_eq_true] at this
    exact this.2
  · have := h4 m hm
    unfold memOk at this
    simp only [Bool.and_eq_true] at this
    exact inR_t this.1
theorem StoK.stoI {s : Sto} (h : StoK s) : StoI s := ⟨h.sd.idx, h.sd.nm, h.sd.np, h.sd.part, h.nm2, fun m hm => ⟨(h.id m hm).1, (h.id m hm).2, h.row m hm⟩⟩
theorem StoK.pt {s : Sto} (h : SD s) (h3 : s.parts.all (fun p => partIn p s.idx.names.length) = true) : ∀ p ∈ s.parts, PrtI p ∧ partOk p = true := fun p hp => ⟨h.part p hp, partIn_ok (List.all_eq_true.1 h3 p hp)⟩
theorem StoK.rw {s : Sto} (h4 : s.mem.all (memOk s.idx.names.length) = true) : ∀ m ∈ s.mem, rowOk m.row = true := fun m hm => by
  have := List.all_eq_true.1 h4 m hm
  unfold memOk at this
  simp only [Bool.and_eq_true] at this
  exact this.2
theorem addS_sd {s : Sto} (h : StoI s) (hd : NsD s.idx.names) {n : List Tag} (hn : NmD n) (r : Row) : SD (addS s n r).1 := by
  have h1 := h.add n r
  have h2 := addS_names (r := r) hd hn
  exact ⟨h1.idx, h1.nm, h2, h1.np, h1.part, by have := h1.nm2; omega, fun m hm => by
    have g := h1.mem6 m hm
    exact ⟨by omega, by omega, rowOk_sm (h1.mem m hm).2.2⟩⟩
def rowsI (s : Sto) (id : Int) : List Row := if storeOk s = true ∧ inR id 1 s.idx.names.length = true then rowsOf s id else []
theorem rowsI_no {s : Sto} {id : Int} (h : storeOk s = false ∨ inR id 1 s.idx.names.length = false) : rowsI s id = [] := by
  unfold rowsI
  rw [if_neg]
  rintro ⟨h1, h2⟩
  rcases h with h | h
  · rw [h] at h1; cases h1
  · rw [h] at h2; cases h2
theorem rowsI_yes {s : Sto} {id : Int} (h : storeOk s = true) (h2 : inR id 1 s.idx.names.length = true) : rowsI s id = rowsOf s id := by unfold rowsI; rw [if_pos ⟨h, h2⟩]
section
variable {s : Sto} {n : List Tag} {r : Row}
theorem addJ_1 (_h : SD s) (hn : nameOk n = true) (h1 : (addI s.idx n).2.2 = false) : addS s n r = (s, false) := by rw [addI_ok hn] at h1; exact addS_1 h1
theorem addJ_2 (_h : SD s) (_hn : nameOk n = true) (h1 : rowOk r = false) : addS s n r = (s, false) := addS_2 h1
theorem addJ_3 (_h : SD s) (_hn : nameOk n = true) (h1 : (s.mem.length : Int) = 20) : addS s n r = (s, false) := addS_3 (by omega)
theorem mem20 (h : storeOk s = true) : s.mem.length ≤ 20 := by
  unfold storeOk at h
  simp only [Bool.and_eq_true, decide_eq_true_eq] at h
  exact h.1.1.1.2
theorem addJ_4 (_h : SD s) (hk : storeOk s = true) (hn : nameOk n = true) (h1 : (addI s.idx n).2.2 = true) (h2 : rowOk r = true) (h3 : (s.mem.length : Int) ≠ 20)
    (h4 : ((rowsOf (⟨⟨(addI s.idx n).1.names, (addI s.idx n).1.posts⟩, (copyS s).parts, (copyS s).mem ++ [⟨(addI s.idx n).2.1, r⟩]⟩ : Sto) (addI s.idx n).2.1).length : Int) > 24) : addS s n r = (s, false) := by
  rw [addI_ok hn] at h1 h4
  have := mem20 hk
  exact addS_4 h1 h2 (by omega) h4
theorem addJ_5 (_h : SD s) (hk : storeOk s = true) (hn : nameOk n = true) (h1 : (addI s.idx n).2.2 = true) (h2 : rowOk r = true) (h3 : (s.mem.length : Int) ≠ 20)
    (h4 : ¬ ((rowsOf (⟨⟨(addI s.idx n).1.names, (addI s.idx n).1.posts⟩, (copyS s).parts, (copyS s).mem ++ [⟨(addI s.idx n).2.1, r⟩]⟩ : Sto) (addI s.idx n).2.1).length : Int) > 24) : addS s n r = (⟨(addI s.idx n).1, s.parts, s.mem ++ [⟨(addI s.idx n).2.1, r⟩]⟩, true) := by
  rw [addI_ok hn] at h1 h4 ⊢
  have := mem20 hk
  exact addS_5 h1 h2 (by omega) h4
theorem addQ_1 (h : SD s) (hk : storeOk s = true) (hn : nameOk n = true) (h1 : (addI s.idx n).2.2 = false) : addP s n r = (copyS s, false) := by rw [addP_yes hk hn, h.copy]; exact addJ_1 h hn h1
theorem addQ_2 (h : SD s) (hk : storeOk s = true) (hn : nameOk n = true) (h1 : rowOk r = false) : addP s n r = (copyS s, false) := by rw [addP_yes hk hn, h.copy]; exact addJ_2 h hn h1
theorem addQ_3 (h : SD s) (hk : storeOk s = true) (hn : nameOk n = true) (h1 : (s.mem.length : Int) = 20) : addP s n r = (copyS s, false) := by rw [addP_yes hk hn, h.copy]; exact addJ_3 h hn h1
theorem addQ_4 (h : SD s) (hk : storeOk s = true) (hn : nameOk n = true) (h1 : (addI s.idx n).2.2 = true) (h2 : rowOk r = true) (h3 : (s.mem.length : Int) ≠ 20)
    (h4 : ((rowsOf (⟨⟨(addI s.idx n).1.names, (addI s.idx n).1.posts⟩, (copyS s).parts, (copyS s).mem ++ [⟨(addI s.idx n).2.1, r⟩]⟩ : Sto) (addI s.idx n).2.1).length : Int) > 24) : addP s n r = (copyS s, false) := by
  rw [addP_yes hk hn, h.copy]; exact addJ_4 h hk hn h1 h2 h3 h4
theorem addQ_5 (h : SD s) (hk : storeOk s = true) (hn : nameOk n = true) (h1 : (addI s.idx n).2.2 = true) (h2 : rowOk r = true) (h3 : (s.mem.length : Int) ≠ 20)
    (h4 : ¬ ((rowsOf (⟨⟨(addI s.idx n).1.names, (addI s.idx n).1.posts⟩, (copyS s).parts, (copyS s).mem ++ [⟨(addI s.idx n).2.1, r⟩]⟩ : Sto) (addI s.idx n).2.1).length : Int) > 24) : addP s n r = (⟨(addI s.idx n).1, (copyS s).parts, (copyS s).mem ++ [⟨(addI s.idx n).2.1, r⟩]⟩, true) := by
  have := addJ_5 h hk hn h1 h2 h3 h4
  rw [addP_yes hk hn, h.copy]
  exact this
theorem addX_k2 {i : Int} (h : StoK s) (hr : rowOk r = true) : ∀ m ∈ (copyS s).mem ++ [⟨i, r⟩], rowOk m.row = true := fun m hm => by
  rcases List.mem_append.1 hm with hm | hm
  · exact h.row m hm
  · simp at hm; subst hm; exact hr
end
end Go.Proofs.YtfnpaglcnmcnbaaGreat
