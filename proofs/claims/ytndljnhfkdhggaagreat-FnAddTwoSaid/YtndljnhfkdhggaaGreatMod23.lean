/- Of two rows of one time the last one is told: the plain law. -/
import Derived.Test.YtndljnhfkdhggaaGreatW22
set_option linter.unusedVariables false
set_option linter.unusedSimpArgs false
namespace Go.Proofs.YtndljnhfkdhggaaGreat
theorem addP_ok {s : Sto} {n : List Tag} {r : Row} (h : (addP s n r).2 = true) : storeOk s = true ∧ nameOk n = true ∧ addP s n r = addS (copyS s) n r := by
  unfold addP at h ⊢
  by_cases hk : storeOk s = true ∧ nameOk n = true
  · rw [if_pos hk]
    exact ⟨hk.1, hk.2, rfl⟩
  · rw [if_neg hk] at h
    cases h
theorem addS_ok {s : Sto} {n : List Tag} {r : Row} (h : (addS s n r).2 = true) : (addR s.idx n).2.2 = true ∧ rowOk r = true ∧ s.mem.length < 20 ∧ (rowsOf (addX s n r) (addR s.idx n).2.1).length ≤ 24 ∧ addS s n r = (addX s n r, true) := by
  unfold addS at h ⊢
  split at h
  · cases h
  · rename_i h1
    split at h
    · cases h
    · rename_i h2
      simp only [Bool.or_eq_true, not_or, Bool.not_eq_true', Bool.not_eq_false, decide_eq_true_eq] at h1
      obtain ⟨⟨a1, a2⟩, a3⟩ := h1
      rw [if_neg (by first | (simp [a1, a2, a3]; done) | (simp [a1, a2, a3]; omega)), if_neg h2]
      exact ⟨a1, a2, by omega, by omega, rfl⟩
theorem addP_sd {s : Sto} {n : List Tag} {r : Row} (h : SD s) (hn : NmD n) (hk : (addP s n r).2 = true) : SD (addP s n r).1 := by
  obtain ⟨h1, _, h3⟩ := addP_ok hk
  rw [h3, h.copy]
  exact addS_sd (StoK.of h h1).stoI h.nd hn r

/-! ### Rows of a name -/
theorem foldM_other {id : Int} : ∀ (mem : List Smp) (o : List Row), (∀ m ∈ mem, m.id ≠ id) → mem.foldl (rowsM id) o = o := by
  intro mem
  induction mem with
  | nil => intro o _; rfl
  | cons m ms ih =>
    intro o h
    rw [List.foldl_cons, rowsM_no (h m (by simp))]
    exact ih o (fun x hx => h x (by simp [hx]))
theorem rowsOf_snoc (x : Idx) (ps : List Prt) (mem : List Smp) (m : Smp) (id : Int) : rowsOf ⟨x, ps, mem ++ [m]⟩ id = rowsM id (rowsOf ⟨x, ps, mem⟩ id) m := by
  unfold rowsOf
  simp only [List.foldl_append, List.foldl_cons, List.foldl_nil]
theorem rowsOf_idx (x x' : Idx) (ps : List Prt) (mem : List Smp) (id : Int) : rowsOf ⟨x, ps, mem⟩ id = rowsOf ⟨x', ps, mem⟩ id := rfl
theorem foldP_blk {id : Int} : ∀ (ps : List Prt) (o : List Row), (∀ p ∈ ps, PrtI p) → Blk o → Blk (ps.foldl (rowsP id) o) := by
  intro ps
  induction ps with
  | nil => intro o _ h; exact h
  | cons p ps ih => intro o h ho; exact ih _ (fun q hq => h q (by simp [hq])) (ho.merge ((h p (by simp)).of id))
theorem foldM_blk {id : Int} : ∀ (mem : List Smp) (o : List Row), (∀ m ∈ mem, rowOk m.row = true) → Blk o → Blk (mem.foldl (rowsM id) o) := by
  intro mem
  induction mem with
  | nil => intro o _ h; exact h
  | cons m ms ih =>
    intro o h ho
    refine ih _ (fun q hq => h q (by simp [hq])) ?_
    unfold rowsM
    split
    · exact ho.put (h m (by simp))
    · exact ho
theorem StoI.blk {s : Sto} (h : StoI s) (id : Int) : Blk (rowsOf s id) := foldM_blk _ _ (fun m hm => (h.mem m hm).2.2) (foldP_blk _ _ h.part Blk.nil)
theorem partF_gt {id : Int} : ∀ (is : List Int) (bs : List (List Row)), (∀ i ∈ is, i ≠ id) → partF id is bs = [] := by
  intro is
  induction is with
  | nil => intro bs _; unfold partF; rfl
  | cons i is ih =>
    intro bs h
    cases bs with
    | nil => unfold partF; rfl
    | cons b bs =>
      unfold partF
      rw [if_neg (by have := h i (by simp); simpa using this)]
      exact ih bs (fun j hj => h j (by simp [hj]))
theorem partIn_le {p : Prt} {n : Int} (h : partIn p n = true) : ∀ i ∈ p.ids, i ≤ n := by
  unfold partIn at h
  simp only [Bool.and_eq_true] at h
  obtain ⟨h1, h2⟩ := h
  unfold partOk at h1
  simp only [Bool.and_eq_true, decide_eq_true_eq] at h1
  have key : ∀ (is : List Int) (bs : List (List Row)) (o : Option Int), partG o is bs = true → ∀ l, is.getLast? = some l → ∀ i ∈ is, i ≤ l := by
    intro is
    induction is with
    | nil => intro bs o _ l hl; simp at hl
    | cons x xs ih =>
      intro bs o hg l hl i hi
      cases bs with
      | nil => simp [partG] at hg
      | cons b bs =>
        simp only [partG, Bool.and_eq_true] at hg
        obtain ⟨g1, _⟩ := partG_asc xs bs (some x) hg.2
        cases hx : xs.getLast? with
        | none =>
          have : xs = [] := List.getLast?_eq_none_iff.1 hx
          subst this
          simp at hl hi
          omega
        | some l' =>
          have e : (x :: xs).getLast? = some l' := by rw [List.getLast?_cons, hx]; rfl
          rw [e] at hl
          cases hl
          rcases List.mem_cons.1 hi with rfl | hi
          · have := g1 i rfl l (List.mem_of_getLast? hx); omega
          · exact ih bs (some x) hg.2 l hx i hi
  intro i hi
  cases hl : p.ids.getLast? with
  | none => rw [hl] at h2; cases h2
  | some l =>
    rw [hl] at h2
    have := key p.ids p.blocks none h1.2 l hl i hi
    have h3 : l ≤ n := by simpa using h2
    omega
theorem foldP_other {id : Int} {n : Int} : ∀ (ps : List Prt) (o : List Row), (∀ p ∈ ps, partIn p n = true) → n < id → ps.foldl (rowsP id) o = o := by
  intro ps
  induction ps with
  | nil => intro o _ _; rfl
  | cons p ps ih =>
    intro o h hid
    rw [List.foldl_cons]
    have : rowsP id o p = o := by
      unfold rowsP partOf
      rw [partF_gt p.ids p.blocks (fun i hi => by have := partIn_le (h p (by simp)) i hi; omega)]
      rfl
    rw [this]
    exact ih o (fun q hq => h q (by simp [hq])) hid
theorem partIn_mono {p : Prt} {n m : Int} (h : partIn p n = true) (hm : n ≤ m) : partIn p m = true := by
  have hok := partIn_ok h
  unfold partIn at h ⊢
  rw [hok, Bool.true_and] at h ⊢
  cases hl : p.ids.getLast? with
  | none => rw [hl] at h; cases h
  | some l =>
    rw [hl] at h
    simp only [decide_eq_true_eq] at h ⊢
    omega
theorem storeOk_iff {s : Sto} : storeOk s = true ↔ s.parts.length ≤ 6 ∧ s.mem.length ≤ 20 ∧ (∀ p ∈ s.parts, partIn p s.idx.names.length = true) ∧ (∀ m ∈ s.mem, memOk s.idx.names.length m = true) ∧ ∀ i, i < s.idx.names.length → (rowsOf s ((i : Int) + 1)).length ≤ 24 := by
  unfold storeOk
  simp only [Bool.and_eq_true, decide_eq_true_eq, List.all_eq_true, List.mem_range, cntOk]
  constructor
  · rintro ⟨⟨⟨⟨h1, h2⟩, h3⟩, h4⟩, h5⟩; exact ⟨h1, h2, h3, h4, h5⟩
  · rintro ⟨h1, h2, h3, h4, h5⟩; exact ⟨⟨⟨⟨h1, h2⟩, h3⟩, h4⟩, h5⟩
theorem memOk_of {n : Nat} {m : Smp} (h1 : 1 ≤ m.id) (h2 : m.id ≤ n) (h3 : rowOk m.row = true) : memOk n m = true := by
  unfold memOk inR
  simp [h1, h2, h3]
/-- A store to which a row was added is well. -/
theorem addX_ok {s : Sto} {n : List Tag} {r : Row} (h : SD s) (hk : storeOk s = true) (h1 : (addR s.idx n).2.2 = true) (h2 : rowOk r = true) (h3 : s.mem.length < 20) (h4 : (rowsOf (addX s n r) (addR s.idx n).2.1).length ≤ 24) : storeOk (addX s n r) = true := by
  have hK := StoK.of h hk
  obtain ⟨a1, a2, a3, a4, a5⟩ := storeOk_iff.1 hk
  obtain ⟨g1, g2, g3, g4⟩ := addR_I h.idx h.nm n
  have g5 := g4 h1
  refine storeOk_iff.2 ⟨a1, by simp only [addX, List.length_append, List.length_cons, List.length_nil]; omega, fun p hp => partIn_mono (a3 p hp) (by show (s.idx.names.length : Int) ≤ ((addR s.idx n).1.names.length : Int); omega), fun m hm => ?_, fun i hi => ?_⟩
  · rcases List.mem_append.1 hm with hm | hm
    · have := hK.id m hm
      exact memOk_of this.1 (by show m.id ≤ ((addR s.idx n).1.names.length : Int); omega) (hK.row m hm)
    · simp at hm
      subst hm
      exact memOk_of g5.1 g5.2 h2
  · by_cases he : (addR s.idx n).2.1 = (i : Int) + 1
    · rw [← he]; exact h4
    · have e : rowsOf (addX s n r) ((i : Int) + 1) = rowsOf s ((i : Int) + 1) := by
        unfold addX
        rw [rowsOf_snoc, rowsM_no (by simpa using he)]
        exact rowsOf_idx _ s.idx s.parts s.mem _
      rw [e]
      by_cases hil : i < s.idx.names.length
      · exact a5 i hil
      · have : rowsOf s ((i : Int) + 1) = [] := by
          unfold rowsOf
          rw [foldP_other (n := s.idx.names.length) s.parts [] a3 (by omega), foldM_other s.mem [] (fun m hm => by have := (hK.id m hm).2; omega)]
        rw [this]; simp
/-- Once added, a name is found. -/
theorem addR_again {x : Idx} {n : List Tag} (hx : IxI x) (hn : nameOk n = true) (h : (addR x n).2.2 = true) : addR (addR x n).1 n = ((addR x n).1, (addR x n).2.1, true) := by
  by_cases h1 : nmAt x n > 0
  · rw [addR_hit h1]
    exact addR_hit h1
  · by_cases h2 : nameOk n = false ∨ (x.names.length : Int) ≥ 6
    · rw [addR_no h1 h2] at h
      cases h
    · have h4 : ¬ (x.names.length : Int) ≥ 6 := fun h => h2 (.inr h)
      rw [addR_new h1 hn h4]
      have key : nmAt (idxOf (x.names ++ [n])) n = (x.names.length : Int) + 1 := by
        have hno : text n ∉ x.names.map text := by
          rcases nmF_spec (text n) x.names 0 with ⟨_, h3⟩ | ⟨h3, _, _⟩
          · exact h3
          · exact absurd (by unfold nmAt; simpa using h3) h1
        have : ∀ (ns : List (List Tag)) (i : Nat), text n ∉ ns.map text → nmF (text n) i (ns ++ [n]) = (i : Int) + ns.length + 1 := by
          intro ns
          induction ns with
          | nil => intro i _; simp [nmF]
          | cons y ys ih =>
            intro i hy
            simp only [List.map_cons, List.mem_cons, not_or] at hy
            rw [List.cons_append]
            unfold nmF
            rw [if_neg (by simpa using fun e => hy.1 e.symm), ih (i + 1) hy.2]
            simp only [List.length_cons]
            omega
        have := this x.names 0 hno
        unfold nmAt idxOf
        simpa using this
      simp only
      rw [addR_hit (by rw [key]; omega), key]

/-! ### The last one is told -/
theorem at_ins (r : Row) : ∀ (b : List Row), atB r.t (insR r b) = true ∧ atV r.t (insR r b) = r.v := by
  intro b
  induction b with
  | nil => simp [insR, atB, atV]
  | cons x xs ih =>
    unfold insR
    by_cases h1 : r.t < x.t
    · rw [if_pos h1]; simp [atB, atV]
    · rw [if_neg h1]
      by_cases h2 : r.t = x.t
      · rw [if_pos h2]; simp [atB, atV]
      · rw [if_neg h2]
        have : (x.t == r.t) = false := by rw [beq_eq_false_iff_ne]; exact fun e => h2 e.symm
        unfold atB atV
        rw [this]
        exact ih
theorem at_ins_other {t : Int} {u : Row} (ht : u.t ≠ t) : ∀ (b : List Row), atB t (insR u b) = atB t b ∧ atV t (insR u b) = atV t b := by
  intro b
  have hu : (u.t == t) = false := by rw [beq_eq_false_iff_ne]; exact ht
  induction b with
  | nil => simp [insR, atB, atV, hu]
  | cons x xs ih =>
    unfold insR
    by_cases h1 : u.t < x.t
    · rw [if_pos h1]
      constructor
      · conv => lhs; unfold atB
        rw [hu]; rfl
      · conv => lhs; unfold atV
        rw [hu]; rfl
    · rw [if_neg h1]
      by_cases h2 : u.t = x.t
      · rw [if_pos h2]
        have hx : (x.t == t) = false := by rw [← h2]; exact hu
        constructor
        · unfold atB; rw [hu, hx]
        · unfold atV; rw [hu, hx]; rfl
      · rw [if_neg h2]
        constructor
        · unfold atB; rw [ih.1]
        · unfold atV; rw [ih.2]
theorem law_two {s : Sto} {n : List Tag} {r u : Row} (h : SD s) (hn : NmD n) (h1 : (addP s n r).2 = true) (h2 : (addP (addP s n r).1 n u).2 = true) :
    atB u.t (rowsI (addP (addP s n r).1 n u).1 (addI s.idx n).2.1) = true ∧ atV u.t (rowsI (addP (addP s n r).1 n u).1 (addI s.idx n).2.1) = u.v ∧
      atB r.t (rowsI (addP (addP s n r).1 n u).1 (addI s.idx n).2.1) = true ∧ (u.t = r.t ∨ atV r.t (rowsI (addP (addP s n r).1 n u).1 (addI s.idx n).2.1) = r.v) := by
  have hx := addP_sd h hn h1
  obtain ⟨k1, kn, e1⟩ := addP_ok h1
  rw [h.copy] at e1
  rw [e1] at h1 h2 hx ⊢
  obtain ⟨a1, a2, a3, a4, a5⟩ := addS_ok h1
  rw [a5] at h2 hx ⊢
  dsimp only at h2 hx ⊢
  obtain ⟨k2, _, e2⟩ := addP_ok h2
  rw [hx.copy] at e2
  rw [e2] at h2 ⊢
  obtain ⟨b1, b2, b3, b4, b5⟩ := addS_ok h2
  rw [b5]
  dsimp only
  rw [addI_ok kn]
  have hag := addR_again h.ix kn a1
  have e3 : addR (addX s n r).idx n = ((addR s.idx n).1, (addR s.idx n).2.1, true) := hag
  have hI : StoI (addX s n r) := (StoK.of hx k2).stoI
  have hy : storeOk (addX (addX s n r) n u) = true := addX_ok hx k2 b1 b2 b3 b4
  have hid := (addR_I h.idx h.nm n).2.2.2 a1
  have hnames : (addX (addX s n r) n u).idx.names = (addR s.idx n).1.names := by show (addR (addX s n r).idx n).1.names = _; rw [e3]
  have hin : inR (addR s.idx n).2.1 1 (addX (addX s n r) n u).idx.names.length = true := by
    rw [hnames]
    unfold inR
    simp
    exact hid
  rw [rowsI_yes hy hin]
  have hb : Blk (rowsOf s (addR s.idx n).2.1) := (StoK.of h k1).stoI.blk _
  have er : rowsOf (addX s n r) (addR s.idx n).2.1 = insR r (rowsOf s (addR s.idx n).2.1) := by
    unfold addX
    rw [rowsOf_snoc]
    exact rowsM_hit (m := ⟨_, r⟩) rfl hb
  have eu : rowsOf (addX (addX s n r) n u) (addR s.idx n).2.1 = insR u (insR r (rowsOf s (addR s.idx n).2.1)) := by
    rw [← er]
    have : addX (addX s n r) n u = ⟨(addR s.idx n).1, s.parts, (addX s n r).mem ++ [⟨(addR s.idx n).2.1, u⟩]⟩ := by
      unfold addX
      have e4 : addR (⟨(addR s.idx n).1, s.parts, s.mem ++ [⟨(addR s.idx n).2.1, r⟩]⟩ : Sto).idx n = ((addR s.idx n).1, (addR s.idx n).2.1, true) := hag
      rw [e4]
    rw [this, rowsOf_snoc]
    exact rowsM_hit (m := ⟨_, u⟩) rfl (hI.blk _)
  rw [eu]
  obtain ⟨c1, c2⟩ := at_ins u (insR r (rowsOf s (addR s.idx n).2.1))
  refine ⟨c1, c2, ?_⟩
  by_cases hut : u.t = r.t
  · exact ⟨hut ▸ c1, .inl hut⟩
  · obtain ⟨d1, d2⟩ := at_ins_other hut (insR r (rowsOf s (addR s.idx n).2.1))
    obtain ⟨f1, f2⟩ := at_ins r (rowsOf s (addR s.idx n).2.1)
    exact ⟨d1.trans f1, .inr (d2.trans f2)⟩
end Go.Proofs.YtndljnhfkdhggaaGreat
