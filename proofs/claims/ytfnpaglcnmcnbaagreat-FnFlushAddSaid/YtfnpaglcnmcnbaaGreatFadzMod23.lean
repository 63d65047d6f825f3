/- Of two rows of one time the last one is told: the plain law. -/
import Derived.Test.YtfnpaglcnmcnbaaGreatFadzMod20
set_option linter.unusedVariables false
set_option linter.unusedSimpArgs false
namespace Go.Proofs.YtfnpaglcnmcnbaaGreat
theorem addP_ok {s : Sto} {n : List Tag} {r : Row} (h : (addP s n r).2 = true) : storeOk s = true ∧ nameOk n = true ∧ addP s n r = addS (copyS s) n r := by
 unfold addP at h ⊢
 by_cases hk : storeOk s = true ∧ nameOk n = true
 ·rw [if_pos hk]
  exact ⟨hk.1, hk.2, rfl⟩
 ·rw [if_neg hk] at h
  cases h
theorem addP_sd {s : Sto} {n : List Tag} {r : Row} (h : SD s) (hn : NmD n) (hk : (addP s n r).2 = true) : SD (addP s n r).1 := by
 obtain ⟨h1, _, h3⟩ := addP_ok hk
 rw [h3, h.copy]
 exact addS_sd (StoK.of h h1).stoI h.nd hn r
theorem foldM_other {id : Int} : ∀ (mem : List Smp) (o : List Row), (∀ m ∈ mem, m.id ≠ id) → mem.foldl (rowsM id) o = o := by
 intro mem
 induction mem with
 | nil => intro o _; rfl
 | cons m ms ih =>
   intro o h
   rw [List.foldl_cons, rowsM_no (h m (by simp))]
   exact ih o (fun x hx => h x (by simp [hx]))
theorem rowsOf_snoc (x : Idx) (ps : List Prt) (mem : List Smp) (m : Smp) (id : Int) : rowsOf ⟨x, ps, mem ++ [m]⟩ id = rowsM id (rowsOf ⟨x, ps, mem⟩ id) m := by
 unfold rowsOf
 simp only [List.foldl_append, List.foldl_cons, List.foldl_nil]
theorem rowsOf_idx (x x' : Idx) (ps : List Prt) (mem : List Smp) (id : Int) : rowsOf ⟨x, ps, mem⟩ id = rowsOf ⟨x', ps, mem⟩ id := rfl
theorem foldP_blk {id : Int} : ∀ (ps : List Prt) (o : List Row), (∀ p ∈ ps, PrtI p) → Blk o → Blk (ps.foldl (rowsP id) o) := by
 intro ps
 induction ps with
 | nil => intro o _ h; exact h
 | cons p ps ih => intro o h ho; exact ih _ (fun q hq => h q (by simp [hq])) (ho.merge ((h p (by simp)).of id))
theorem foldM_blk {id : Int} : ∀ (mem : List Smp) (o : List Row), (∀ m ∈ mem, rowOk m.row = true) → Blk o → Blk (mem.foldl (rowsM id) o) := by
 intro mem
 induction mem with
 | nil => intro o _ h; exact h
 | cons m ms ih =>
   intro o h ho
   refine ih _ (fun q hq => h q (by simp [hq])) ?_
   unfold rowsM
   split
   ·exact ho.put (h m (by simp))
   ·exact ho
theorem StoI.blk {s : Sto} (h : StoI s) (id : Int) : Blk (rowsOf s id) := foldM_blk _ _ (fun m hm => (h.mem m hm).2.2) (foldP_blk _ _ h.part Blk.nil)
theorem partF_gt {id : Int} : ∀ (is : List Int) (bs : List (List Row)), (∀ i ∈ is, i ≠ id) → partF id is bs = [] := by
 intro is
 induction is with
 | nil => intro bs _; unfold partF; rfl
 | cons i is ih =>
   intro bs h
   cases bs with
   | nil => unfold partF; rfl
   | cons b bs =>
     unfold partF
     rw [if_neg (by have := h i (by simp); simpa using this)]
     exact ih bs (fun j hj => h j (by simp [hj]))
theorem partIn_le {p : Prt} {n : Int} (h : partIn p n = true) : ∀ i ∈ p.ids, i ≤ n := by
 unfold partIn at h
 simp only [Bool.and_eq_true] at h
 obtain ⟨h1, h2⟩ := h
 unfold partOk at h1
 simp only [Bool.and_eq_true, decide_eq_true_eq] at h1
 have key : ∀ (is : List Int) (bs : List (List Row)) (o : Option Int), partG o is bs = true → ∀ l, is.getLast? = some l → ∀ i ∈ is, i ≤ l := by
  intro is
  induction is with
  | nil => intro bs o _ l hl; simp at hl
  | cons x xs ih =>
    intro bs o hg l hl i hi
    cases bs with
    | nil => simp [partG] at hg
    | cons b bs =>
      simp only [partG, Bool.and_eq_true] at hg
      obtain ⟨g1, _⟩ := partG_asc xs bs (some x) hg.2
      cases hx : xs.getLast? with
      | none =>
        have : xs = [] := List.getLast?_eq_none_iff.1 hx
        subst this
        simp at hl hi
        omega
      | some l' =>
        have e : (x :: xs).getLast? = some l' := by rw [List.getLast?_cons, hx]; rfl
        rw [e] at hl
        cases hl
        rcases List.mem_cons.1 hi with rfl | hi
        ·have := g1 i rfl l (List.mem_of_getLast? hx); omega
        ·exact ih bs (some x) hg.2 l hx i hi
 intro i hi
 cases hl : p.ids.getLast? with
 | none => rw [hl] at h2; cases h2
 | some l =>
   rw [hl] at h2
   have := key p.ids p.blocks none h1.2 l hl i hi
   have h3 : l ≤ n := by simpa using h2
   omega
theorem foldP_other {id : Int} {n : Int} : ∀ (ps : List Prt) (o : List Row), (∀ p ∈ ps, partIn p n = true) → n < id → ps.foldl (rowsP id) o = o := by
 intro ps
 induction ps with
 | nil => intro o _ _; rfl
 | cons p ps ih =>
   intro o h hid
   rw [List.foldl_cons]
   have : rowsP id o p = o := by
    unfold rowsP partOf
    rw [partF_gt p.ids p.blocks (fun i hi => by have := partIn_le (h p (by simp)) i hi; omega)]
    rfl
   rw [this]
   exact ih o (fun q hq => h q (by simp [hq])) hid
theorem partIn_mono {p : Prt} {n m : Int} (h : partIn p n = true) (hm : n ≤ m) : partIn p m = true := by
 have hok := partIn_ok h
 unfold partIn at h ⊢
 rw [hok, Bool.true_and] at h ⊢
 cases hl : p.ids.getLast? with
 | none => rw [hl] at h; cases h
 | some l =>
   rw [hl] at h
   simp only [decide_eq_true_eq] at h ⊢
   omega
theorem storeOk_iff {s : Sto} : storeOk s = true ↔ s.parts.length ≤ 6 ∧ s.mem.length ≤ 20 ∧ (∀ p ∈ s.parts, partIn p s.idx.names.length = true) ∧ (∀ m ∈ s.mem, memOk s.idx.names.length m = true) ∧ ∀ i, i < s.idx.names.length → (rowsOf s ((i : Int) + 1)).length ≤ 24 := by
 unfold storeOk
 simp only [Bool.and_eq_true, decide_eq_true_eq, List.all_eq_true, List.mem_range, cntOk]
 constructor
 ·rintro ⟨⟨⟨⟨h1, h2⟩, h3⟩, h4⟩, h5⟩; exact ⟨h1, h2, h3, h4, h5⟩
 ·rintro ⟨h1, h2, h3, h4, h5⟩; exact ⟨⟨⟨⟨h1, h2⟩, h3⟩, h4⟩, h5⟩
theorem memOk_of {n : Nat} {m : Smp} (h1 : 1 ≤ m.id) (h2 : m.id ≤ n) (h3 : rowOk m.row = true) : memOk n m = true := by
 unfold memOk inR
 simp [h1, h2, h3]
theorem addX_ok {s : Sto} {n : List Tag} {r : Row} (h : SD s) (hk : storeOk s = true) (h1 : (addR s.idx n).2.2 = true) (h2 : rowOk r = true) (h3 : s.mem.length < 20) (h4 : (rowsOf (addX s n r) (addR s.idx n).2.1).length ≤ 24) : storeOk (addX s n r) = true := by
 have hK := StoK.of h hk
 obtain ⟨a1, a2, a3, a4, a5⟩ := storeOk_iff.1 hk
 obtain ⟨g1, g2, g3, g4⟩ := addR_I h.idx h.nm n
 have g5 := g4 h1
 refine storeOk_iff.2 ⟨a1, by simp only [addX, List.length_append, List.length_cons, List.length_nil]; omega, fun p hp => partIn_mono (a3 p hp) (by show (s.idx.names.length : Int) ≤ ((addR s.idx n).1.names.length : Int); omega), fun m hm => ?_, fun i hi => ?_⟩
 ·rcases List.mem_append.1 hm with hm | hm
  ·have := hK.id m hm
   exact memOk_of this.1 (by show m.id ≤ ((addR s.idx n).1.names.length : Int); omega) (hK.row m hm)
  ·simp at hm
   subst hm
   exact memOk_of g5.1 g5.2 h2
 ·by_cases he : (addR s.idx n).2.1 = (i : Int) + 1
  ·rw [← he]; exact h4
  ·have e : rowsOf (addX s n r) ((i : Int) + 1) = rowsOf s ((i : Int) + 1) := by
    unfold addX
    rw [rowsOf_snoc, rowsM_no (by simpa using he)]
    exact rowsOf_idx _ s.idx s.parts s.mem _
   rw [e]
   by_cases hil : i < s.idx.names.length
   ·exact a5 i hil
   ·have : rowsOf s ((i : Int) + 1) = [] := by
     unfold rowsOf
     rw [foldP_other (n := s.idx.names.length) s.parts [] a3 (by omega), foldM_other s.mem [] (fun m hm => by have := (hK.id m hm).2; omega)]
    rw [this]; simp
theorem at_ins (r : Row) : ∀ (b : List Row), atB r.t (insR r b) = true ∧ atV r.t (insR r b) = r.v := by
 intro b
 induction b with
 | nil => simp [insR, atB, atV]
 | cons x xs ih =>
   unfold insR
   by_cases h1 : r.t < x.t
   ·rw [if_pos h1]; simp [atB, atV]
   ·rw [if_neg h1]
    by_cases h2 : r.t = x.t
    ·rw [if_pos h2]; simp [atB, atV]
    ·rw [if_neg h2]
     have : (x.t == r.t) = false := by rw [beq_eq_false_iff_ne]; exact fun e => h2 e.symm
     unfold atB atV
     rw [this]
     exact ih
end Go.Proofs.YtfnpaglcnmcnbaaGreat
namespace Go.Proofs.YtfnpaglcnmcnbaaGreat
theorem rowsOf_add {s : Sto} {n : List Tag} {r : Row} (h : SD s) (hk : storeOk s = true) (j : Int) : rowsOf (addX s n r) j = if j = (addR s.idx n).2.1 then insR r (rowsOf s j) else rowsOf s j := by
 have hb : Blk (rowsOf s j) := (StoK.of h hk).stoI.blk _
 unfold addX
 rw [rowsOf_snoc]
 by_cases hj : j = (addR s.idx n).2.1
 ·rw [if_pos hj]
  exact rowsM_hit (m := ⟨_, r⟩) hj.symm hb
 ·rw [if_neg hj]
  exact rowsM_no (m := ⟨_, r⟩) (fun e => hj e.symm)
end Go.Proofs.YtfnpaglcnmcnbaaGreat
