/- A flush changes nothing that is told: plain laws. -/
import Derived.Test.YtfnpaglcnmcnbaaGreatFluzW40
import Derived.Test.YtfnpaglcnmcnbaaGreatFluzMod31
set_option linter.unusedVariables false
set_option linter.unusedSimpArgs false
namespace Go.Proofs.YtfnpaglcnmcnbaaGreat
theorem flush_no {s : Sto} (h : SD s) (hk : storeOk s = true) (h1 : (flushP s).2 = false) : (flushP s).1 = s ∧ (s.mem.length = 0 ∨ s.parts.length = 6) := by
  by_cases hc : (s.mem.length : Int) = 0 ∨ (s.parts.length : Int) = 6
  · rw [flushJ_1 h hk hc, h.copy]
    exact ⟨rfl, by omega⟩
  · rw [flushJ_2 h hk (by omega) (by omega)] at h1
    cases h1
theorem flush_yes {s : Sto} (h : SD s) (h1 : (flushP s).2 = true) : (flushP s).1 = flushX s ∧ storeOk s = true ∧ s.mem ≠ [] ∧ s.parts.length < 6 := by
  cases hk : storeOk s with
  | false => rw [flushP_no hk] at h1; cases h1
  | true =>
    by_cases hc : (s.mem.length : Int) = 0 ∨ (s.parts.length : Int) = 6
    · rw [flushJ_1 h hk hc] at h1; cases h1
    · have h6 := parts6 hk
      rw [flushJ_2 h hk (by omega) (by omega)]
      refine ⟨?_, rfl, fun e => ?_, by omega⟩
      · show (⟨(copyS s).idx, (copyS s).parts ++ [memPart s.mem], []⟩ : Sto) = flushX s
        rw [h.copy]
        rfl
      · rw [e] at hc; simp at hc
theorem flush_sd {s : Sto} (h : SD s) (h1 : (flushP s).2 = true) : SD (flushP s).1 := by
  obtain ⟨e, hk, _, h4⟩ := flush_yes h h1
  rw [e]
  refine ⟨h.idx, h.nm, h.nd, by simp [flushX]; omega, fun p hp => ?_, by simp [flushX], fun m hm => by simp [flushX] at hm⟩
  rcases List.mem_append.1 hp with hp | hp
  · exact h.part p hp
  · simp at hp
    subst hp
    exact PrtI.mem (StoK.of h hk).row
theorem flush_len {s : Sto} (h : SD s) (h1 : (flushP s).2 = true) : (flushP s).1.parts.length = s.parts.length + 1 ∧ (flushP s).1.mem = [] ∧ (flushP s).1.idx = s.idx := by
  rw [(flush_yes h h1).1]
  simp [flushX]
theorem flush_part {s : Sto} (h : SD s) (h1 : (flushP s).2 = true) {k : Nat} {a b : Prt} (ha : (flushP s).1.parts[k]? = some a) (hb : s.parts[k]? = some b) (hf : (a == b) = false) : False := by
  rw [(flush_yes h h1).1] at ha
  have hk := (List.getElem?_eq_some_iff.1 hb).1
  unfold flushX at ha
  rw [List.getElem?_append_left hk, hb] at ha
  cases ha
  simp at hf
theorem ask_same {s x : Sto} {f : List Cnd} (hi : x.idx = s.idx) (hk : storeOk s = storeOk x) (hr : storeOk s = true → ∀ id : Int, 1 ≤ id → id ≤ s.idx.names.length → rowsOf x id = rowsOf s id) (lo hi2 : Int) : askS x f lo hi2 = askS s f lo hi2 := by
  unfold askS
  rw [← hk]
  cases hs : storeOk s && filtOk f with
  | false => rfl
  | true =>
    simp only [Bool.and_eq_true] at hs
    rw [if_pos rfl, if_pos rfl]
    unfold askP
    rw [hi]
    have key : ∀ (l : List Int), (∀ i ∈ l, 1 ≤ i ∧ i ≤ s.idx.names.length) → l.flatMap (hit1 x lo hi2) = l.flatMap (hit1 s lo hi2) := by
      intro l
      induction l with
      | nil => intro _; rfl
      | cons i is ih =>
        intro h
        rw [List.flatMap_cons, List.flatMap_cons, ih (fun j hj => h j (by simp [hj]))]
        have h1 := h i (by simp)
        unfold hit1
        rw [hr hs.1 i h1.1 h1.2, hi]
    exact key _ (fun i hi => findP_in hi)
theorem flush_says {s : Sto} (h : SD s) (h1 : (flushP s).2 = true) : askS (flushP s).1 [] 0 99 = askS s [] 0 99 ∧ storeOk (flushP s).1 = true := by
  obtain ⟨e, hk, h3, h4⟩ := flush_yes h h1
  have h5 := flush_ok h hk h3 h4
  rw [e]
  exact ⟨ask_same (x := flushX s) (s := s) rfl (hk.trans h5.symm) (fun _ id a b => flush_rows (StoK.of h hk) a (by have := h.nm.len; omega)) _ _, h5⟩
theorem flush_f {s : Sto} (h : SD s) (h1 : (flushP s).2 = true) (hf : (askS (flushP s).1 [] 0 99 == askS s [] 0 99) = false ∨ ((flushP s).1.idx == s.idx) = false) : False := by
  rcases hf with hf | hf
  · rw [(flush_says h h1).1] at hf; simp at hf
  · rw [(flush_len h h1).2.2] at hf; simp at hf
end Go.Proofs.YtfnpaglcnmcnbaaGreat
