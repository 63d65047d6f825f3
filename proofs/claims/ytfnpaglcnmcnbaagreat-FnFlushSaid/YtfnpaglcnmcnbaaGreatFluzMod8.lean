/- What the program computes, as plain functions: disks and worlds. -/
import Derived.Test.YtfnpaglcnmcnbaaGreatFluzW7
set_option linter.unusedVariables false
set_option linter.unusedSimpArgs false
namespace Go.Proofs.YtfnpaglcnmcnbaaGreat
def partNo (d : Dsk) (n : Int) : Prt := (d.files.getD (numAt d n).toNat default).part
def openS (d : Dsk) : Sto := ⟨idxOf d.names, d.list.map (partNo d), []⟩
def copyF (f : Fil) : Fil := ⟨f.num, pMerge f.part ⟨[], []⟩⟩
def copyD (d : Dsk) : Dsk := ⟨d.files.map copyF, d.list, d.names, d.next⟩
def goneF (d : Dsk) (n : Int) : List Fil := if numAt d n ≥ 0 ∧ d.list.contains n = false then d.files.take (numAt d n).toNat ++ d.files.drop ((numAt d n).toNat + 1) else d.files
def doD (d : Dsk) (x : Stp) : Dsk :=
  if x.kind = 1 then ⟨d.files ++ [⟨x.num, x.part⟩], d.list, d.names, x.num + 1⟩
  else if x.kind = 2 then ⟨d.files, x.list, x.names, d.next⟩
  else if x.kind = 3 then ⟨goneF d x.num, d.list, d.names, d.next⟩
  else d
def toD (d : Dsk) (steps : List Stp) (cut : Int) : Dsk := (steps.take cut.toNat).foldl doD d
def mergeSt (d : Dsk) (at_ : Int) : List Stp :=
  if !(inR at_ 0 ((d.list.length : Int) - 2)) || decide (d.next ≥ 999) || decide (d.files.length ≥ 20) then []
  else
    let a := d.list.getD at_.toNat 0
    let b := d.list.getD (at_.toNat + 1) 0
    [⟨1, d.next, pMerge (partNo d a) (partNo d b), [], []⟩, ⟨2, 0, ⟨[], []⟩, d.list.take at_.toNat ++ [d.next] ++ d.list.drop (at_.toNat + 2), d.names⟩, ⟨3, a, ⟨[], []⟩, [], []⟩, ⟨3, b, ⟨[], []⟩, [], []⟩]
def fallW (w : Wld) : Wld := ⟨copyS (openS (copyD (tidyD w.disk))), copyD (tidyD w.disk)⟩
def stepsW (w : Wld) (steps : List Stp) (cut : Int) (s : Sto) : Wld :=
  if steps.length = 0 ∨ cut < 0 then w
  else if cut < steps.length then fallW ⟨w.store, toD w.disk steps cut⟩ else ⟨s, toD w.disk steps cut⟩
def doW (w : Wld) (e : Evt) : Wld :=
  if e.kind = 1 then (if nameOk e.name then ⟨(addS w.store e.name e.row).1, w.disk⟩ else w)
  else if e.kind = 2 then stepsW w (flushSt w.disk w.store) e.cut (flushR w.store).1
  else if e.kind = 3 then stepsW w (mergeSt w.disk e.at_) e.cut (mergeR w.store e.at_).1
  else if e.kind = 4 then fallW w
  else w
def copyW (w : Wld) : Wld := ⟨copyS w.store, copyD w.disk⟩
theorem numF_lt (n : Int) : ∀ (fs : List Fil) (i : Nat), numF n i fs < (i : Int) + fs.length ∧ (numF n i fs = -1 ∨ (i : Int) ≤ numF n i fs) := by
  intro fs
  induction fs with
  | nil => intro i; simp [numF]; omega
  | cons f fs ih =>
    intro i
    have h := ih (i + 1)
    simp only [numF, List.length_cons]
    split <;> omega
theorem numAt_lt (d : Dsk) (n : Int) : numAt d n < d.files.length := by have := numF_lt n d.files 0; unfold numAt; omega
theorem numAt_idx {d : Dsk} {n : Int} (h : ∀ n ∈ d.list, 0 ≤ numAt d n) (hm : n ∈ d.list) : (numAt d n).toNat < d.files.length := by
  have h1 := h n hm
  have h2 := numAt_lt d n
  omega
theorem numAt_nat {d : Dsk} {n : Int} (h : ∀ n ∈ d.list, 0 ≤ numAt d n) (hm : n ∈ d.list) : numAt d n = ((numAt d n).toNat : Int) := by
  have h1 := h n hm
  omega
theorem partNo_at {d : Dsk} {n : Int} {f : Fil} (h : d.files[(numAt d n).toNat]? = some f) : partNo d n = f.part := by
  unfold partNo; rw [List.getD_eq_getElem?_getD, h]; rfl
theorem mapStep {α β : Type} {l : List α} {f : α → β} {i : Nat} {k : List β} {q : α} {y : β} (h : k ++ (l.drop i).map f = l.map f) (hd : l.drop i = q :: l.drop (i + 1)) (hy : y = f q) : (k ++ [y]) ++ (l.drop (i + 1)).map f = l.map f := by
  subst hy
  rw [hd] at h
  simpa using h
theorem mapEnd {α β : Type} {l : List α} {f : α → β} {i : Nat} {k : List β} (h : k ++ (l.drop i).map f = l.map f) (hi : l.length ≤ i) : k = l.map f := by
  rw [drop_end hi] at h
  simpa using h
theorem toStep {l : List Stp} {c : Nat} {i : Nat} {d : Dsk} {q : Stp} {Y : Dsk} (h : ((l.take c).drop i).foldl doD d = Y) (hd : l.drop i = q :: l.drop (i + 1)) (hc : i < c) : ((l.take c).drop (i + 1)).foldl doD (doD d q) = Y := by
  have h1 : (l.take c).drop i = q :: (l.take c).drop (i + 1) := by
    rw [List.drop_take, List.drop_take, hd, show c - i = (c - (i + 1)) + 1 by omega]
    rfl
  rw [h1] at h
  exact h
theorem toEnd {l : List Stp} {c : Nat} {i : Nat} {d : Dsk} {Y : Dsk} (h : ((l.take c).drop i).foldl doD d = Y) (hc : l.length ≤ i ∨ c ≤ i) : d = Y := by
  rw [List.drop_of_length_le (by rw [List.length_take]; omega)] at h
  exact h
theorem doD_1 {d : Dsk} {x : Stp} (h : x.kind = 1) : doD d x = ⟨d.files ++ [⟨x.num, x.part⟩], d.list, d.names, x.num + 1⟩ := by unfold doD; rw [if_pos h]
theorem doD_2 {d : Dsk} {x : Stp} (h : x.kind = 2) : doD d x = ⟨d.files, x.list, x.names, d.next⟩ := by unfold doD; rw [if_neg (by omega), if_pos h]
theorem doD_3 {d : Dsk} {x : Stp} (h : x.kind = 3) : doD d x = ⟨goneF d x.num, d.list, d.names, d.next⟩ := by unfold doD; rw [if_neg (by omega), if_neg (by omega), if_pos h]
theorem doD_0 {d : Dsk} {x : Stp} (h : x.kind ≠ 1) (h2 : x.kind ≠ 2) (h3 : x.kind ≠ 3) : doD d x = d := by unfold doD; rw [if_neg h, if_neg h2, if_neg h3]
theorem gone_t {d : Dsk} {n : Int} (h : numAt d n ≥ 0) (h2 : d.list.contains n = false) : goneF d n = d.files.take (numAt d n).toNat ++ d.files.drop ((numAt d n).toNat + 1) := by unfold goneF; rw [if_pos ⟨h, h2⟩]
theorem gone_f {d : Dsk} {n : Int} (h : ¬ numAt d n ≥ 0 ∨ d.list.contains n = true) : goneF d n = d.files := by unfold goneF; rw [if_neg]; rintro ⟨h1, h2⟩; rcases h with h | h; exact h h1; rw [h2] at h; cases h
theorem merge_no {d : Dsk} {a : Int} (h : inR a 0 ((d.list.length : Int) - 2) = false ∨ d.next ≥ 999 ∨ (d.files.length : Int) ≥ 20) : mergeSt d a = [] := by
  unfold mergeSt
  rw [if_pos]
  rcases h with h | h | h
  · simp [h]
  · simp [h]
  · have h : d.files.length ≥ 20 := by omega
    simp [h]
theorem merge_yes {d : Dsk} {at_ a b : Int} {f g : Fil} (h : inR at_ 0 ((d.list.length : Int) - 2) = true) (h2 : ¬ d.next ≥ 999) (h3 : ¬ (d.files.length : Int) ≥ 20) (ha : d.list[at_.toNat]? = some a) (hb : d.list[(at_ + 1).toNat]? = some b)
    (hf : d.files[(numAt d a).toNat]? = some f) (hg : d.files[(numAt d b).toNat]? = some g) :
    mergeSt d at_ = [⟨1, d.next, pMerge f.part g.part, [], []⟩, ⟨2, 0, ⟨[], []⟩, (([] ++ (d.list.take at_.toNat).drop 0) ++ [d.next]) ++ (d.list.take d.list.length).drop (at_ + 2).toNat, d.names⟩, ⟨3, a, ⟨[], []⟩, [], []⟩, ⟨3, b, ⟨[], []⟩, [], []⟩] := by
  have h0 := inR_t h
  have e1 : (at_ + 1).toNat = at_.toNat + 1 := by omega
  have e2 : (at_ + 2).toNat = at_.toNat + 2 := by omega
  rw [e1] at hb
  have h4 : ¬ d.files.length ≥ 20 := by omega
  unfold mergeSt
  rw [if_neg (by simp [h]; omega), ← partNo_at hf, ← partNo_at hg, e2, List.getD_eq_getElem?_getD, List.getD_eq_getElem?_getD, ha, hb]
  simp
theorem doD_len {d : Dsk} {x : Stp} (h : x.list.length ≤ 1000) (hd : d.list.length ≤ 1000) : (doD d x).files.length ≤ d.files.length + 1 ∧ (doD d x).list.length ≤ 1000 := by
  unfold doD goneF
  split
  · simp; exact hd
  · split
    · simp; exact h
    · split
      · simp only
        split <;> simp <;> omega
      · omega
def StpSz (x : Stp) : Prop := x.list.length ≤ 1000 ∧ x.names.length ≤ 1000 ∧ (∀ n ∈ x.names, n.length ≤ 1000) ∧ -9000000 ≤ x.num ∧ x.num ≤ 9000000
end Go.Proofs.YtfnpaglcnmcnbaaGreat
