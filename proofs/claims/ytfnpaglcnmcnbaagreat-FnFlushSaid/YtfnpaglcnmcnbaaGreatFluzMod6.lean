/- What the program computes, as plain functions: adding, flushing, merging. -/
import Derived.Test.YtfnpaglcnmcnbaaGreatFluzW5
set_option linter.unusedVariables false
set_option linter.unusedSimpArgs false
namespace Go.Proofs.YtfnpaglcnmcnbaaGreat
def IdxSz (x : Idx) : Prop := x.names.length ≤ 1000 ∧ ∀ n ∈ x.names, NmSz n
def StoSz (s : Sto) : Prop := IdxSz s.idx ∧ s.parts.length ≤ 100 ∧ (∀ p ∈ s.parts, PrtSz p) ∧ s.mem.length ≤ 900
def flushR (s : Sto) : Sto × Bool :=
  if s.mem.length = 0 ∨ s.parts.length ≥ 6 then (s, false) else (⟨s.idx, s.parts ++ [memPart s.mem], []⟩, true)
def mergeP (ps : List Prt) (at_ : Nat) : List Prt := match ps[at_]?, ps[at_ + 1]? with
  | some x, some y => ps.take at_ ++ [pMerge x y] ++ ps.drop (at_ + 2)
  | _, _ => ps
def mergeR (s : Sto) (at_ : Int) : Sto × Bool :=
  if inR at_ 0 ((s.parts.length : Int) - 2) then (⟨s.idx, mergeP s.parts at_.toNat, s.mem⟩, true) else (s, false)
def addX (s : Sto) (n : List Tag) (r : Row) : Sto := ⟨(addR s.idx n).1, s.parts, s.mem ++ [⟨(addR s.idx n).2.1, r⟩]⟩
def addS (s : Sto) (n : List Tag) (r : Row) : Sto × Bool :=
  if !(addR s.idx n).2.2 || !rowOk r || decide (s.mem.length ≥ 20) then (s, false)
  else if (rowsOf (addX s n r) (addR s.idx n).2.1).length > 24 then (s, false) else (addX s n r, true)
theorem sto_eta (s : Sto) : (⟨⟨s.idx.names, s.idx.posts⟩, s.parts, s.mem⟩ : Sto) = s := rfl
theorem idx_eta (s : Idx) : (⟨s.names, s.posts⟩ : Idx) = s := rfl
theorem addR_hit {ix : Idx} {n : List Tag} (h : nmAt ix n > 0) : addR ix n = (ix, nmAt ix n, true) := by unfold addR; rw [if_pos h]
theorem addR_no {ix : Idx} {n : List Tag} (h : ¬ nmAt ix n > 0) (h2 : nameOk n = false ∨ (ix.names.length : Int) ≥ 6) : addR ix n = (ix, 0, false) := by
  unfold addR
  rw [if_neg h, if_pos]
  rcases h2 with h2 | h2
  · simp [h2]
  · simp; omega
theorem addR_new {ix : Idx} {n : List Tag} (h : ¬ nmAt ix n > 0) (h2 : nameOk n = true) (h3 : ¬ (ix.names.length : Int) ≥ 6) : addR ix n = (idxOf (ix.names ++ [n]), (ix.names.length : Int) + 1, true) := by
  unfold addR
  rw [if_neg h, if_neg]
  simp [h2]
  omega
theorem mergeP_at {ps : List Prt} {i : Nat} {x y : Prt} (hx : ps[i]? = some x) (hy : ps[i + 1]? = some y) : mergeP ps i = ps.take i ++ [pMerge x y] ++ ps.drop (i + 2) := by
  simp [mergeP, hx, hy]
theorem addS_1 {s : Sto} {n : List Tag} {r : Row} (h : (addR s.idx n).2.2 = false) : addS s n r = (s, false) := by unfold addS; rw [if_pos (by simp [h])]
theorem addS_2 {s : Sto} {n : List Tag} {r : Row} (h : rowOk r = false) : addS s n r = (s, false) := by unfold addS; rw [if_pos (by simp [h])]
theorem addS_3 {s : Sto} {n : List Tag} {r : Row} (h : (s.mem.length : Int) ≥ 20) : addS s n r = (s, false) := by unfold addS; rw [if_pos (by simp; omega)]
theorem addS_4 {s : Sto} {n : List Tag} {r : Row} (h1 : (addR s.idx n).2.2 = true) (h2 : rowOk r = true) (h3 : ¬ (s.mem.length : Int) ≥ 20) (h : ((rowsOf (addX s n r) (addR s.idx n).2.1).length : Int) > 24) : addS s n r = (s, false) := by
  unfold addS; rw [if_neg (by simp [h1, h2]; omega), if_pos (by omega)]
theorem addS_5 {s : Sto} {n : List Tag} {r : Row} (h1 : (addR s.idx n).2.2 = true) (h2 : rowOk r = true) (h3 : ¬ (s.mem.length : Int) ≥ 20) (h : ¬ ((rowsOf (addX s n r) (addR s.idx n).2.1).length : Int) > 24) : addS s n r = (addX s n r, true) := by
  unfold addS; rw [if_neg (by simp [h1, h2]; omega), if_neg (by omega)]
theorem mergeR_f {s : Sto} {a : Int} (h : inR a 0 ((s.parts.length : Int) - 2) = false) : mergeR s a = (s, false) := by unfold mergeR; rw [if_neg (by simp [h])]
theorem mergeR_t {s : Sto} {a : Int} {x y : Prt} (h : inR a 0 ((s.parts.length : Int) - 2) = true) (hx : s.parts[a.toNat]? = some x) (hy : s.parts[(a + 1).toNat]? = some y) :
    mergeR s a = (⟨s.idx, (([] ++ (s.parts.take a.toNat).drop 0) ++ [pMerge x y]) ++ ((s.parts.take s.parts.length).drop (a + 2).toNat), s.mem⟩, true) := by
  have h1 := inR_t h
  have e1 : (a + 1).toNat = a.toNat + 1 := by omega
  have e2 : (a + 2).toNat = a.toNat + 2 := by omega
  rw [e1] at hy
  unfold mergeR
  rw [if_pos h, mergeP_at hx hy, e2]
  simp
end Go.Proofs.YtfnpaglcnmcnbaaGreat
