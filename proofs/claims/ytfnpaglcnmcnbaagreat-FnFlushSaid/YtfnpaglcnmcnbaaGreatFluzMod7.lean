/- What the program computes, as plain functions: copies, disks. -/
import Derived.Test.YtfnpaglcnmcnbaaGreatFluzW6
set_option linter.unusedVariables false
set_option linter.unusedSimpArgs false
namespace Go.Proofs.YtfnpaglcnmcnbaaGreat
def copyS (s : Sto) : Sto := ⟨idxOf s.idx.names, s.parts, s.mem⟩
def tidyD (d : Dsk) : Dsk := ⟨d.files.filter (fun f => d.list.contains f.num), d.list, d.names, d.next⟩
def flushSt (d : Dsk) (s : Sto) : List Stp :=
  if s.mem.length = 0 ∨ d.list.length ≥ 6 ∨ d.next ≥ 999 ∨ d.files.length ≥ 20 then []
  else [⟨1, d.next, memPart s.mem, [], []⟩, ⟨2, 0, ⟨[], []⟩, d.list ++ [d.next], s.idx.names⟩]
theorem flushSt_no {d : Dsk} {s : Sto} (h : (s.mem.length : Int) = 0 ∨ (d.list.length : Int) ≥ 6 ∨ d.next ≥ 999 ∨ (d.files.length : Int) ≥ 20) : flushSt d s = [] := by unfold flushSt; rw [if_pos (by omega)]
theorem flushSt_yes {d : Dsk} {s : Sto} (h1 : (s.mem.length : Int) ≠ 0) (h2 : ¬ (d.list.length : Int) ≥ 6) (h3 : ¬ d.next ≥ 999) (h4 : ¬ (d.files.length : Int) ≥ 20) :
    flushSt d s = [⟨1, d.next, memPart s.mem, [], []⟩, ⟨2, 0, ⟨[], []⟩, d.list ++ [d.next], s.idx.names⟩] := by unfold flushSt; rw [if_neg (by omega)]
theorem appStep {α : Type} {l : List (List α)} {i : Nat} {k : List (List α)} {q : List α} (h : k ++ l.drop i = l) (hd : l.drop i = q :: l.drop (i + 1)) : (k ++ [[] ++ q]) ++ l.drop (i + 1) = l := by
  rw [hd] at h
  simpa using h
theorem copyStep {l : List Prt} {i : Nat} {k : List Prt} {q : Prt} {a : List Int} {b : List (List Row)} (h : k ++ l.drop i = l) (hd : l.drop i = q :: l.drop (i + 1)) (ha : a = q.ids) (hb : b = q.blocks) : (k ++ [⟨a, b⟩]) ++ l.drop (i + 1) = l := by
  subst ha hb
  rw [hd] at h
  simpa using h
end Go.Proofs.YtfnpaglcnmcnbaaGreat
