/- What the program computes, as plain functions: the index, the store, the disk. -/
import Derived.Test.YtfnpaglcnmcnbaaGreatFluzW4
import Derived.Test.YtfnpaglcnmcnbaaGreatFluzLit
set_option linter.unusedVariables false
set_option linter.unusedSimpArgs false
namespace Go.Proofs.YtfnpaglcnmcnbaaGreat
def tagAt (k v : Nat) : Tag := ⟨[UInt8.ofNat k], [UInt8.ofNat v]⟩
def post1 (names : List (List Tag)) (t : Tag) : List Pst := if (ids names t).length > 0 then [⟨t, ids names t⟩] else []
def postsV (names : List (List Tag)) (k : Nat) : Nat → Nat → List Pst
  | 0, _ => []
  | f + 1, v => post1 names (tagAt k v) ++ postsV names k f (v + 1)
def postsK (names : List (List Tag)) : Nat → Nat → List Pst
  | 0, _ => []
  | f + 1, k => postsV names k 11 112 ++ postsK names f (k + 1)
def postsOf (names : List (List Tag)) : List Pst := postsK names 4 97
def idxOf (names : List (List Tag)) : Idx := ⟨names, postsOf names⟩
def addR (ix : Idx) (n : List Tag) : Idx × Int × Bool :=
  if nmAt ix n > 0 then (ix, nmAt ix n, true)
  else if !nameOk n || decide (ix.names.length ≥ 6) then (ix, 0, false)
  else (idxOf (ix.names ++ [n]), (ix.names.length : Int) + 1, true)
def memF (bl : List (List Row)) (m : Smp) : List (List Row) := bl.set (m.id - 1).toNat (sPut (bl.getD (m.id - 1).toNat []) m.row)
def memPart (mem : List Smp) : Prt := pMake (mem.foldl memF [[], [], [], [], [], []])
theorem memF_len (bl : List (List Row)) (m : Smp) : (memF bl m).length = bl.length := by simp [memF]
theorem memStep {l : List Smp} {i : Nat} {xs : List (List Row)} {m : Smp} {x : List Row} {Y : List (List Row)} (hi : (l.drop i).foldl memF xs = Y) (hd : l.drop i = m :: l.drop (i + 1)) (hx : xs[(m.id - 1).toNat]? = some x) :
    (l.drop (i + 1)).foldl memF (xs.set (m.id - 1).toNat (sPut x m.row)) = Y := by
  rw [hd, List.foldl_cons] at hi
  have : memF xs m = xs.set (m.id - 1).toNat (sPut x m.row) := by unfold memF; rw [List.getD_eq_getElem?_getD, hx]; rfl
  rw [this] at hi
  exact hi
theorem memLen {xs : List (List Row)} {j i : Nat} {x : List Row} {r : Row} (h : ∀ b ∈ xs, b.length ≤ i) (hx : xs[j]? = some x) : ∀ b ∈ xs.set j (sPut x r), b.length ≤ i + 1 := by
  intro b hb
  rcases List.mem_or_eq_of_mem_set hb with hb | rfl
  · have := h b hb; omega
  · have h1 := h x (List.mem_of_getElem? hx)
    have h2 := sPut_len x r
    omega
theorem postsV_at (names : List (List Tag)) (k v : Nat) (h : v ≤ 122) : postsV names k (123 - v) v = post1 names (tagAt k v) ++ postsV names k (123 - (v + 1)) (v + 1) := by
  rw [show 123 - v = (123 - (v + 1)) + 1 by omega]
  rfl
theorem postsK_at (names : List (List Tag)) (k : Nat) (h : k ≤ 100) : postsK names (101 - k) k = postsV names k 11 112 ++ postsK names (101 - (k + 1)) (k + 1) := by
  rw [show 101 - k = (101 - (k + 1)) + 1 by omega]
  rfl
theorem postsV_end (names : List (List Tag)) (k v : Nat) (h : 123 ≤ v) : postsV names k (123 - v) v = [] := by
  rw [show 123 - v = 0 by omega]; rfl
theorem postsK_end (names : List (List Tag)) (k : Nat) (h : 101 ≤ k) : postsK names (101 - k) k = [] := by
  rw [show 101 - k = 0 by omega]; rfl
end Go.Proofs.YtfnpaglcnmcnbaaGreat
