/- Places of names and of postings; comparing. -/
import Derived.Test.YtfnpaglcnmcnbaaGreatFluzW17
set_option linter.unusedVariables false
set_option linter.unusedSimpArgs false
namespace Go.Proofs.YtfnpaglcnmcnbaaGreat
def idxN (n : List Tag) : Nat → List (List Tag) → Int
  | _, [] => -1
  | i, x :: xs => if x == n then (i : Int) else idxN n (i + 1) xs
def idxP (t : Tag) : Nat → List Pst → Int
  | _, [] => -1
  | i, x :: xs => if x.tag == t then (i : Int) else idxP t (i + 1) xs
theorem idxN_le (n : List Tag) : ∀ (xs : List (List Tag)) (i : Nat), -1 ≤ idxN n i xs ∧ idxN n i xs + 1 ≤ (i : Int) + xs.length := by
  intro xs
  induction xs with
  | nil => intro i; simp [idxN]
  | cons x xs ih =>
    intro i
    have := ih (i + 1)
    unfold idxN
    simp only [List.length_cons]
    split <;> omega
def cmpS (x y : Str) : Int := if strLt x y then -1 else if strLt y x then 1 else 0
def orF : List Int → Int
  | [] => 0
  | x :: xs => if x ≠ 0 then x else orF xs
def cmpP (a b : Pst) : Int := orF [cmpS a.tag.key b.tag.key, cmpS a.tag.val b.tag.val]
theorem strLt_gt (x y : Str) : strLe x y = !strLt y x := by
  have key : ∀ (x y : Str), (Op.bytesLess x y || x == y) = !Op.bytesLess y x := by
    intro x
    induction x with
    | nil => intro y; cases y <;> simp [Op.bytesLess]
    | cons a x ih =>
      intro y
      cases y with
      | nil => simp [Op.bytesLess]
      | cons b y =>
        show ((decide (a < b) || a == b && Op.bytesLess x y) || (a :: x) == (b :: y)) = !(decide (b < a) || b == a && Op.bytesLess y x)
        rcases Nat.lt_trichotomy a.toNat b.toNat with h | h | h
        · have h1 : a < b := UInt8.lt_iff_toNat_lt.2 h
          have h2 : ¬ b < a := fun h2 => by have := UInt8.lt_iff_toNat_lt.1 h2; omega
          have h3 : ¬ b = a := fun e => by rw [e] at h; omega
          simp [h1, h2, h3]
        · have h1 : a = b := UInt8.toNat_inj.1 h
          subst h1
          have h2 : ¬ a < a := fun h2 => by have := UInt8.lt_iff_toNat_lt.1 h2; omega
          have := ih y
          simp only [h2, decide_false, beq_self_eq_true, Bool.true_and, Bool.false_or, List.cons_beq_cons]
          exact this
        · have h1 : b < a := UInt8.lt_iff_toNat_lt.2 h
          have h2 : ¬ a < b := fun h2 => by have := UInt8.lt_iff_toNat_lt.1 h2; omega
          have h3 : ¬ a = b := fun e => by rw [e] at h; omega
          simp [h1, h2, h3]
  exact key x y
theorem idxN_at {names : List (List Tag)} (h : (names.map text).Nodup) : ∀ (k : Nat) (x : List Tag), names[k]? = some x → idxN x 0 names = k := by
  have key : ∀ (ns : List (List Tag)) (i k : Nat) (x : List Tag), (ns.map text).Nodup → ns[k]? = some x → idxN x i ns = i + k := by
    intro ns
    induction ns with
    | nil => intro i k x _ h; simp at h
    | cons y ys ih =>
      intro i k x hn hx
      rw [List.map_cons, List.nodup_cons] at hn
      unfold idxN
      cases k with
      | zero =>
        simp at hx
        subst hx
        simp
      | succ k =>
        rw [List.getElem?_cons_succ] at hx
        have hne : ¬ (y == x) = true := fun e => hn.1 (by rw [eq_of_beq e]; exact List.mem_map_of_mem (List.mem_of_getElem? hx))
        rw [if_neg hne, ih (i + 1) k x hn.2 hx]
        omega
  intro k x hx
  have := key names 0 k x h hx
  omega
theorem namesNo {names : List (List Tag)} {k : Nat} {x : List Tag} (h : NmI names) (hx : names[k]? = some x) (h2 : nameOk x = false ∨ idxN x 0 names + 1 ≠ (k : Int) + 1) : False := by
  rcases h2 with h2 | h2
  · rw [h.ok x (List.mem_of_getElem? hx)] at h2; cases h2
  · rw [idxN_at h.nodup k x hx] at h2; omega
theorem pstEq_t {a b : Pst} (h : (a.tag == b.tag) = true) : (a.ids == b.ids) = (a == b) := by
  rw [Bool.eq_iff_iff, beq_iff_eq, beq_iff_eq, pst_eq]
  exact ⟨fun h1 => ⟨eq_of_beq h, h1⟩, fun h1 => h1.2⟩
theorem pstEq_f {a b : Pst} (h : (a.tag == b.tag) = false) : false = (a == b) := by
  symm
  rw [beq_eq_false_iff_ne]
  rintro rfl
  simp at h
end Go.Proofs.YtfnpaglcnmcnbaaGreat
