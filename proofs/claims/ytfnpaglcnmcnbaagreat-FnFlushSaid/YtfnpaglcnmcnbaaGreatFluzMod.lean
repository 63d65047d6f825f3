/- What the program computes, as plain functions. -/
import Derived.Test.YtfnpaglcnmcnbaaGreatFluzSq
import Derived.Test.YtfnpaglcnmcnbaaGreatProg
set_option linter.unusedVariables false
set_option linter.unusedSimpArgs false
namespace Go.Proofs.YtfnpaglcnmcnbaaGreat
theorem tup2 {a a' b b' : Value} (h : a = a') (h' : b = b') : Value.tuple #[a, b] = Value.tuple #[a', b'] := by rw [h, h']
theorem tup3 {a a' b b' c c' : Value} (h : a = a') (h' : b = b') (h2 : c = c') : Value.tuple #[a, b, c] = Value.tuple #[a', b', c'] := by rw [h, h', h2]
def inR (n lo hi : Int) : Bool := decide (lo ≤ n) && decide (n ≤ hi)
theorem inR_t {n lo hi : Int} (h : inR n lo hi = true) : lo ≤ n ∧ n ≤ hi := by simpa [inR] using h
theorem inR_f {n lo hi : Int} (h : inR n lo hi = false) : ¬ (lo ≤ n ∧ n ≤ hi) := by intro h1; simp [inR] at h; omega
def rowOk (r : Row) : Bool := inR r.t 0 99 && inR r.v (-99) 99
def blockF : Option Row → List Row → Bool
  | _, [] => true
  | o, r :: rs => rowOk r && (match o with | some q => decide (q.t < r.t) | none => true) && blockF (some r) rs
def blockOk (b : List Row) : Bool := blockF none b && decide (b.length ≤ 24)
def put1 (out : List Row) (r : Row) (done : Bool) : List Row → List Row
  | [] => if done then out else out ++ [r]
  | x :: xs =>
    if !done && decide (x.t ≥ r.t) then
      (if x.t != r.t then put1 (out ++ [r] ++ [x]) r true xs else put1 (out ++ [r]) r true xs)
    else (if x.t != r.t then put1 (out ++ [x]) r done xs else put1 out r done xs)
def sPut (b : List Row) (r : Row) : List Row := put1 [] r false b
def sMerge (a b : List Row) : List Row := b.foldl sPut a
def has (n : List Tag) (t : Tag) : Bool := n.any (fun x => x == t)
def idsF (t : Tag) : Nat → List (List Tag) → List Int
  | _, [] => []
  | i, n :: ns => (if has n t then [(i : Int) + 1] else []) ++ idsF t (i + 1) ns
def ids (names : List (List Tag)) (t : Tag) : List Int := idsF t 0 names
def makeF : Nat → List (List Row) → List Int × List (List Row)
  | _, [] => ([], [])
  | i, b :: bs => if b.length > 0 then (((i : Int) + 1) :: (makeF (i + 1) bs).1, b :: (makeF (i + 1) bs).2) else makeF (i + 1) bs
def pMake (blocks : List (List Row)) : Prt := ⟨(makeF 0 blocks).1, (makeF 0 blocks).2⟩
def one1 (lo hi : Int) (s : Str) : Bool := match s with | [x] => inR x.toNat lo hi | _ => false
def tagOk (t : Tag) : Bool := one1 97 100 t.key && one1 112 122 t.val
def nameF : Option Tag → List Tag → Bool
  | _, [] => true
  | o, t :: ts => tagOk t && (match o with | some q => strLt q.key t.key | none => true) && nameF (some t) ts
def nameOk (n : List Tag) : Bool := nameF none n && inR n.length 1 3
theorem len1 {s : Str} (h : (s.length : Int) = 1) : ∃ x, s = [x] := by
  match s, h with
  | [x], _ => exact ⟨x, rfl⟩
  | [], h => simp at h
  | x :: y :: r, h => simp only [List.length_cons] at h; omega
theorem one1_no {lo hi : Int} {s : Str} (h : (s.length : Int) ≠ 1) : one1 lo hi s = false := by
  match s, h with
  | [x], h => simp at h
  | [], _ => rfl
  | x :: y :: r, _ => rfl
theorem tagOk_k {t : Tag} (h : (t.key.length : Int) ≠ 1) : tagOk t = false := by simp [tagOk, one1_no h]
theorem tagOk_v {t : Tag} (h : (t.val.length : Int) ≠ 1) : tagOk t = false := by simp [tagOk, one1_no h]
theorem tagOk_kv {t : Tag} {x y : UInt8} (hk : t.key = [x]) (hv : t.val = [y]) : tagOk t = (inR x.toNat 97 100 && inR y.toNat 112 122) := by simp [tagOk, one1, hk, hv]
theorem strLt1 (x y : UInt8) : strLt [x] [y] = decide (x.toNat < y.toNat) := by
  unfold strLt Op.bytesLess Op.bytesLess
  by_cases h : x < y
  · simp [h, UInt8.lt_iff_toNat_lt.1 h]
  · have h2 : ¬ x.toNat < y.toNat := fun h2 => h (UInt8.lt_iff_toNat_lt.2 h2)
    simp [h, h2]
theorem strLe1 (x y : UInt8) : strLe [x] [y] = decide (x.toNat ≤ y.toNat) := by
  have h := strLt1 x y
  unfold strLt at h
  unfold strLe
  rw [h, Bool.eq_iff_iff]
  simp only [Bool.or_eq_true, decide_eq_true_eq, beq_iff_eq, List.cons.injEq, and_true]
  constructor
  · rintro (h | rfl) <;> omega
  · intro h1
    by_cases h2 : x.toNat < y.toNat
    · exact .inl h2
    · exact .inr (UInt8.toNat_inj.1 (by omega))
theorem tagOk_cmp {t : Tag} (hk : (t.key.length : Int) = 1) (hv : (t.val.length : Int) = 1) : tagOk t = (!(strLt t.key [97]) && strLe t.key [100] && !(strLt t.val [112]) && strLe t.val [122]) := by
  obtain ⟨x, hx⟩ := len1 hk
  obtain ⟨y, hy⟩ := len1 hv
  rw [tagOk_kv hx hy, hx, hy, strLt1, strLe1, strLt1, strLe1]
  unfold inR
  rw [Bool.eq_iff_iff]
  simp
  omega
theorem tagOk_lt {t : Tag} (hk : (t.key.length : Int) = 1) (h : strLt t.key [97] = true) : tagOk t = false := by
  by_cases hv : (t.val.length : Int) = 1
  · rw [tagOk_cmp hk hv, h]; simp
  · exact tagOk_v hv
theorem tagOk_le {t : Tag} (hk : (t.key.length : Int) = 1) (h : strLe t.key [100] = false) : tagOk t = false := by
  by_cases hv : (t.val.length : Int) = 1
  · rw [tagOk_cmp hk hv, h]; simp
  · exact tagOk_v hv
theorem at1 {s : Str} {y : UInt8} (h : (s.length : Int) = 1) (hy : s[0]? = some y) : s = [y] := by
  obtain ⟨x, rfl⟩ := len1 h
  simpa using hy
theorem one1_at {lo hi : Int} {s : Str} {y : UInt8} (h : (s.length : Int) = 1) (hy : s[0]? = some y) : one1 lo hi s = inR y.toNat lo hi := by
  rw [at1 h hy]; rfl
theorem tagOk_def (t : Tag) : tagOk t = (one1 97 100 t.key && one1 112 122 t.val) := rfl
theorem put1_len (r : Row) : ∀ (xs out : List Row) (d : Bool), (put1 out r d xs).length ≤ out.length + xs.length + 1 ∧ (d = true → (put1 out r d xs).length ≤ out.length + xs.length) := by
  intro xs
  induction xs with
  | nil => intro out d; cases d <;> simp [put1]
  | cons x xs ih =>
    intro out d
    have h1 := ih (out ++ [r] ++ [x]) true
    have h2 := ih (out ++ [r]) true
    have h3 := ih (out ++ [x]) d
    have h4 := ih out d
    simp only [List.length_append, List.length_cons, List.length_nil] at h1 h2 h3 h4
    unfold put1
    cases d <;> simp only [Bool.not_true, Bool.not_false, Bool.false_and, Bool.true_and, List.length_cons] <;> split <;> (try split) <;> constructor <;> (try intro hd) <;> (try cases hd) <;> first | omega | simp_all <;> omega
theorem sPut_len (b : List Row) (r : Row) : (sPut b r).length ≤ b.length + 1 := by
  have := (put1_len r b [] false).1
  simpa [sPut] using this
def partF (id : Int) : List Int → List (List Row) → List Row
  | i :: is, b :: bs => if i == id then b else partF id is bs
  | _, _ => []
def partOf (p : Prt) (id : Int) : List Row := partF id p.ids p.blocks
def prev {α : Type} (xs : List α) (k : Nat) : Option α := if k = 0 then none else xs[k - 1]?
@[grind =] theorem prev_succ {α : Type} (xs : List α) (k : Nat) : prev xs (k + 1) = xs[k]? := by simp [prev]
def partG : Option Int → List Int → List (List Row) → Bool
  | _, [], _ => true
  | o, i :: is, b :: bs => inR i 1 6 && (match o with | some q => decide (q < i) | none => true) && decide (0 < b.length) && blockOk b && partG (some i) is bs
  | _, _ :: _, [] => false
def partOk (p : Prt) : Bool := decide (p.ids.length = p.blocks.length) && partG none p.ids p.blocks
def partIn (p : Prt) (n : Int) : Bool := partOk p && (match p.ids.getLast? with | some i => decide (i ≤ n) | none => false)
def idxF (v : Int) : Nat → List Int → Int
  | _, [] => -1
  | i, x :: xs => if x == v then (i : Int) else idxF v (i + 1) xs
def maxF : Int → List Int → Int
  | m, [] => m
  | m, x :: xs => maxF (if x > m then x else m) xs
def maxOf : List Int → Int
  | [] => 0
  | x :: xs => maxF x xs
def text1 (t : Tag) : Str := t.key ++ [61] ++ t.val
def textF : Nat → List Tag → Str
  | _, [] => []
  | i, t :: ts => (if i > 0 then [44] else []) ++ text1 t ++ textF (i + 1) ts
def text (n : List Tag) : Str := textF 0 n
def tagLt (a b : Tag) : Bool := strLt a.key b.key || a.key == b.key && strLt a.val b.val
def rowsP (id : Int) (o : List Row) (p : Prt) : List Row := sMerge o (partOf p id)
def rowsM (id : Int) (o : List Row) (m : Smp) : List Row := if m.id == id then sPut o m.row else o
def rowsOf (s : Sto) (id : Int) : List Row := s.mem.foldl (rowsM id) (s.parts.foldl (rowsP id) [])
def pMergeL (a b : Prt) (n : Nat) : List (List Row) := (List.range n).map (fun (i : Nat) => sMerge (partOf a ((i : Int) + 1)) (partOf b ((i : Int) + 1)))
def pMerge (a b : Prt) : Prt := pMake (pMergeL a b 6)
theorem pMergeL_succ (a b : Prt) (n : Nat) : pMergeL a b (n + 1) = pMergeL a b n ++ [sMerge (partOf a ((n : Int) + 1)) (partOf b ((n : Int) + 1))] := by simp [pMergeL, List.range_succ]
theorem pMergeL_len (a b : Prt) (n : Nat) : (pMergeL a b n).length = n := by simp [pMergeL]
def NmSz (n : List Tag) : Prop := n.length ≤ 1000 ∧ ∀ t ∈ n, t.key.length ≤ 1000 ∧ t.val.length ≤ 1000
def PrtSz (p : Prt) : Prop := p.ids.length = p.blocks.length ∧ p.blocks.length ≤ 1000 ∧ ∀ b ∈ p.blocks, b.length ≤ 1000
theorem sMerge_len (a b : List Row) : (sMerge a b).length ≤ a.length + b.length := by
  unfold sMerge
  induction b generalizing a with
  | nil => simp
  | cons x xs ih =>
    simp only [List.foldl_cons, List.length_cons]
    have h1 := ih (sPut a x)
    have h2 := sPut_len a x
    omega
theorem partF_mem (id : Int) : ∀ (is : List Int) (bs : List (List Row)), partF id is bs = [] ∨ partF id is bs ∈ bs := by
  intro is
  induction is with
  | nil => intro bs; left; unfold partF; rfl
  | cons i is ih =>
    intro bs
    cases bs with
    | nil => left; unfold partF; rfl
    | cons b bs =>
      unfold partF
      split
      · right; simp
      · rcases ih bs with h | h
        · left; exact h
        · right; exact List.mem_cons_of_mem _ h
theorem partOf_len {p : Prt} (h : PrtSz p) (id : Int) : (partOf p id).length ≤ 1000 := by
  rcases partF_mem id p.ids p.blocks with h1 | h1
  · unfold partOf; rw [h1]; simp
  · exact h.2.2 _ h1
theorem pMergeL_mem {a b : Prt} (ha : PrtSz a) (hb : PrtSz b) (n : Nat) : ∀ x ∈ pMergeL a b n, x.length ≤ 2000 := by
  intro x hx
  simp only [pMergeL, List.mem_map] at hx
  obtain ⟨i, _, rfl⟩ := hx
  have h1 := sMerge_len (partOf a ((i : Int) + 1)) (partOf b ((i : Int) + 1))
  have h2 := partOf_len ha ((i : Int) + 1)
  have h3 := partOf_len hb ((i : Int) + 1)
  omega
def numF (num : Int) : Nat → List Fil → Int
  | _, [] => -1
  | i, f :: fs => if f.num == num then (i : Int) else numF num (i + 1) fs
def numAt (d : Dsk) (num : Int) : Int := numF num 0 d.files
def nmF (t : Str) : Nat → List (List Tag) → Int
  | _, [] => 0
  | i, x :: xs => if text x == t then (i : Int) + 1 else nmF t (i + 1) xs
def nmAt (ix : Idx) (n : List Tag) : Int := nmF (text n) 0 ix.names
theorem pst_eq (a b : Pst) : a = b ↔ a.tag = b.tag ∧ a.ids = b.ids := by cases a; cases b; simp
end Go.Proofs.YtfnpaglcnmcnbaaGreat
