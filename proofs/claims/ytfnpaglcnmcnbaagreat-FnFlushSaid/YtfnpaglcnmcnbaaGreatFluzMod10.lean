/- Readers, drawing of several operations at once, xor. No conditions. -/
import Derived.Test.YtfnpaglcnmcnbaaGreatFluzW9
import Derived.IntWalk
set_option linter.unusedVariables false
set_option linter.unusedSimpArgs false
namespace Go.Proofs.YtfnpaglcnmcnbaaGreat
theorem xor_nat {a b : Int} (ha : 0 ≤ a ∧ a < 4611686018427387904) (hb : 0 ≤ b ∧ b < 4611686018427387904) :
    IntKind.i64.wrap ((BitVec.ofInt 64 a ^^^ BitVec.ofInt 64 b).toNat : Int) = ((a.toNat ^^^ b.toNat : Nat) : Int) ∧ a.toNat ^^^ b.toNat < 4611686018427387904 := by
  have h1 : (BitVec.ofInt 64 a).toNat = a.toNat := by rw [BitVec.toNat_ofInt]; omega
  have h2 : (BitVec.ofInt 64 b).toNat = b.toNat := by rw [BitVec.toNat_ofInt]; omega
  have h3 : a.toNat ^^^ b.toNat < 2 ^ 62 := Nat.xor_lt_two_pow (by omega) (by omega)
  rw [BitVec.toNat_xor, h1, h2]
  exact ⟨IntWalk.i64_in _ (by omega), by omega⟩
theorem run_xor {P : Program} {t : TypeId} {x y : Operand} {a b : Int} (ha : 0 ≤ a ∧ a < 4611686018427387904) (hb : 0 ≤ b ∧ b < 4611686018427387904) (w : World) :
    (do eqGuard .xor t x y (.int .i64 a) (.int .i64 b); binOp .xor t (.int .i64 a) (.int .i64 b)).run P w = .ok (.int .i64 ((a.toNat ^^^ b.toNat : Nat) : Int)) w := by
  have h1 : (eqGuard .xor t x y (.int .i64 a) (.int .i64 b)).run P w = .ok () w := rfl
  rw [run_bind_ok h1, ← (xor_nat ha hb).1]
  rfl
section
variable {P : Program} {n : Nat} {K : Env → World → Prop} {ops : Array Oper} {j : Nat} {e : Env} {w : World}
theorem RG.xor {t : TypeId} {a b : Int} (h : binAt n ops j e = some (.xor, t, .int .i64 a, .int .i64 b)) (ha : 0 ≤ a ∧ a < 4611686018427387904) (hb : 0 ≤ b ∧ b < 4611686018427387904)
    (H : RG P n K ops (j + 1) (putE e (opAt ops j).dst (.int .i64 ((a.toNat ^^^ b.toNat : Nat) : Int))) w) : RG P n K ops j e w :=
  have h1 := run_bin (P := P) (w := w) h (fun _ _ => run_xor ha hb w)
  RG.val h1.1 h1.2 H
end
theorem GA.quo {P : Program} {S : Nat → Prop} {n m : Nat} {L : Env → World → Prop} {ops : Array Oper} {l : List Nat} {e : Env} {w : World} {i : Nat} {t : TypeId} {a b : Int} (hb : gB n m ops l i = true) (h : binAt n ops i e = some (.quo, t, .int .i64 a, .int .i64 b)) (hb0 : b ≠ 0) (hr : -9223372036854775808 ≤ a.tdiv b ∧ a.tdiv b ≤ 9223372036854775807)
    (H : GA P S n m L ops (i :: l) (putE e (opAt ops i).dst (.int .i64 (a.tdiv b))) w) : GA P S n m L ops l e w :=
  GA.det' hb (fun w => run_bin h (fun _ _ => run_quo hb0 hr w)) H
section
variable {α : Type} [Rep α] {w : World} {G F : Nat → Prop} {M : List Nat} {o : Option Addr} {n c r b s : Nat} {t : TypeId} {xs : List α}
theorem RepS.toAll (h : RepS w (nin G M) o n c xs) (hb : b ∈ M) : RepS w (nin all [b]) o n c xs := h.weak fun k _ hk => ⟨trivial, fun e => hk.2 (by simp at e; exact e ▸ hb)⟩
theorem Own.toAll (h : Own w r t (nin G M) n c xs) (hb : b ∈ M) (hr : Nb r b) : RepS w (nin all [b]) (some ⟨r, 0, none⟩) n c xs :=
  h.rep' (fun k _ hk => ⟨trivial, fun e => hk.2 (by simp at e; exact e ▸ hb)⟩) ⟨trivial, fun e => hr.ne (by simpa using e)⟩
theorem RepS.toRd (h : RepS w (nin G M) o n c xs) (hb : b ∈ M) : RepS w (nin G [b]) o n c xs := h.weak fun k _ hk => ⟨hk.1, fun e => hk.2 (by simp at e; exact e ▸ hb)⟩
theorem RepS.topR (h : RepS w (nin F [b]) o n c xs) : RepS w (nin (fo F s) [b]) o n c xs := h.weak fun _ _ hF => ⟨.inl hF.1, hF.2⟩
end
theorem Cov.mk1 (w : World) (b : Nat) : Cov (Go.Proofs.YtfnpaglcnmcnbaaGreat.one b) w b := ⟨.inl rfl⟩
instance {w : World} {b : Nat} : Cov (Go.Proofs.YtfnpaglcnmcnbaaGreat.one b) w b := ⟨.inl rfl⟩
theorem RepS.mixedR {α : Type} [Rep α] {w : World} {F : Nat → Prop} {M : List Nat} {b s s' n c : Nat} {o : Option Addr} {xs : List α} (h : RepS w (nin (fo (nin (fo F s') M) s) [b]) o n c xs) (hM : ∀ k ∈ M, k < s) (hs : s' ≤ s) : RepS w (nin (fo F s') (b :: M)) o n c xs :=
  h.weak fun k _ hF => by
    have hb : k ≠ b := fun e => hF.2 (by simp [e])
    rcases hF.1 with h1 | h1
    · exact ⟨h1.1, by simp [hb]; exact h1.2⟩
    · exact ⟨.inr (by omega), by
        intro hm
        rcases List.mem_cons.1 hm with hm | hm
        · exact hb hm
        · have := hM k hm; omega⟩
theorem tm_idx {a : Int} {n : Nat} (ha : 0 ≤ a) (hn : (n : Int) ≠ 0) : (Int.tmod a n).toNat < n := by
  have h1 := Int.tmod_nonneg (n : Int) ha
  have h2 := Int.tmod_lt_of_pos a (show (0 : Int) < n by omega)
  omega
theorem tm_nat {a : Int} {n : Nat} (ha : 0 ≤ a) : Int.tmod a n = ((Int.tmod a n).toNat : Int) := by
  have h1 := Int.tmod_nonneg (n : Int) ha
  omega
theorem tm_lt {a n : Int} (ha : 0 ≤ a) (hn : ¬ n < 1) : 0 ≤ Int.tmod a n ∧ (Int.tmod a n < n ∨ Int.tmod a n = 0) := by
  have h1 := Int.tmod_nonneg n ha
  have h2 := Int.tmod_lt_of_pos a (show (0 : Int) < n by omega)
  omega
theorem td_le {a n : Int} (ha : 0 ≤ a) (hn : 0 ≤ n) : 0 ≤ Int.tdiv a n ∧ Int.tdiv a n ≤ a := by
  refine ⟨Int.tdiv_nonneg ha hn, ?_⟩
  rw [Int.tdiv_eq_ediv_of_nonneg ha]
  exact Int.ediv_le_self n ha
section
variable {α : Type} [Rep α] {w : World} {G : Nat → Prop} {M rs : List Nat} {o : Option Addr} {n c r s : Nat} {t : TypeId} {xs : List α}
theorem nin_mixedG {k : Nat} (h : nin (fo (nin G M) s) rs k) (hM : ∀ b ∈ M, b < s) (hG : ∀ b, s ≤ b → G b) : nin G (rs ++ M) k := by
  refine ⟨?_, fun hm => ?_⟩
  · rcases h.1 with h1 | h1
    · exact h1.1
    · exact hG _ h1
  · rcases List.mem_append.1 hm with hm | hm
    · exact h.2 hm
    · rcases h.1 with h1 | h1
      · exact h1.2 hm
      · have h2 := hM k hm
        omega
theorem RepS.mixedG (h : RepS w (fo (nin G M) s) o n c xs) (hM : ∀ b ∈ M, b < s) (hG : ∀ b, s ≤ b → G b) : RepS w (nin G M) o n c xs := h.weak fun k _ hk => nin_mixedG (rs := []) ⟨hk, by simp⟩ hM hG
end
def TagD (t : Tag) : Prop := t.key ∈ [[97], [98], [99]] ∧ t.val ∈ [[112], [113], [122], [], [111], [112, 112]]
def NmD (n : List Tag) : Prop := n.length ≤ 5 ∧ ∀ t ∈ n, TagD t
def RowSm (r : Row) : Prop := -1 ≤ r.t ∧ r.t ≤ 100 ∧ -100 ≤ r.v ∧ r.v ≤ 100
end Go.Proofs.YtfnpaglcnmcnbaaGreat
