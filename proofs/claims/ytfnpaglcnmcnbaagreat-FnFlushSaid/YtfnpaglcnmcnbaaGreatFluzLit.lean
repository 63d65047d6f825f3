/- Rows written out, runes to texts, small integers. No conditions. -/
import Derived.Test.YtfnpaglcnmcnbaaGreatFluzOps
set_option linter.unusedVariables false
set_option linter.unusedSimpArgs false
namespace Go.Proofs.YtfnpaglcnmcnbaaGreat
section
variable {α : Type} [Rep α]
def RepL (w : World) (F : Nat → Prop) : List α → List Value → Prop
  | [], cs => cs = []
  | x :: xs, cs => Rep.rep w F x (cs.take (Rep.sz α)) ∧ RepL w F xs (cs.drop (Rep.sz α))
theorem RepL.len {w : World} {F : Nat → Prop} : ∀ {xs : List α} {cs : List Value}, RepL w F xs cs → cs.length = xs.length * Rep.sz α
  | [], cs, h => by simp only [RepL] at h; subst h; simp
  | x :: xs, cs, h => by
    have h1 := Rep.len h.1
    have h2 := RepL.len h.2
    have hp := Rep.pos (α := α)
    simp only [List.length_take, List.length_drop, List.length_cons, Nat.succ_mul] at *
    omega
theorem RepL.at {w : World} {F : Nat → Prop} : ∀ {xs : List α} {cs : List Value}, RepL w F xs cs → ∀ i x, xs[i]? = some x → Rep.rep w F x ((cs.drop (i * Rep.sz α)).take (Rep.sz α))
  | [], cs, _ => fun i x hx => by simp at hx
  | y :: ys, cs, h => fun i x hx => by
    cases i with
    | zero => simp at hx; subst hx; simpa using h.1
    | succ i =>
      simp only [List.getElem?_cons_succ] at hx
      have := RepL.at h.2 i x hx
      rw [List.drop_drop] at this
      rwa [Nat.succ_mul, Nat.add_comm]
theorem Own.lit {w : World} {r : Nat} {t : TypeId} {F : Nat → Prop} {n : Nat} {xs : List α} {cs : List Value} (h : Box w r t cs) (hn : n = xs.length) (hc : n ≤ maxLen) (hl : RepL w (fun b => F b ∧ b ≠ r) xs cs) : Own w r t F n n xs := by
  have hlen := hl.len
  refine ⟨hn, Nat.le_refl _, hc, ⟨cs.toArray, h, by simp [hlen, hn]⟩, fun i x hi => ⟨_, hl.at i x hi, ?_⟩⟩
  have hlt : i < xs.length := (List.getElem?_eq_some_iff.1 hi).1
  refine h.has _ _ ?_
  rw [List.length_take, List.length_drop, hlen]
  have : (i + 1) * Rep.sz α ≤ xs.length * Rep.sz α := Nat.mul_le_mul_right _ hlt
  rw [Nat.succ_mul] at this
  rw [Nat.min_eq_left (by omega)]
end
section
variable {P : Program} {n : Nat} {K : Env → World → Prop} {ops : Array Oper} {j : Nat} {e : Env} {w : World}
theorem RG.int32 (z : Int) (h : pvAt P n ops j e = some (.int .i32 (IntKind.i32.wrap z))) (hz : -2147483648 ≤ z ∧ z ≤ 2147483647)
    (H : RG P n K ops (j + 1) (putE e (opAt ops j).dst (.int .i32 z)) w) : RG P n K ops j e w :=
  RG.eqv h (by rw [IntWalk.i32_in z hz]) H
end
theorem rune1 (k : Nat) (h : k < 128) : Value.string (Utf8.encode (k : Int)) = .string (bs [UInt8.ofNat k]) := by
  refine congrArg Value.string ?_
  unfold Utf8.encode
  have hv : Utf8.valid (k : Int) = true := by
    unfold Utf8.valid
    simp
    omega
  simp only [hv, if_true]
  simp [h, bs]
end Go.Proofs.YtfnpaglcnmcnbaaGreat
