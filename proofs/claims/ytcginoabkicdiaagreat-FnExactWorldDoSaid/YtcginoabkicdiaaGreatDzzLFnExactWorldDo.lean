/- The law FnExactWorldDo holds: for every input the given Go function returns true, and its arguments read as they did. No conditions. The frame is that of the kit's proof-skeleton. -/
import Derived.Test.YtcginoabkicdiaaGreatDzzLw
import Derived.Test.YtcginoabkicdiaaGreatDzzTr
import Derived.Test.YtcginoabkicdiaaGreatRows
import Derived.WalkKit
import Derived.ProofKit
import Derived.OpenShut
import Derived.ShutString
import Derived.ChangeOld
open Go.Proofs.Tryz
set_option linter.unusedVariables false
set_option linter.unusedSimpArgs false
namespace Go.Proofs.YtcginoabkicdiaaGreat.fnExactWorldDo
open Go.ChangeShapes Go.WideShapes Go.ChangeAt Go.RowKit
set_option linter.unusedVariables false
theorem own : ownKnob Tryz.prog.godebug = none := by kernel_rfl
theorem laidOut : laidOutB Tryz.prog = true := by kernel_rfl
theorem arr_of {cs : Array Value} {l : List Value} (h : (Value.agg cs).cells.toList = l) : cs = l.toArray := by
 subst h
 simp [Value.cells]
set_option maxRecDepth 100000 in
theorem lifted (os : Os) (started : os.Started) (H : Type) (enc : TypeId × Value → H) :
 ReturnsInHanded {} Tryz.checked os 4 .any (Rows.fnExactWorldDoSpec.pre6 enc Tryz.prog Tryz.f4 Rows.fnExactWorldDoRow.domain false) (Rows.fnExactWorldDoSpec.post enc Tryz.prog Tryz.f4 false true false false) := by
 refine returnsInHanded_of_change (C := Tryz.checked) own started (by kernel_rfl) func4
  (ChangeSpec.witness6 (enc := enc) (C := Tryz.checked) false ⟨#[], #[.agg #[.slice none 0 0, .slice none 0 0, .slice none 0 0, .slice none 0 0, .slice none 0 0, .slice none 0 0, .slice none 0 0, .int .i64 0], .agg #[.int .i64 0, .int .i64 0, .int .i64 0, .slice none 0 0, .int .i64 0, .int .i64 0]], []⟩ 8 (by kernel_rfl) (by kernel_rfl) (by kernel_rfl) (by kernel_rfl)) ?_
 intro W base args ds gs before hval0 hW hcnd _
 have hval : ∀ (j : Nat) t v, Tryz.f4.params[j]? = some t → args[j]? = some v → Value.okWide Tryz.prog W .any base t v := hval0
 have hW' := hW
 obtain ⟨p, q, hA0, hV, rfl, hfz, hnd⟩ := hW
 have hA : DataW.TrodAll enc Tryz.prog W 0 (fun _ => true) true Tryz.f4.params.toList args.toList ds p := hA0
 rw [Tryz.params4] at hA hval
 obtain ⟨v0, vs0, d0, ds0, p0, q0, hargs, rfl, rfl, h0, s0⟩ := trodAll_cons hA
 obtain ⟨v1, vs1, d1, ds1, p1, q1, rfl, rfl, rfl, h1, s1⟩ := trodAll_cons s0
 obtain ⟨rfl, rfl, rfl⟩ := trodAll_nil s1
 obtain rfl : args = #[v0, v1] := by cases args; simp_all
 obtain ⟨rfl, rfl⟩ := trodVars_none hV
 obtain ⟨cs0, rfl, _⟩ := okWide_struct Tryz.underlying59 (hval 0 59 v0 rfl rfl)
 have k0 := h0
 have lt0 : ∀ x ∈ p0, x.block < W.heap.size := by obtain ⟨m, hm⟩ := k0; exact DataW.trod_lt m _ _ _ hm
 obtain ⟨fu0, hf0⟩ := h0
 obtain ⟨x0, ⟨a00, n00, c00, a01, n01, c01, a02, n02, c02, a03, n03, c03, a04, n04, c04, a05, n05, c05, a06, n06, c06, e0, r00, r01, r02, r03, r04, r05, r06⟩, b0⟩ := Y7 W hf0
 obtain rfl := arr_of e0
 obtain ⟨cs1, rfl, _⟩ := okWide_struct Tryz.underlying64 (hval 1 64 v1 rfl rfl)
 have k1 := h1
 have lt1 : ∀ x ∈ p1, x.block < W.heap.size := by obtain ⟨m, hm⟩ := k1; exact DataW.trod_lt m _ _ _ hm
 obtain ⟨fu1, hf1⟩ := h1
 obtain ⟨x1, ⟨a10, n10, c10, e1, r10⟩, b1⟩ := Y0 W hf1
 obtain rfl := arr_of e1
 clear hA0 hval0
 refine (G1 x0 x1 r00 r01 r02 r03 r04 r05 r06 r10 b0 b1).mono fun e W' ⟨v, he, hv, hx⟩ => ?_
 subst he
 subst hv
 have bel := hx.below
 exact ⟨_, rfl, _, _, _, [], _, [], hW', trodAll_mk1 (shut_bool Tryz.underlying4 _), (trodAll_cons_mk (Below.trod laidOut (by kernel_rfl) (of_decide_eq_true (by kernel_rfl)) k0 bel lt0) (trodAll_cons_mk (Below.trod laidOut (by kernel_rfl) (of_decide_eq_true (by kernel_rfl)) k1 bel lt1) trodAll_mk0)), rfl, bel.frame _, fun h => by cases h⟩
theorem named_ : Tryz.pinned.checked.prog.funcNamed Rows.fnExactWorldDoRow.func = some 4 := by kernel_rfl
theorem j_inPlace : (Rows.fnExactWorldDoRow.inPlace == Tryz.pinned.checked.prog.inPlace 4) = true := by kernel_rfl
theorem j_unfollowed : (Rows.fnExactWorldDoRow.unfollowed == Tryz.pinned.checked.prog.unfollowed 4) = true := by kernel_rfl
theorem j_recurses : (Rows.fnExactWorldDoRow.recurses == Tryz.pinned.checked.prog.recurses 4) = true := by kernel_rfl
theorem j_named : (Rows.fnExactWorldDoRow.named == Tryz.pinned.checked.prog.varsNamed 4) = true := by kernel_rfl
theorem joined_ : joinedFacts Tryz.pinned.checked.prog 4 Tryz.f4 Rows.fnExactWorldDoSpec Rows.fnExactWorldDoRow = true := by
 unfold joinedFacts
 rw [j_inPlace, j_unfollowed, j_recurses, j_named]
 kernel_rfl
theorem over : Rows.fnExactWorldDoRow.holds Tryz.pinned (OpenSpec.ofChange Rows.fnExactWorldDoSpec) :=
 OpenClaim.holds_of_wide 4 Tryz.f4 rfl rfl rfl rfl rfl rfl rfl ⟨rfl, rfl, rfl, rfl, rfl⟩ rfl rfl rfl rfl rfl named_ func4 joined_
  (of_decide_eq_true (by kernel_rfl)) (by unfold Func.isWrapper; first | (rw [if_pos (by decide +kernel)]; kernel_rfl) | (rw [if_neg (by decide +kernel)]; exact ⟨rfl, rfl⟩))
  (fun os started H enc _ => lifted os started H enc)
theorem proved : Rows.FnExactWorldDoSaid :=
 over
end Go.Proofs.YtcginoabkicdiaaGreat.fnExactWorldDo
