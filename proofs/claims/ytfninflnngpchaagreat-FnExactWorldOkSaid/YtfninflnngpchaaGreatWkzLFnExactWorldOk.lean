/- The law FnExactWorldOk holds: for every input the given Go function returns true, and its arguments read as they did. No conditions. The frame is that of the kit's proof-skeleton. -/
import Derived.Test.YtfninflnngpchaaGreatWkzW91
import Derived.Test.YtfninflnngpchaaGreatWkzTr
import Derived.Test.YtfninflnngpchaaGreatRows
import Derived.WalkKit
import Derived.ProofKit
import Derived.OpenShut
import Derived.ShutString
import Derived.ChangeOld
open Go.Proofs.Tryz
set_option linter.unusedVariables false
set_option linter.unusedSimpArgs false
namespace Go.Proofs.YtfninflnngpchaaGreat.fnExactWorldOk
open Go.ChangeShapes Go.WideShapes Go.ChangeAt Go.RowKit
set_option linter.unusedVariables false
theorem own : ownKnob Tryz.prog.godebug = none := by kernel_rfl
theorem laidOut : laidOutB Tryz.prog = true := by kernel_rfl
theorem arr_of {cs : Array Value} {l : List Value} (h : (Value.agg cs).cells.toList = l) : cs = l.toArray := by
 subst h
 simp [Value.cells]
set_option maxRecDepth 100000 in
theorem lifted (os : Os) (started : os.Started) (H : Type) (enc : TypeId × Value → H) :
 ReturnsInHanded {} Tryz.checked os 3 .any (Rows.fnExactWorldOkSpec.pre6 enc Tryz.prog Tryz.f3 Rows.fnExactWorldOkRow.domain false) (Rows.fnExactWorldOkSpec.post enc Tryz.prog Tryz.f3 false true false false) := by
 refine returnsInHanded_of_change (C := Tryz.checked) own started (by kernel_rfl) func3
  (ChangeSpec.witness6 (enc := enc) (C := Tryz.checked) false ⟨#[], #[.agg #[.slice none 0 0, .slice none 0 0, .slice none 0 0, .slice none 0 0, .slice none 0 0, .slice none 0 0, .slice none 0 0, .int .i64 0]], []⟩ 8 (by kernel_rfl) (by kernel_rfl) (by kernel_rfl) (by kernel_rfl)) ?_
 intro W base args ds gs before hval0 hW hcnd _
 have hval : ∀ (j : Nat) t v, Tryz.f3.params[j]? = some t → args[j]? = some v → Value.okWide Tryz.prog W .any base t v := hval0
 have hW' := hW
 obtain ⟨p, q, hA0, hV, rfl, hfz, hnd⟩ := hW
 have hA : DataW.TrodAll enc Tryz.prog W 0 (fun _ => true) true Tryz.f3.params.toList args.toList ds p := hA0
 rw [Tryz.params3] at hA hval
 obtain ⟨v0, vs0, d0, ds0, p0, q0, hargs, rfl, rfl, h0, s0⟩ := trodAll_cons hA
 obtain ⟨rfl, rfl, rfl⟩ := trodAll_nil s0
 obtain rfl : args = #[v0] := by cases args; simp_all
 obtain ⟨rfl, rfl⟩ := trodVars_none hV
 obtain ⟨cs0, rfl, _⟩ := okWide_struct Tryz.underlying35 (hval 0 35 v0 rfl rfl)
 have k0 := h0
 have lt0 : ∀ x ∈ p0, x.block < W.heap.size := by obtain ⟨m, hm⟩ := k0; exact DataW.trod_lt m _ _ _ hm
 obtain ⟨fu0, hf0⟩ := h0
 obtain ⟨x0, ⟨a00, n00, c00, a01, n01, c01, a02, n02, c02, a03, n03, c03, a04, n04, c04, a05, n05, c05, a06, n06, c06, e0, r00, r01, r02, r03, r04, r05, r06⟩, b0⟩ := Qf W hf0
 obtain rfl := arr_of e0
 clear hA0 hval0
 refine (EJ x0 r00 r01 r02 r03 r04 r05 r06 b0).mono fun e W' ⟨v, he, hv, hx⟩ => ?_
 subst he
 subst hv
 have bel := hx.below
 exact ⟨_, rfl, _, _, _, [], _, [], hW', trodAll_mk1 (shut_bool Tryz.underlying4 _), (trodAll_cons_mk (Below.trod laidOut (by kernel_rfl) (of_decide_eq_true (by kernel_rfl)) k0 bel lt0) trodAll_mk0), rfl, bel.frame _, fun h => by cases h⟩
theorem named_ : Tryz.pinned.checked.prog.funcNamed Rows.fnExactWorldOkRow.func = some 3 := by kernel_rfl
theorem j_inPlace : (Rows.fnExactWorldOkRow.inPlace == Tryz.pinned.checked.prog.inPlace 3) = true := by kernel_rfl
theorem j_unfollowed : (Rows.fnExactWorldOkRow.unfollowed == Tryz.pinned.checked.prog.unfollowed 3) = true := by kernel_rfl
theorem j_recurses : (Rows.fnExactWorldOkRow.recurses == Tryz.pinned.checked.prog.recurses 3) = true := by kernel_rfl
theorem j_named : (Rows.fnExactWorldOkRow.named == Tryz.pinned.checked.prog.varsNamed 3) = true := by kernel_rfl
theorem joined_ : joinedFacts Tryz.pinned.checked.prog 3 Tryz.f3 Rows.fnExactWorldOkSpec Rows.fnExactWorldOkRow = true := by
 unfold joinedFacts
 rw [j_inPlace, j_unfollowed, j_recurses, j_named]
 kernel_rfl
theorem over : Rows.fnExactWorldOkRow.holds Tryz.pinned (OpenSpec.ofChange Rows.fnExactWorldOkSpec) :=
 OpenClaim.holds_of_wide 3 Tryz.f3 rfl rfl rfl rfl rfl rfl rfl ⟨rfl, rfl, rfl, rfl, rfl⟩ rfl rfl rfl rfl rfl named_ func3 joined_
  (of_decide_eq_true (by kernel_rfl)) (by unfold Func.isWrapper; first | (rw [if_pos (by decide +kernel)]; kernel_rfl) | (rw [if_neg (by decide +kernel)]; exact ⟨rfl, rfl⟩))
  (fun os started H enc _ => lifted os started H enc)
theorem proved : Rows.FnExactWorldOkSaid :=
 over
end Go.Proofs.YtfninflnngpchaaGreat.fnExactWorldOk
