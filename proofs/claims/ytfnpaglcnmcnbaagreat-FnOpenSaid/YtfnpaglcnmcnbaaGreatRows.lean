/-
  No cell of these rows narrows 'for every input' (looked for: loops, veiled, ifaces, maps, wideKeys, modest, calm, conditions, laid).
  DERIVED. THE GIVEN ROWS OF THIS SEAT. 12 by the template 'for every input the law returns true; each argument reads behind the call as it read before'; 0 by the template 'total and deterministic' (their statements: YtfnpaglcnmcnbaaGreatTotals.lean).
  GIVEN WITH THE SEED: the statements are not yours to turn. If you find one false, say at which input.
  Laid BY PROGRAM, IN A SANDBOX (cutbox-rows.mjs): the forced cells as the released guide's own fill.sh prints them over the translation d2dde9f714db072a… (all of the seat's roots in one cut). By AI agents, Wed Nov 11 2026. No macro, syntax, notation, axiom, sorry.
-/
import Derived.Test.YtfnpaglcnmcnbaaGreatChecked
import GoSem.Claim
import GoSem.ClaimJoined
import GoSem.ClaimMapViews
import Derived.JoinedTies
import Derived.KernelRfl
namespace Go.Proofs.YtfnpaglcnmcnbaaGreat
/- THE CELL 'sum', in the pinned program and in every row, IS THE sha256 OF THE DUMP (.gsa) THAT YtfnpaglcnmcnbaaGreatProg.lean LOADS. Nothing in Lean hashes anything: it is a label: what it is worth is what the hold of that sum in a sandbox is worth. -/
noncomputable def Tryz.pinned : Pinned := { name := "ytfnpaglcnmcnbaagreat", sum := "d2dde9f714db072a5fd0c92ca20fe888595cb643e2d8ee6438865886c359ce63", checked := Tryz.checked }
namespace Rows
def none {H : Type} : Left H := { results := [], args := [] }

/-- 'laws.FnAddNot': WHATEVER THE INPUT: true; the input reads as it did. -/
def fnAddNotSpec : ChangeSpec := { name := "fnAddNot", fn := fun _ => fun
  | [d] => { results := [.lit (.bool true)], args := [d] }
  | _ => none }
def fnAddNotRow : OpenClaim := { program := "ytfnpaglcnmcnbaagreat", sum := "d2dde9f714db072a5fd0c92ca20fe888595cb643e2d8ee6438865886c359ce63", func := "loop.example/chronicler/laws.FnAddNot", spec := "fnAddNot", inPlace := ["slices.overlaps[loop.example/chronicler/impl.Row]"], unfollowed := true, recurses := true, apart := false }
def FnAddNotSaid : Prop := fnAddNotRow.holds Tryz.pinned (OpenSpec.ofChange fnAddNotSpec)

/-- ITS FALSE NEIGHBOUR: 'it returns false'. Refute it at one input. -/
def fnAddNotWrong : ChangeSpec := { name := "fnAddNot", fn := fun _ => fun
  | [d] => { results := [.lit (.bool false)], args := [d] }
  | _ => none }
def FnAddNotWrongFalsely : Prop := fnAddNotRow.holds Tryz.pinned (OpenSpec.ofChange fnAddNotWrong)

/-- 'laws.FnAddRows': WHATEVER THE INPUT: true; the input reads as it did. -/
def fnAddRowsSpec : ChangeSpec := { name := "fnAddRows", fn := fun _ => fun
  | [d] => { results := [.lit (.bool true)], args := [d] }
  | _ => none }
def fnAddRowsRow : OpenClaim := { program := "ytfnpaglcnmcnbaagreat", sum := "d2dde9f714db072a5fd0c92ca20fe888595cb643e2d8ee6438865886c359ce63", func := "loop.example/chronicler/laws.FnAddRows", spec := "fnAddRows", inPlace := ["slices.overlaps[loop.example/chronicler/impl.Row]"], unfollowed := true, recurses := true, apart := false }
def FnAddRowsSaid : Prop := fnAddRowsRow.holds Tryz.pinned (OpenSpec.ofChange fnAddRowsSpec)

/-- ITS FALSE NEIGHBOUR: 'it returns false'. Refute it at one input. -/
def fnAddRowsWrong : ChangeSpec := { name := "fnAddRows", fn := fun _ => fun
  | [d] => { results := [.lit (.bool false)], args := [d] }
  | _ => none }
def FnAddRowsWrongFalsely : Prop := fnAddRowsRow.holds Tryz.pinned (OpenSpec.ofChange fnAddRowsWrong)

/-- 'laws.FnFlushAdd': WHATEVER THE INPUT: true; the input reads as it did. -/
def fnFlushAddSpec : ChangeSpec := { name := "fnFlushAdd", fn := fun _ => fun
  | [d] => { results := [.lit (.bool true)], args := [d] }
  | _ => none }
def fnFlushAddRow : OpenClaim := { program := "ytfnpaglcnmcnbaagreat", sum := "d2dde9f714db072a5fd0c92ca20fe888595cb643e2d8ee6438865886c359ce63", func := "loop.example/chronicler/laws.FnFlushAdd", spec := "fnFlushAdd", inPlace := ["slices.overlaps[loop.example/chronicler/impl.Row]"], unfollowed := true, recurses := true, apart := false }
def FnFlushAddSaid : Prop := fnFlushAddRow.holds Tryz.pinned (OpenSpec.ofChange fnFlushAddSpec)

/-- ITS FALSE NEIGHBOUR: 'it returns false'. Refute it at one input. -/
def fnFlushAddWrong : ChangeSpec := { name := "fnFlushAdd", fn := fun _ => fun
  | [d] => { results := [.lit (.bool false)], args := [d] }
  | _ => none }
def FnFlushAddWrongFalsely : Prop := fnFlushAddRow.holds Tryz.pinned (OpenSpec.ofChange fnFlushAddWrong)

/-- 'laws.FnAskCut': WHATEVER THE INPUT: true; the input reads as it did. -/
def fnAskCutSpec : ChangeSpec := { name := "fnAskCut", fn := fun _ => fun
  | [d1, d2] => { results := [.lit (.bool true)], args := [d1, d2] }
  | _ => none }
def fnAskCutRow : OpenClaim := { program := "ytfnpaglcnmcnbaagreat", sum := "d2dde9f714db072a5fd0c92ca20fe888595cb643e2d8ee6438865886c359ce63", func := "loop.example/chronicler/laws.FnAskCut", spec := "fnAskCut", inPlace := ["slices.overlaps[loop.example/chronicler/impl.Row]", "internal/abi.NoEscape", "internal/bytealg.MakeNoZero"], unfollowed := true, recurses := true, apart := false }
def FnAskCutSaid : Prop := fnAskCutRow.holds Tryz.pinned (OpenSpec.ofChange fnAskCutSpec)

/-- ITS FALSE NEIGHBOUR: 'it returns false'. Refute it at one input. -/
def fnAskCutWrong : ChangeSpec := { name := "fnAskCut", fn := fun _ => fun
  | [d1, d2] => { results := [.lit (.bool false)], args := [d1, d2] }
  | _ => none }
def FnAskCutWrongFalsely : Prop := fnAskCutRow.holds Tryz.pinned (OpenSpec.ofChange fnAskCutWrong)

/-- 'laws.FnAskFilter': WHATEVER THE INPUT: true; the input reads as it did. -/
def fnAskFilterSpec : ChangeSpec := { name := "fnAskFilter", fn := fun _ => fun
  | [d] => { results := [.lit (.bool true)], args := [d] }
  | _ => none }
def fnAskFilterRow : OpenClaim := { program := "ytfnpaglcnmcnbaagreat", sum := "d2dde9f714db072a5fd0c92ca20fe888595cb643e2d8ee6438865886c359ce63", func := "loop.example/chronicler/laws.FnAskFilter", spec := "fnAskFilter", inPlace := ["slices.overlaps[loop.example/chronicler/impl.Row]", "internal/abi.NoEscape", "internal/bytealg.MakeNoZero"], unfollowed := true, recurses := true, apart := false }
def FnAskFilterSaid : Prop := fnAskFilterRow.holds Tryz.pinned (OpenSpec.ofChange fnAskFilterSpec)

/-- ITS FALSE NEIGHBOUR: 'it returns false'. Refute it at one input. -/
def fnAskFilterWrong : ChangeSpec := { name := "fnAskFilter", fn := fun _ => fun
  | [d] => { results := [.lit (.bool false)], args := [d] }
  | _ => none }
def FnAskFilterWrongFalsely : Prop := fnAskFilterRow.holds Tryz.pinned (OpenSpec.ofChange fnAskFilterWrong)

/-- 'laws.FnAsk': WHATEVER THE INPUT: true; the input reads as it did. -/
def fnAskSpec : ChangeSpec := { name := "fnAsk", fn := fun _ => fun
  | [d] => { results := [.lit (.bool true)], args := [d] }
  | _ => none }
def fnAskRow : OpenClaim := { program := "ytfnpaglcnmcnbaagreat", sum := "d2dde9f714db072a5fd0c92ca20fe888595cb643e2d8ee6438865886c359ce63", func := "loop.example/chronicler/laws.FnAsk", spec := "fnAsk", inPlace := ["slices.overlaps[loop.example/chronicler/impl.Row]", "internal/abi.NoEscape", "internal/bytealg.MakeNoZero"], unfollowed := true, recurses := true, apart := false }
def FnAskSaid : Prop := fnAskRow.holds Tryz.pinned (OpenSpec.ofChange fnAskSpec)

/-- ITS FALSE NEIGHBOUR: 'it returns false'. Refute it at one input. -/
def fnAskWrong : ChangeSpec := { name := "fnAsk", fn := fun _ => fun
  | [d] => { results := [.lit (.bool false)], args := [d] }
  | _ => none }
def FnAskWrongFalsely : Prop := fnAskRow.holds Tryz.pinned (OpenSpec.ofChange fnAskWrong)

/-- 'laws.FnFlush': WHATEVER THE INPUT: true; the input reads as it did. -/
def fnFlushSpec : ChangeSpec := { name := "fnFlush", fn := fun _ => fun
  | [d] => { results := [.lit (.bool true)], args := [d] }
  | _ => none }
def fnFlushRow : OpenClaim := { program := "ytfnpaglcnmcnbaagreat", sum := "d2dde9f714db072a5fd0c92ca20fe888595cb643e2d8ee6438865886c359ce63", func := "loop.example/chronicler/laws.FnFlush", spec := "fnFlush", inPlace := ["slices.overlaps[loop.example/chronicler/impl.Row]", "internal/abi.NoEscape", "internal/bytealg.MakeNoZero"], unfollowed := true, recurses := true, apart := false }
def FnFlushSaid : Prop := fnFlushRow.holds Tryz.pinned (OpenSpec.ofChange fnFlushSpec)

/-- ITS FALSE NEIGHBOUR: 'it returns false'. Refute it at one input. -/
def fnFlushWrong : ChangeSpec := { name := "fnFlush", fn := fun _ => fun
  | [d] => { results := [.lit (.bool false)], args := [d] }
  | _ => none }
def FnFlushWrongFalsely : Prop := fnFlushRow.holds Tryz.pinned (OpenSpec.ofChange fnFlushWrong)

/-- 'laws.FnMergeAll': WHATEVER THE INPUT: true; the input reads as it did. -/
def fnMergeAllSpec : ChangeSpec := { name := "fnMergeAll", fn := fun _ => fun
  | [d1, d2] => { results := [.lit (.bool true)], args := [d1, d2] }
  | _ => none }
def fnMergeAllRow : OpenClaim := { program := "ytfnpaglcnmcnbaagreat", sum := "d2dde9f714db072a5fd0c92ca20fe888595cb643e2d8ee6438865886c359ce63", func := "loop.example/chronicler/laws.FnMergeAll", spec := "fnMergeAll", inPlace := ["slices.overlaps[loop.example/chronicler/impl.Row]", "internal/abi.NoEscape", "internal/bytealg.MakeNoZero"], unfollowed := true, recurses := true, apart := false }
def FnMergeAllSaid : Prop := fnMergeAllRow.holds Tryz.pinned (OpenSpec.ofChange fnMergeAllSpec)

/-- ITS FALSE NEIGHBOUR: 'it returns false'. Refute it at one input. -/
def fnMergeAllWrong : ChangeSpec := { name := "fnMergeAll", fn := fun _ => fun
  | [d1, d2] => { results := [.lit (.bool false)], args := [d1, d2] }
  | _ => none }
def FnMergeAllWrongFalsely : Prop := fnMergeAllRow.holds Tryz.pinned (OpenSpec.ofChange fnMergeAllWrong)

/-- 'laws.FnMergeSays': WHATEVER THE INPUT: true; the input reads as it did. -/
def fnMergeSaysSpec : ChangeSpec := { name := "fnMergeSays", fn := fun _ => fun
  | [d] => { results := [.lit (.bool true)], args := [d] }
  | _ => none }
def fnMergeSaysRow : OpenClaim := { program := "ytfnpaglcnmcnbaagreat", sum := "d2dde9f714db072a5fd0c92ca20fe888595cb643e2d8ee6438865886c359ce63", func := "loop.example/chronicler/laws.FnMergeSays", spec := "fnMergeSays", inPlace := ["slices.overlaps[loop.example/chronicler/impl.Row]", "internal/abi.NoEscape", "internal/bytealg.MakeNoZero"], unfollowed := true, recurses := true, apart := false }
def FnMergeSaysSaid : Prop := fnMergeSaysRow.holds Tryz.pinned (OpenSpec.ofChange fnMergeSaysSpec)

/-- ITS FALSE NEIGHBOUR: 'it returns false'. Refute it at one input. -/
def fnMergeSaysWrong : ChangeSpec := { name := "fnMergeSays", fn := fun _ => fun
  | [d] => { results := [.lit (.bool false)], args := [d] }
  | _ => none }
def FnMergeSaysWrongFalsely : Prop := fnMergeSaysRow.holds Tryz.pinned (OpenSpec.ofChange fnMergeSaysWrong)

/-- 'laws.FnOpen': WHATEVER THE INPUT: true; the input reads as it did. -/
def fnOpenSpec : ChangeSpec := { name := "fnOpen", fn := fun _ => fun
  | [d] => { results := [.lit (.bool true)], args := [d] }
  | _ => none }
def fnOpenRow : OpenClaim := { program := "ytfnpaglcnmcnbaagreat", sum := "d2dde9f714db072a5fd0c92ca20fe888595cb643e2d8ee6438865886c359ce63", func := "loop.example/chronicler/laws.FnOpen", spec := "fnOpen", inPlace := ["slices.overlaps[loop.example/chronicler/impl.Row]"], unfollowed := true, recurses := true, apart := false }
def FnOpenSaid : Prop := fnOpenRow.holds Tryz.pinned (OpenSpec.ofChange fnOpenSpec)

/-- ITS FALSE NEIGHBOUR: 'it returns false'. Refute it at one input. -/
def fnOpenWrong : ChangeSpec := { name := "fnOpen", fn := fun _ => fun
  | [d] => { results := [.lit (.bool false)], args := [d] }
  | _ => none }
def FnOpenWrongFalsely : Prop := fnOpenRow.holds Tryz.pinned (OpenSpec.ofChange fnOpenWrong)

/-- 'laws.FnStepsOther': WHATEVER THE INPUT: true; the input reads as it did. -/
def fnStepsOtherSpec : ChangeSpec := { name := "fnStepsOther", fn := fun _ => fun
  | [d] => { results := [.lit (.bool true)], args := [d] }
  | _ => none }
def fnStepsOtherRow : OpenClaim := { program := "ytfnpaglcnmcnbaagreat", sum := "d2dde9f714db072a5fd0c92ca20fe888595cb643e2d8ee6438865886c359ce63", func := "loop.example/chronicler/laws.FnStepsOther", spec := "fnStepsOther", inPlace := ["slices.overlaps[loop.example/chronicler/impl.Row]"], unfollowed := true, recurses := true, apart := false }
def FnStepsOtherSaid : Prop := fnStepsOtherRow.holds Tryz.pinned (OpenSpec.ofChange fnStepsOtherSpec)

/-- ITS FALSE NEIGHBOUR: 'it returns false'. Refute it at one input. -/
def fnStepsOtherWrong : ChangeSpec := { name := "fnStepsOther", fn := fun _ => fun
  | [d] => { results := [.lit (.bool false)], args := [d] }
  | _ => none }
def FnStepsOtherWrongFalsely : Prop := fnStepsOtherRow.holds Tryz.pinned (OpenSpec.ofChange fnStepsOtherWrong)

/-- 'laws.FnFlushSteps': WHATEVER THE INPUT: true; the input reads as it did. -/
def fnFlushStepsSpec : ChangeSpec := { name := "fnFlushSteps", fn := fun _ => fun
  | [d] => { results := [.lit (.bool true)], args := [d] }
  | _ => none }
def fnFlushStepsRow : OpenClaim := { program := "ytfnpaglcnmcnbaagreat", sum := "d2dde9f714db072a5fd0c92ca20fe888595cb643e2d8ee6438865886c359ce63", func := "loop.example/chronicler/laws.FnFlushSteps", spec := "fnFlushSteps", inPlace := ["slices.overlaps[loop.example/chronicler/impl.Row]"], unfollowed := true, recurses := true, apart := false }
def FnFlushStepsSaid : Prop := fnFlushStepsRow.holds Tryz.pinned (OpenSpec.ofChange fnFlushStepsSpec)

/-- ITS FALSE NEIGHBOUR: 'it returns false'. Refute it at one input. -/
def fnFlushStepsWrong : ChangeSpec := { name := "fnFlushSteps", fn := fun _ => fun
  | [d] => { results := [.lit (.bool false)], args := [d] }
  | _ => none }
def FnFlushStepsWrongFalsely : Prop := fnFlushStepsRow.holds Tryz.pinned (OpenSpec.ofChange fnFlushStepsWrong)

/- THE SECOND FORM. 'bulk': how many values and letters a reading holds, each counted each time it is reached (what is shared counts as often as it is met; a slice's spare places count too). A statement '..UptoSaid' is the law's where the arguments, and the package variables that the reading takes, are together of bulk at most 1048576: NARROWER than '..Said'. Prove '..Said' where nothing that the law and all that it calls make is longer than what came in: it says more and counts as full. Else prove '..UptoSaid'. A law counts once. -/
mutual
def uptoBulk {H : Type} : DataW H → Nat
  | .lit (.string bytes) => bytes.length + 1
  | .lit _ => 1
  | .nil => 1
  | .ptr d => uptoBulk d + 1
  | .slice elems spare => uptoBulkAll elems + uptoBulkAll spare + 1
  | .agg parts => uptoBulkAll parts + 1
  | .iface _ d => uptoBulk d + 1
  | .map entries => uptoBulkEntries entries + 1
  | .held _ => 1
def uptoBulkAll {H : Type} : List (DataW H) → Nat
  | [] => 0
  | d :: r => uptoBulk d + uptoBulkAll r
def uptoBulkEntries {H : Type} : List (Lit × DataW H) → Nat
  | [] => 0
  | x :: r => uptoBulkEntry x + uptoBulkEntries r
def uptoBulkEntry {H : Type} : Lit × DataW H → Nat
  | (.string bytes, d) => bytes.length + uptoBulk d + 1
  | (_, d) => uptoBulk d + 1
 end
def uptoSmall : (H : Type) → List (DataW H) → Bool := fun _ ds => decide (uptoBulkAll ds ≤ 1048576)
def OpenSpec.upto (s : _root_.Go.ChangeSpec) : _root_.Go.OpenSpec := { _root_.Go.OpenSpec.ofChange s with cond := some uptoSmall }

/-- 'laws.FnAddNot', WHERE WHAT IT READS IS OF BULK AT MOST 1048576: true; the input reads as it did. -/
def fnAddNotUptoRow : OpenClaim := { program := "ytfnpaglcnmcnbaagreat", sum := "d2dde9f714db072a5fd0c92ca20fe888595cb643e2d8ee6438865886c359ce63", func := "loop.example/chronicler/laws.FnAddNot", spec := "fnAddNot", inPlace := ["slices.overlaps[loop.example/chronicler/impl.Row]"], unfollowed := true, recurses := true, apart := false, narrowed := true }
def FnAddNotUptoSaid : Prop := fnAddNotUptoRow.holds Tryz.pinned (OpenSpec.upto fnAddNotSpec)

/-- 'laws.FnAddRows', WHERE WHAT IT READS IS OF BULK AT MOST 1048576: true; the input reads as it did. -/
def fnAddRowsUptoRow : OpenClaim := { program := "ytfnpaglcnmcnbaagreat", sum := "d2dde9f714db072a5fd0c92ca20fe888595cb643e2d8ee6438865886c359ce63", func := "loop.example/chronicler/laws.FnAddRows", spec := "fnAddRows", inPlace := ["slices.overlaps[loop.example/chronicler/impl.Row]"], unfollowed := true, recurses := true, apart := false, narrowed := true }
def FnAddRowsUptoSaid : Prop := fnAddRowsUptoRow.holds Tryz.pinned (OpenSpec.upto fnAddRowsSpec)

/-- 'laws.FnFlushAdd', WHERE WHAT IT READS IS OF BULK AT MOST 1048576: true; the input reads as it did. -/
def fnFlushAddUptoRow : OpenClaim := { program := "ytfnpaglcnmcnbaagreat", sum := "d2dde9f714db072a5fd0c92ca20fe888595cb643e2d8ee6438865886c359ce63", func := "loop.example/chronicler/laws.FnFlushAdd", spec := "fnFlushAdd", inPlace := ["slices.overlaps[loop.example/chronicler/impl.Row]"], unfollowed := true, recurses := true, apart := false, narrowed := true }
def FnFlushAddUptoSaid : Prop := fnFlushAddUptoRow.holds Tryz.pinned (OpenSpec.upto fnFlushAddSpec)

/-- 'laws.FnAskCut', WHERE WHAT IT READS IS OF BULK AT MOST 1048576: true; the input reads as it did. -/
def fnAskCutUptoRow : OpenClaim := { program := "ytfnpaglcnmcnbaagreat", sum := "d2dde9f714db072a5fd0c92ca20fe888595cb643e2d8ee6438865886c359ce63", func := "loop.example/chronicler/laws.FnAskCut", spec := "fnAskCut", inPlace := ["slices.overlaps[loop.example/chronicler/impl.Row]", "internal/abi.NoEscape", "internal/bytealg.MakeNoZero"], unfollowed := true, recurses := true, apart := false, narrowed := true }
def FnAskCutUptoSaid : Prop := fnAskCutUptoRow.holds Tryz.pinned (OpenSpec.upto fnAskCutSpec)

/-- 'laws.FnAskFilter', WHERE WHAT IT READS IS OF BULK AT MOST 1048576: true; the input reads as it did. -/
def fnAskFilterUptoRow : OpenClaim := { program := "ytfnpaglcnmcnbaagreat", sum := "d2dde9f714db072a5fd0c92ca20fe888595cb643e2d8ee6438865886c359ce63", func := "loop.example/chronicler/laws.FnAskFilter", spec := "fnAskFilter", inPlace := ["slices.overlaps[loop.example/chronicler/impl.Row]", "internal/abi.NoEscape", "internal/bytealg.MakeNoZero"], unfollowed := true, recurses := true, apart := false, narrowed := true }
def FnAskFilterUptoSaid : Prop := fnAskFilterUptoRow.holds Tryz.pinned (OpenSpec.upto fnAskFilterSpec)

/-- 'laws.FnAsk', WHERE WHAT IT READS IS OF BULK AT MOST 1048576: true; the input reads as it did. -/
def fnAskUptoRow : OpenClaim := { program := "ytfnpaglcnmcnbaagreat", sum := "d2dde9f714db072a5fd0c92ca20fe888595cb643e2d8ee6438865886c359ce63", func := "loop.example/chronicler/laws.FnAsk", spec := "fnAsk", inPlace := ["slices.overlaps[loop.example/chronicler/impl.Row]", "internal/abi.NoEscape", "internal/bytealg.MakeNoZero"], unfollowed := true, recurses := true, apart := false, narrowed := true }
def FnAskUptoSaid : Prop := fnAskUptoRow.holds Tryz.pinned (OpenSpec.upto fnAskSpec)

/-- 'laws.FnFlush', WHERE WHAT IT READS IS OF BULK AT MOST 1048576: true; the input reads as it did. -/
def fnFlushUptoRow : OpenClaim := { program := "ytfnpaglcnmcnbaagreat", sum := "d2dde9f714db072a5fd0c92ca20fe888595cb643e2d8ee6438865886c359ce63", func := "loop.example/chronicler/laws.FnFlush", spec := "fnFlush", inPlace := ["slices.overlaps[loop.example/chronicler/impl.Row]", "internal/abi.NoEscape", "internal/bytealg.MakeNoZero"], unfollowed := true, recurses := true, apart := false, narrowed := true }
def FnFlushUptoSaid : Prop := fnFlushUptoRow.holds Tryz.pinned (OpenSpec.upto fnFlushSpec)

/-- 'laws.FnMergeAll', WHERE WHAT IT READS IS OF BULK AT MOST 1048576: true; the input reads as it did. -/
def fnMergeAllUptoRow : OpenClaim := { program := "ytfnpaglcnmcnbaagreat", sum := "d2dde9f714db072a5fd0c92ca20fe888595cb643e2d8ee6438865886c359ce63", func := "loop.example/chronicler/laws.FnMergeAll", spec := "fnMergeAll", inPlace := ["slices.overlaps[loop.example/chronicler/impl.Row]", "internal/abi.NoEscape", "internal/bytealg.MakeNoZero"], unfollowed := true, recurses := true, apart := false, narrowed := true }
def FnMergeAllUptoSaid : Prop := fnMergeAllUptoRow.holds Tryz.pinned (OpenSpec.upto fnMergeAllSpec)

/-- 'laws.FnMergeSays', WHERE WHAT IT READS IS OF BULK AT MOST 1048576: true; the input reads as it did. -/
def fnMergeSaysUptoRow : OpenClaim := { program := "ytfnpaglcnmcnbaagreat", sum := "d2dde9f714db072a5fd0c92ca20fe888595cb643e2d8ee6438865886c359ce63", func := "loop.example/chronicler/laws.FnMergeSays", spec := "fnMergeSays", inPlace := ["slices.overlaps[loop.example/chronicler/impl.Row]", "internal/abi.NoEscape", "internal/bytealg.MakeNoZero"], unfollowed := true, recurses := true, apart := false, narrowed := true }
def FnMergeSaysUptoSaid : Prop := fnMergeSaysUptoRow.holds Tryz.pinned (OpenSpec.upto fnMergeSaysSpec)

/-- 'laws.FnOpen', WHERE WHAT IT READS IS OF BULK AT MOST 1048576: true; the input reads as it did. -/
def fnOpenUptoRow : OpenClaim := { program := "ytfnpaglcnmcnbaagreat", sum := "d2dde9f714db072a5fd0c92ca20fe888595cb643e2d8ee6438865886c359ce63", func := "loop.example/chronicler/laws.FnOpen", spec := "fnOpen", inPlace := ["slices.overlaps[loop.example/chronicler/impl.Row]"], unfollowed := true, recurses := true, apart := false, narrowed := true }
def FnOpenUptoSaid : Prop := fnOpenUptoRow.holds Tryz.pinned (OpenSpec.upto fnOpenSpec)

/-- 'laws.FnStepsOther', WHERE WHAT IT READS IS OF BULK AT MOST 1048576: true; the input reads as it did. -/
def fnStepsOtherUptoRow : OpenClaim := { program := "ytfnpaglcnmcnbaagreat", sum := "d2dde9f714db072a5fd0c92ca20fe888595cb643e2d8ee6438865886c359ce63", func := "loop.example/chronicler/laws.FnStepsOther", spec := "fnStepsOther", inPlace := ["slices.overlaps[loop.example/chronicler/impl.Row]"], unfollowed := true, recurses := true, apart := false, narrowed := true }
def FnStepsOtherUptoSaid : Prop := fnStepsOtherUptoRow.holds Tryz.pinned (OpenSpec.upto fnStepsOtherSpec)

/-- 'laws.FnFlushSteps', WHERE WHAT IT READS IS OF BULK AT MOST 1048576: true; the input reads as it did. -/
def fnFlushStepsUptoRow : OpenClaim := { program := "ytfnpaglcnmcnbaagreat", sum := "d2dde9f714db072a5fd0c92ca20fe888595cb643e2d8ee6438865886c359ce63", func := "loop.example/chronicler/laws.FnFlushSteps", spec := "fnFlushSteps", inPlace := ["slices.overlaps[loop.example/chronicler/impl.Row]"], unfollowed := true, recurses := true, apart := false, narrowed := true }
def FnFlushStepsUptoSaid : Prop := fnFlushStepsUptoRow.holds Tryz.pinned (OpenSpec.upto fnFlushStepsSpec)

end Rows
end Go.Proofs.YtfnpaglcnmcnbaaGreat
