/-
  No cell of these rows narrows 'for every input' (looked for: loops, veiled, ifaces, maps, wideKeys, modest, calm, conditions, laid).
  DERIVED. THE GIVEN ROWS OF THIS SEAT. 12 by the template 'for every input the law returns true; each argument reads behind the call as it read before'; 0 by the template 'total and deterministic' (their statements: YtganlmloonielaaGreatTotals.lean).
  GIVEN WITH THE SEED: the statements are not yours to turn. If you find one false, say at which input.
  Laid BY PROGRAM, IN A SANDBOX (cutbox-rows.mjs): the forced cells as the released guide's own fill.sh prints them over the translation 14648ad65880272b… (all of the seat's roots in one cut). By AI agents, Wed Nov 11 2026. No macro, syntax, notation, axiom, sorry.
-/
import Derived.Test.YtganlmloonielaaGreatChecked
import GoSem.Claim
import GoSem.ClaimJoined
import GoSem.ClaimMapViews
import Derived.JoinedTies
import Derived.KernelRfl
namespace Go.Proofs.YtganlmloonielaaGreat
/- THE CELL 'sum', in the pinned program and in every row, IS THE sha256 OF THE DUMP (.gsa) THAT YtganlmloonielaaGreatProg.lean LOADS. Nothing in Lean hashes anything: it is a label: what it is worth is what the hold of that sum in a sandbox is worth. -/
noncomputable def Tryz.pinned : Pinned := { name := "ytganlmloonielaagreat", sum := "14648ad65880272b66357e6b0992d8741ec8a1dd7fae0b2c1cb26ea67ef5aff4", checked := Tryz.checked }
namespace Rows
def none {H : Type} : Left H := { results := [], args := [] }

/-- 'laws.FnStepsOther': WHATEVER THE INPUT: true; the input reads as it did. -/
def fnStepsOtherSpec : ChangeSpec := { name := "fnStepsOther", fn := fun _ => fun
  | [d] => { results := [.lit (.bool true)], args := [d] }
  | _ => none }
def fnStepsOtherRow : OpenClaim := { program := "ytganlmloonielaagreat", sum := "14648ad65880272b66357e6b0992d8741ec8a1dd7fae0b2c1cb26ea67ef5aff4", func := "loop.example/chronicler/laws.FnStepsOther", spec := "fnStepsOther", inPlace := ["slices.overlaps[loop.example/chronicler/impl.Row]"], unfollowed := true, recurses := true, apart := false }
def FnStepsOtherSaid : Prop := fnStepsOtherRow.holds Tryz.pinned (OpenSpec.ofChange fnStepsOtherSpec)

/-- ITS FALSE NEIGHBOUR: 'it returns false'. Refute it at one input. -/
def fnStepsOtherWrong : ChangeSpec := { name := "fnStepsOther", fn := fun _ => fun
  | [d] => { results := [.lit (.bool false)], args := [d] }
  | _ => none }
def FnStepsOtherWrongFalsely : Prop := fnStepsOtherRow.holds Tryz.pinned (OpenSpec.ofChange fnStepsOtherWrong)

/-- 'laws.FnFlushSteps': WHATEVER THE INPUT: true; the input reads as it did. -/
def fnFlushStepsSpec : ChangeSpec := { name := "fnFlushSteps", fn := fun _ => fun
  | [d] => { results := [.lit (.bool true)], args := [d] }
  | _ => none }
def fnFlushStepsRow : OpenClaim := { program := "ytganlmloonielaagreat", sum := "14648ad65880272b66357e6b0992d8741ec8a1dd7fae0b2c1cb26ea67ef5aff4", func := "loop.example/chronicler/laws.FnFlushSteps", spec := "fnFlushSteps", inPlace := ["slices.overlaps[loop.example/chronicler/impl.Row]"], unfollowed := true, recurses := true, apart := false }
def FnFlushStepsSaid : Prop := fnFlushStepsRow.holds Tryz.pinned (OpenSpec.ofChange fnFlushStepsSpec)

/-- ITS FALSE NEIGHBOUR: 'it returns false'. Refute it at one input. -/
def fnFlushStepsWrong : ChangeSpec := { name := "fnFlushSteps", fn := fun _ => fun
  | [d] => { results := [.lit (.bool false)], args := [d] }
  | _ => none }
def FnFlushStepsWrongFalsely : Prop := fnFlushStepsRow.holds Tryz.pinned (OpenSpec.ofChange fnFlushStepsWrong)

/-- 'laws.FnToParts': WHATEVER THE INPUT: true; the input reads as it did. -/
def fnToPartsSpec : ChangeSpec := { name := "fnToParts", fn := fun _ => fun
  | [d1, d2] => { results := [.lit (.bool true)], args := [d1, d2] }
  | _ => none }
def fnToPartsRow : OpenClaim := { program := "ytganlmloonielaagreat", sum := "14648ad65880272b66357e6b0992d8741ec8a1dd7fae0b2c1cb26ea67ef5aff4", func := "loop.example/chronicler/laws.FnToParts", spec := "fnToParts", inPlace := ["slices.overlaps[loop.example/chronicler/impl.Row]"], unfollowed := true, recurses := true, apart := false }
def FnToPartsSaid : Prop := fnToPartsRow.holds Tryz.pinned (OpenSpec.ofChange fnToPartsSpec)

/-- ITS FALSE NEIGHBOUR: 'it returns false'. Refute it at one input. -/
def fnToPartsWrong : ChangeSpec := { name := "fnToParts", fn := fun _ => fun
  | [d1, d2] => { results := [.lit (.bool false)], args := [d1, d2] }
  | _ => none }
def FnToPartsWrongFalsely : Prop := fnToPartsRow.holds Tryz.pinned (OpenSpec.ofChange fnToPartsWrong)

/-- 'laws.FnMergeSteps': WHATEVER THE INPUT: true; the input reads as it did. -/
def fnMergeStepsSpec : ChangeSpec := { name := "fnMergeSteps", fn := fun _ => fun
  | [d] => { results := [.lit (.bool true)], args := [d] }
  | _ => none }
def fnMergeStepsRow : OpenClaim := { program := "ytganlmloonielaagreat", sum := "14648ad65880272b66357e6b0992d8741ec8a1dd7fae0b2c1cb26ea67ef5aff4", func := "loop.example/chronicler/laws.FnMergeSteps", spec := "fnMergeSteps", inPlace := ["slices.overlaps[loop.example/chronicler/impl.Row]"], unfollowed := true, recurses := true, apart := false }
def FnMergeStepsSaid : Prop := fnMergeStepsRow.holds Tryz.pinned (OpenSpec.ofChange fnMergeStepsSpec)

/-- ITS FALSE NEIGHBOUR: 'it returns false'. Refute it at one input. -/
def fnMergeStepsWrong : ChangeSpec := { name := "fnMergeSteps", fn := fun _ => fun
  | [d] => { results := [.lit (.bool false)], args := [d] }
  | _ => none }
def FnMergeStepsWrongFalsely : Prop := fnMergeStepsRow.holds Tryz.pinned (OpenSpec.ofChange fnMergeStepsWrong)

/-- 'laws.FnTidy': WHATEVER THE INPUT: true; the input reads as it did. -/
def fnTidySpec : ChangeSpec := { name := "fnTidy", fn := fun _ => fun
  | [d] => { results := [.lit (.bool true)], args := [d] }
  | _ => none }
def fnTidyRow : OpenClaim := { program := "ytganlmloonielaagreat", sum := "14648ad65880272b66357e6b0992d8741ec8a1dd7fae0b2c1cb26ea67ef5aff4", func := "loop.example/chronicler/laws.FnTidy", spec := "fnTidy", inPlace := ["slices.overlaps[loop.example/chronicler/impl.Row]"], unfollowed := true, recurses := true, apart := false }
def FnTidySaid : Prop := fnTidyRow.holds Tryz.pinned (OpenSpec.ofChange fnTidySpec)

/-- ITS FALSE NEIGHBOUR: 'it returns false'. Refute it at one input. -/
def fnTidyWrong : ChangeSpec := { name := "fnTidy", fn := fun _ => fun
  | [d] => { results := [.lit (.bool false)], args := [d] }
  | _ => none }
def FnTidyWrongFalsely : Prop := fnTidyRow.holds Tryz.pinned (OpenSpec.ofChange fnTidyWrong)

/-- 'laws.FnTidyNext': WHATEVER THE INPUT: true; the input reads as it did. -/
def fnTidyNextSpec : ChangeSpec := { name := "fnTidyNext", fn := fun _ => fun
  | [d] => { results := [.lit (.bool true)], args := [d] }
  | _ => none }
def fnTidyNextRow : OpenClaim := { program := "ytganlmloonielaagreat", sum := "14648ad65880272b66357e6b0992d8741ec8a1dd7fae0b2c1cb26ea67ef5aff4", func := "loop.example/chronicler/laws.FnTidyNext", spec := "fnTidyNext", inPlace := ["slices.overlaps[loop.example/chronicler/impl.Row]"], unfollowed := true, recurses := true, apart := false }
def FnTidyNextSaid : Prop := fnTidyNextRow.holds Tryz.pinned (OpenSpec.ofChange fnTidyNextSpec)

/-- ITS FALSE NEIGHBOUR: 'it returns false'. Refute it at one input. -/
def fnTidyNextWrong : ChangeSpec := { name := "fnTidyNext", fn := fun _ => fun
  | [d] => { results := [.lit (.bool false)], args := [d] }
  | _ => none }
def FnTidyNextWrongFalsely : Prop := fnTidyNextRow.holds Tryz.pinned (OpenSpec.ofChange fnTidyNextWrong)

/-- 'laws.FnOpenSame': WHATEVER THE INPUT: true; the input reads as it did. -/
def fnOpenSameSpec : ChangeSpec := { name := "fnOpenSame", fn := fun _ => fun
  | [d] => { results := [.lit (.bool true)], args := [d] }
  | _ => none }
def fnOpenSameRow : OpenClaim := { program := "ytganlmloonielaagreat", sum := "14648ad65880272b66357e6b0992d8741ec8a1dd7fae0b2c1cb26ea67ef5aff4", func := "loop.example/chronicler/laws.FnOpenSame", spec := "fnOpenSame", inPlace := ["slices.overlaps[loop.example/chronicler/impl.Row]"], unfollowed := true, recurses := true, apart := false }
def FnOpenSameSaid : Prop := fnOpenSameRow.holds Tryz.pinned (OpenSpec.ofChange fnOpenSameSpec)

/-- ITS FALSE NEIGHBOUR: 'it returns false'. Refute it at one input. -/
def fnOpenSameWrong : ChangeSpec := { name := "fnOpenSame", fn := fun _ => fun
  | [d] => { results := [.lit (.bool false)], args := [d] }
  | _ => none }
def FnOpenSameWrongFalsely : Prop := fnOpenSameRow.holds Tryz.pinned (OpenSpec.ofChange fnOpenSameWrong)

/-- 'laws.FnFlushCut': WHATEVER THE INPUT: true; the input reads as it did. -/
def fnFlushCutSpec : ChangeSpec := { name := "fnFlushCut", fn := fun _ => fun
  | [d1, d2] => { results := [.lit (.bool true)], args := [d1, d2] }
  | _ => none }
def fnFlushCutRow : OpenClaim := { program := "ytganlmloonielaagreat", sum := "14648ad65880272b66357e6b0992d8741ec8a1dd7fae0b2c1cb26ea67ef5aff4", func := "loop.example/chronicler/laws.FnFlushCut", spec := "fnFlushCut", inPlace := ["slices.overlaps[loop.example/chronicler/impl.Row]", "internal/abi.NoEscape", "internal/bytealg.MakeNoZero"], unfollowed := true, recurses := true, apart := false }
def FnFlushCutSaid : Prop := fnFlushCutRow.holds Tryz.pinned (OpenSpec.ofChange fnFlushCutSpec)

/-- ITS FALSE NEIGHBOUR: 'it returns false'. Refute it at one input. -/
def fnFlushCutWrong : ChangeSpec := { name := "fnFlushCut", fn := fun _ => fun
  | [d1, d2] => { results := [.lit (.bool false)], args := [d1, d2] }
  | _ => none }
def FnFlushCutWrongFalsely : Prop := fnFlushCutRow.holds Tryz.pinned (OpenSpec.ofChange fnFlushCutWrong)

/-- 'laws.FnMergeCut': WHATEVER THE INPUT: true; the input reads as it did. -/
def fnMergeCutSpec : ChangeSpec := { name := "fnMergeCut", fn := fun _ => fun
  | [d1, d2] => { results := [.lit (.bool true)], args := [d1, d2] }
  | _ => none }
def fnMergeCutRow : OpenClaim := { program := "ytganlmloonielaagreat", sum := "14648ad65880272b66357e6b0992d8741ec8a1dd7fae0b2c1cb26ea67ef5aff4", func := "loop.example/chronicler/laws.FnMergeCut", spec := "fnMergeCut", inPlace := ["slices.overlaps[loop.example/chronicler/impl.Row]", "internal/abi.NoEscape", "internal/bytealg.MakeNoZero"], unfollowed := true, recurses := true, apart := false }
def FnMergeCutSaid : Prop := fnMergeCutRow.holds Tryz.pinned (OpenSpec.ofChange fnMergeCutSpec)

/-- ITS FALSE NEIGHBOUR: 'it returns false'. Refute it at one input. -/
def fnMergeCutWrong : ChangeSpec := { name := "fnMergeCut", fn := fun _ => fun
  | [d1, d2] => { results := [.lit (.bool false)], args := [d1, d2] }
  | _ => none }
def FnMergeCutWrongFalsely : Prop := fnMergeCutRow.holds Tryz.pinned (OpenSpec.ofChange fnMergeCutWrong)

/-- 'laws.FnWorldNames': WHATEVER THE INPUT: true; the input reads as it did. -/
def fnWorldNamesSpec : ChangeSpec := { name := "fnWorldNames", fn := fun _ => fun
  | [d1, d2] => { results := [.lit (.bool true)], args := [d1, d2] }
  | _ => none }
def fnWorldNamesRow : OpenClaim := { program := "ytganlmloonielaagreat", sum := "14648ad65880272b66357e6b0992d8741ec8a1dd7fae0b2c1cb26ea67ef5aff4", func := "loop.example/chronicler/laws.FnWorldNames", spec := "fnWorldNames", inPlace := ["slices.overlaps[loop.example/chronicler/impl.Row]"], unfollowed := true, recurses := true, apart := false }
def FnWorldNamesSaid : Prop := fnWorldNamesRow.holds Tryz.pinned (OpenSpec.ofChange fnWorldNamesSpec)

/-- ITS FALSE NEIGHBOUR: 'it returns false'. Refute it at one input. -/
def fnWorldNamesWrong : ChangeSpec := { name := "fnWorldNames", fn := fun _ => fun
  | [d1, d2] => { results := [.lit (.bool false)], args := [d1, d2] }
  | _ => none }
def FnWorldNamesWrongFalsely : Prop := fnWorldNamesRow.holds Tryz.pinned (OpenSpec.ofChange fnWorldNamesWrong)

/-- 'laws.FnWorldFiles': WHATEVER THE INPUT: true; the input reads as it did. -/
def fnWorldFilesSpec : ChangeSpec := { name := "fnWorldFiles", fn := fun _ => fun
  | [d] => { results := [.lit (.bool true)], args := [d] }
  | _ => none }
def fnWorldFilesRow : OpenClaim := { program := "ytganlmloonielaagreat", sum := "14648ad65880272b66357e6b0992d8741ec8a1dd7fae0b2c1cb26ea67ef5aff4", func := "loop.example/chronicler/laws.FnWorldFiles", spec := "fnWorldFiles", inPlace := ["slices.overlaps[loop.example/chronicler/impl.Row]"], unfollowed := true, recurses := true, apart := false }
def FnWorldFilesSaid : Prop := fnWorldFilesRow.holds Tryz.pinned (OpenSpec.ofChange fnWorldFilesSpec)

/-- ITS FALSE NEIGHBOUR: 'it returns false'. Refute it at one input. -/
def fnWorldFilesWrong : ChangeSpec := { name := "fnWorldFiles", fn := fun _ => fun
  | [d] => { results := [.lit (.bool false)], args := [d] }
  | _ => none }
def FnWorldFilesWrongFalsely : Prop := fnWorldFilesRow.holds Tryz.pinned (OpenSpec.ofChange fnWorldFilesWrong)

/-- 'laws.FnWorldParts': WHATEVER THE INPUT: true; the input reads as it did. -/
def fnWorldPartsSpec : ChangeSpec := { name := "fnWorldParts", fn := fun _ => fun
  | [d] => { results := [.lit (.bool true)], args := [d] }
  | _ => none }
def fnWorldPartsRow : OpenClaim := { program := "ytganlmloonielaagreat", sum := "14648ad65880272b66357e6b0992d8741ec8a1dd7fae0b2c1cb26ea67ef5aff4", func := "loop.example/chronicler/laws.FnWorldParts", spec := "fnWorldParts", inPlace := ["slices.overlaps[loop.example/chronicler/impl.Row]"], unfollowed := true, recurses := true, apart := false }
def FnWorldPartsSaid : Prop := fnWorldPartsRow.holds Tryz.pinned (OpenSpec.ofChange fnWorldPartsSpec)

/-- ITS FALSE NEIGHBOUR: 'it returns false'. Refute it at one input. -/
def fnWorldPartsWrong : ChangeSpec := { name := "fnWorldParts", fn := fun _ => fun
  | [d] => { results := [.lit (.bool false)], args := [d] }
  | _ => none }
def FnWorldPartsWrongFalsely : Prop := fnWorldPartsRow.holds Tryz.pinned (OpenSpec.ofChange fnWorldPartsWrong)

/- THE SECOND FORM. 'bulk': how many values and letters a reading holds, each counted each time it is reached (what is shared counts as often as it is met; a slice's spare places count too). A statement '..UptoSaid' is the law's where the arguments, and the package variables that the reading takes, are together of bulk at most 1048576: NARROWER than '..Said'. Prove '..Said' where nothing that the law and all that it calls make is longer than what came in: it says more and counts as full. Else prove '..UptoSaid'. A law counts once. -/
mutual
def uptoBulk {H : Type} : DataW H → Nat
  | .lit (.string bytes) => bytes.length + 1
  | .lit _ => 1
  | .nil => 1
  | .ptr d => uptoBulk d + 1
  | .slice elems spare => uptoBulkAll elems + uptoBulkAll spare + 1
  | .agg parts => uptoBulkAll parts + 1
  | .iface _ d => uptoBulk d + 1
  | .map entries => uptoBulkEntries entries + 1
  | .held _ => 1
def uptoBulkAll {H : Type} : List (DataW H) → Nat
  | [] => 0
  | d :: r => uptoBulk d + uptoBulkAll r
def uptoBulkEntries {H : Type} : List (Lit × DataW H) → Nat
  | [] => 0
  | x :: r => uptoBulkEntry x + uptoBulkEntries r
def uptoBulkEntry {H : Type} : Lit × DataW H → Nat
  | (.string bytes, d) => bytes.length + uptoBulk d + 1
  | (_, d) => uptoBulk d + 1
 end
def uptoSmall : (H : Type) → List (DataW H) → Bool := fun _ ds => decide (uptoBulkAll ds ≤ 1048576)
def OpenSpec.upto (s : _root_.Go.ChangeSpec) : _root_.Go.OpenSpec := { _root_.Go.OpenSpec.ofChange s with cond := some uptoSmall }

/-- 'laws.FnStepsOther', WHERE WHAT IT READS IS OF BULK AT MOST 1048576: true; the input reads as it did. -/
def fnStepsOtherUptoRow : OpenClaim := { program := "ytganlmloonielaagreat", sum := "14648ad65880272b66357e6b0992d8741ec8a1dd7fae0b2c1cb26ea67ef5aff4", func := "loop.example/chronicler/laws.FnStepsOther", spec := "fnStepsOther", inPlace := ["slices.overlaps[loop.example/chronicler/impl.Row]"], unfollowed := true, recurses := true, apart := false, narrowed := true }
def FnStepsOtherUptoSaid : Prop := fnStepsOtherUptoRow.holds Tryz.pinned (OpenSpec.upto fnStepsOtherSpec)

/-- 'laws.FnFlushSteps', WHERE WHAT IT READS IS OF BULK AT MOST 1048576: true; the input reads as it did. -/
def fnFlushStepsUptoRow : OpenClaim := { program := "ytganlmloonielaagreat", sum := "14648ad65880272b66357e6b0992d8741ec8a1dd7fae0b2c1cb26ea67ef5aff4", func := "loop.example/chronicler/laws.FnFlushSteps", spec := "fnFlushSteps", inPlace := ["slices.overlaps[loop.example/chronicler/impl.Row]"], unfollowed := true, recurses := true, apart := false, narrowed := true }
def FnFlushStepsUptoSaid : Prop := fnFlushStepsUptoRow.holds Tryz.pinned (OpenSpec.upto fnFlushStepsSpec)

/-- 'laws.FnToParts', WHERE WHAT IT READS IS OF BULK AT MOST 1048576: true; the input reads as it did. -/
def fnToPartsUptoRow : OpenClaim := { program := "ytganlmloonielaagreat", sum := "14648ad65880272b66357e6b0992d8741ec8a1dd7fae0b2c1cb26ea67ef5aff4", func := "loop.example/chronicler/laws.FnToParts", spec := "fnToParts", inPlace := ["slices.overlaps[loop.example/chronicler/impl.Row]"], unfollowed := true, recurses := true, apart := false, narrowed := true }
def FnToPartsUptoSaid : Prop := fnToPartsUptoRow.holds Tryz.pinned (OpenSpec.upto fnToPartsSpec)

/-- 'laws.FnMergeSteps', WHERE WHAT IT READS IS OF BULK AT MOST 1048576: true; the input reads as it did. -/
def fnMergeStepsUptoRow : OpenClaim := { program := "ytganlmloonielaagreat", sum := "14648ad65880272b66357e6b0992d8741ec8a1dd7fae0b2c1cb26ea67ef5aff4", func := "loop.example/chronicler/laws.FnMergeSteps", spec := "fnMergeSteps", inPlace := ["slices.overlaps[loop.example/chronicler/impl.Row]"], unfollowed := true, recurses := true, apart := false, narrowed := true }
def FnMergeStepsUptoSaid : Prop := fnMergeStepsUptoRow.holds Tryz.pinned (OpenSpec.upto fnMergeStepsSpec)

/-- 'laws.FnTidy', WHERE WHAT IT READS IS OF BULK AT MOST 1048576: true; the input reads as it did. -/
def fnTidyUptoRow : OpenClaim := { program := "ytganlmloonielaagreat", sum := "14648ad65880272b66357e6b0992d8741ec8a1dd7fae0b2c1cb26ea67ef5aff4", func := "loop.example/chronicler/laws.FnTidy", spec := "fnTidy", inPlace := ["slices.overlaps[loop.example/chronicler/impl.Row]"], unfollowed := true, recurses := true, apart := false, narrowed := true }
def FnTidyUptoSaid : Prop := fnTidyUptoRow.holds Tryz.pinned (OpenSpec.upto fnTidySpec)

/-- 'laws.FnTidyNext', WHERE WHAT IT READS IS OF BULK AT MOST 1048576: true; the input reads as it did. -/
def fnTidyNextUptoRow : OpenClaim := { program := "ytganlmloonielaagreat", sum := "14648ad65880272b66357e6b0992d8741ec8a1dd7fae0b2c1cb26ea67ef5aff4", func := "loop.example/chronicler/laws.FnTidyNext", spec := "fnTidyNext", inPlace := ["slices.overlaps[loop.example/chronicler/impl.Row]"], unfollowed := true, recurses := true, apart := false, narrowed := true }
def FnTidyNextUptoSaid : Prop := fnTidyNextUptoRow.holds Tryz.pinned (OpenSpec.upto fnTidyNextSpec)

/-- 'laws.FnOpenSame', WHERE WHAT IT READS IS OF BULK AT MOST 1048576: true; the input reads as it did. -/
def fnOpenSameUptoRow : OpenClaim := { program := "ytganlmloonielaagreat", sum := "14648ad65880272b66357e6b0992d8741ec8a1dd7fae0b2c1cb26ea67ef5aff4", func := "loop.example/chronicler/laws.FnOpenSame", spec := "fnOpenSame", inPlace := ["slices.overlaps[loop.example/chronicler/impl.Row]"], unfollowed := true, recurses := true, apart := false, narrowed := true }
def FnOpenSameUptoSaid : Prop := fnOpenSameUptoRow.holds Tryz.pinned (OpenSpec.upto fnOpenSameSpec)

/-- 'laws.FnFlushCut', WHERE WHAT IT READS IS OF BULK AT MOST 1048576: true; the input reads as it did. -/
def fnFlushCutUptoRow : OpenClaim := { program := "ytganlmloonielaagreat", sum := "14648ad65880272b66357e6b0992d8741ec8a1dd7fae0b2c1cb26ea67ef5aff4", func := "loop.example/chronicler/laws.FnFlushCut", spec := "fnFlushCut", inPlace := ["slices.overlaps[loop.example/chronicler/impl.Row]", "internal/abi.NoEscape", "internal/bytealg.MakeNoZero"], unfollowed := true, recurses := true, apart := false, narrowed := true }
def FnFlushCutUptoSaid : Prop := fnFlushCutUptoRow.holds Tryz.pinned (OpenSpec.upto fnFlushCutSpec)

/-- 'laws.FnMergeCut', WHERE WHAT IT READS IS OF BULK AT MOST 1048576: true; the input reads as it did. -/
def fnMergeCutUptoRow : OpenClaim := { program := "ytganlmloonielaagreat", sum := "14648ad65880272b66357e6b0992d8741ec8a1dd7fae0b2c1cb26ea67ef5aff4", func := "loop.example/chronicler/laws.FnMergeCut", spec := "fnMergeCut", inPlace := ["slices.overlaps[loop.example/chronicler/impl.Row]", "internal/abi.NoEscape", "internal/bytealg.MakeNoZero"], unfollowed := true, recurses := true, apart := false, narrowed := true }
def FnMergeCutUptoSaid : Prop := fnMergeCutUptoRow.holds Tryz.pinned (OpenSpec.upto fnMergeCutSpec)

/-- 'laws.FnWorldNames', WHERE WHAT IT READS IS OF BULK AT MOST 1048576: true; the input reads as it did. -/
def fnWorldNamesUptoRow : OpenClaim := { program := "ytganlmloonielaagreat", sum := "14648ad65880272b66357e6b0992d8741ec8a1dd7fae0b2c1cb26ea67ef5aff4", func := "loop.example/chronicler/laws.FnWorldNames", spec := "fnWorldNames", inPlace := ["slices.overlaps[loop.example/chronicler/impl.Row]"], unfollowed := true, recurses := true, apart := false, narrowed := true }
def FnWorldNamesUptoSaid : Prop := fnWorldNamesUptoRow.holds Tryz.pinned (OpenSpec.upto fnWorldNamesSpec)

/-- 'laws.FnWorldFiles', WHERE WHAT IT READS IS OF BULK AT MOST 1048576: true; the input reads as it did. -/
def fnWorldFilesUptoRow : OpenClaim := { program := "ytganlmloonielaagreat", sum := "14648ad65880272b66357e6b0992d8741ec8a1dd7fae0b2c1cb26ea67ef5aff4", func := "loop.example/chronicler/laws.FnWorldFiles", spec := "fnWorldFiles", inPlace := ["slices.overlaps[loop.example/chronicler/impl.Row]"], unfollowed := true, recurses := true, apart := false, narrowed := true }
def FnWorldFilesUptoSaid : Prop := fnWorldFilesUptoRow.holds Tryz.pinned (OpenSpec.upto fnWorldFilesSpec)

/-- 'laws.FnWorldParts', WHERE WHAT IT READS IS OF BULK AT MOST 1048576: true; the input reads as it did. -/
def fnWorldPartsUptoRow : OpenClaim := { program := "ytganlmloonielaagreat", sum := "14648ad65880272b66357e6b0992d8741ec8a1dd7fae0b2c1cb26ea67ef5aff4", func := "loop.example/chronicler/laws.FnWorldParts", spec := "fnWorldParts", inPlace := ["slices.overlaps[loop.example/chronicler/impl.Row]"], unfollowed := true, recurses := true, apart := false, narrowed := true }
def FnWorldPartsUptoSaid : Prop := fnWorldPartsUptoRow.holds Tryz.pinned (OpenSpec.upto fnWorldPartsSpec)

end Rows
end Go.Proofs.YtganlmloonielaaGreat
