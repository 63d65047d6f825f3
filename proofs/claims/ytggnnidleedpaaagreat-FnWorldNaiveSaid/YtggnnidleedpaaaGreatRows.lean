/-
  No cell of these rows narrows 'for every input' (looked for: loops, veiled, ifaces, maps, wideKeys, modest, calm, conditions, laid).
  DERIVED. THE GIVEN ROWS OF THIS SEAT. 12 by the template 'for every input the law returns true; each argument reads behind the call as it read before'; 0 by the template 'total and deterministic' (their statements: YtggnnidleedpaaaGreatTotals.lean).
  GIVEN WITH THE SEED: the statements are not yours to turn. If you find one false, say at which input.
  Laid BY PROGRAM, IN A SANDBOX (cutbox-rows.mjs): the forced cells as the released guide's own fill.sh prints them over the translation 4957285411438c78… (all of the seat's roots in one cut). By AI agents, Wed Nov 11 2026. No macro, syntax, notation, axiom, sorry.
-/
import Derived.Test.YtggnnidleedpaaaGreatChecked
import GoSem.Claim
import GoSem.ClaimJoined
import GoSem.ClaimMapViews
import Derived.JoinedTies
import Derived.KernelRfl
namespace Go.Proofs.YtggnnidleedpaaaGreat
/- THE CELL 'sum', in the pinned program and in every row, IS THE sha256 OF THE DUMP (.gsa) THAT YtggnnidleedpaaaGreatProg.lean LOADS. Nothing in Lean hashes anything: it is a label: what it is worth is what the hold of that sum in a sandbox is worth. -/
noncomputable def Tryz.pinned : Pinned := { name := "ytggnnidleedpaaagreat", sum := "4957285411438c7891f12d1c8ca00282ed551439bb9a466b9f05e0c2f7429fdd", checked := Tryz.checked }
namespace Rows
def none {H : Type} : Left H := { results := [], args := [] }

/-- 'laws.FnWorldNames': WHATEVER THE INPUT: true; the input reads as it did. -/
def fnWorldNamesSpec : ChangeSpec := { name := "fnWorldNames", fn := fun _ => fun
  | [d1, d2] => { results := [.lit (.bool true)], args := [d1, d2] }
  | _ => none }
def fnWorldNamesRow : OpenClaim := { program := "ytggnnidleedpaaagreat", sum := "4957285411438c7891f12d1c8ca00282ed551439bb9a466b9f05e0c2f7429fdd", func := "loop.example/chronicler/laws.FnWorldNames", spec := "fnWorldNames", inPlace := ["slices.overlaps[loop.example/chronicler/impl.Row]"], unfollowed := true, recurses := true, apart := false }
def FnWorldNamesSaid : Prop := fnWorldNamesRow.holds Tryz.pinned (OpenSpec.ofChange fnWorldNamesSpec)

/-- ITS FALSE NEIGHBOUR: 'it returns false'. Refute it at one input. -/
def fnWorldNamesWrong : ChangeSpec := { name := "fnWorldNames", fn := fun _ => fun
  | [d1, d2] => { results := [.lit (.bool false)], args := [d1, d2] }
  | _ => none }
def FnWorldNamesWrongFalsely : Prop := fnWorldNamesRow.holds Tryz.pinned (OpenSpec.ofChange fnWorldNamesWrong)

/-- 'laws.FnWorldFiles': WHATEVER THE INPUT: true; the input reads as it did. -/
def fnWorldFilesSpec : ChangeSpec := { name := "fnWorldFiles", fn := fun _ => fun
  | [d] => { results := [.lit (.bool true)], args := [d] }
  | _ => none }
def fnWorldFilesRow : OpenClaim := { program := "ytggnnidleedpaaagreat", sum := "4957285411438c7891f12d1c8ca00282ed551439bb9a466b9f05e0c2f7429fdd", func := "loop.example/chronicler/laws.FnWorldFiles", spec := "fnWorldFiles", inPlace := ["slices.overlaps[loop.example/chronicler/impl.Row]"], unfollowed := true, recurses := true, apart := false }
def FnWorldFilesSaid : Prop := fnWorldFilesRow.holds Tryz.pinned (OpenSpec.ofChange fnWorldFilesSpec)

/-- ITS FALSE NEIGHBOUR: 'it returns false'. Refute it at one input. -/
def fnWorldFilesWrong : ChangeSpec := { name := "fnWorldFiles", fn := fun _ => fun
  | [d] => { results := [.lit (.bool false)], args := [d] }
  | _ => none }
def FnWorldFilesWrongFalsely : Prop := fnWorldFilesRow.holds Tryz.pinned (OpenSpec.ofChange fnWorldFilesWrong)

/-- 'laws.FnWorldParts': WHATEVER THE INPUT: true; the input reads as it did. -/
def fnWorldPartsSpec : ChangeSpec := { name := "fnWorldParts", fn := fun _ => fun
  | [d] => { results := [.lit (.bool true)], args := [d] }
  | _ => none }
def fnWorldPartsRow : OpenClaim := { program := "ytggnnidleedpaaagreat", sum := "4957285411438c7891f12d1c8ca00282ed551439bb9a466b9f05e0c2f7429fdd", func := "loop.example/chronicler/laws.FnWorldParts", spec := "fnWorldParts", inPlace := ["slices.overlaps[loop.example/chronicler/impl.Row]"], unfollowed := true, recurses := true, apart := false }
def FnWorldPartsSaid : Prop := fnWorldPartsRow.holds Tryz.pinned (OpenSpec.ofChange fnWorldPartsSpec)

/-- ITS FALSE NEIGHBOUR: 'it returns false'. Refute it at one input. -/
def fnWorldPartsWrong : ChangeSpec := { name := "fnWorldParts", fn := fun _ => fun
  | [d] => { results := [.lit (.bool false)], args := [d] }
  | _ => none }
def FnWorldPartsWrongFalsely : Prop := fnWorldPartsRow.holds Tryz.pinned (OpenSpec.ofChange fnWorldPartsWrong)

/-- 'laws.FnWorldCut': WHATEVER THE INPUT: true; the input reads as it did. -/
def fnWorldCutSpec : ChangeSpec := { name := "fnWorldCut", fn := fun _ => fun
  | [d1, d2] => { results := [.lit (.bool true)], args := [d1, d2] }
  | _ => none }
def fnWorldCutRow : OpenClaim := { program := "ytggnnidleedpaaagreat", sum := "4957285411438c7891f12d1c8ca00282ed551439bb9a466b9f05e0c2f7429fdd", func := "loop.example/chronicler/laws.FnWorldCut", spec := "fnWorldCut", inPlace := ["slices.overlaps[loop.example/chronicler/impl.Row]"], unfollowed := true, recurses := true, apart := false }
def FnWorldCutSaid : Prop := fnWorldCutRow.holds Tryz.pinned (OpenSpec.ofChange fnWorldCutSpec)

/-- ITS FALSE NEIGHBOUR: 'it returns false'. Refute it at one input. -/
def fnWorldCutWrong : ChangeSpec := { name := "fnWorldCut", fn := fun _ => fun
  | [d1, d2] => { results := [.lit (.bool false)], args := [d1, d2] }
  | _ => none }
def FnWorldCutWrongFalsely : Prop := fnWorldCutRow.holds Tryz.pinned (OpenSpec.ofChange fnWorldCutWrong)

/-- 'laws.FnWorldHalf': WHATEVER THE INPUT: true; the input reads as it did. -/
def fnWorldHalfSpec : ChangeSpec := { name := "fnWorldHalf", fn := fun _ => fun
  | [d1, d2] => { results := [.lit (.bool true)], args := [d1, d2] }
  | _ => none }
def fnWorldHalfRow : OpenClaim := { program := "ytggnnidleedpaaagreat", sum := "4957285411438c7891f12d1c8ca00282ed551439bb9a466b9f05e0c2f7429fdd", func := "loop.example/chronicler/laws.FnWorldHalf", spec := "fnWorldHalf", inPlace := ["slices.overlaps[loop.example/chronicler/impl.Row]"], unfollowed := true, recurses := true, apart := false }
def FnWorldHalfSaid : Prop := fnWorldHalfRow.holds Tryz.pinned (OpenSpec.ofChange fnWorldHalfSpec)

/-- ITS FALSE NEIGHBOUR: 'it returns false'. Refute it at one input. -/
def fnWorldHalfWrong : ChangeSpec := { name := "fnWorldHalf", fn := fun _ => fun
  | [d1, d2] => { results := [.lit (.bool false)], args := [d1, d2] }
  | _ => none }
def FnWorldHalfWrongFalsely : Prop := fnWorldHalfRow.holds Tryz.pinned (OpenSpec.ofChange fnWorldHalfWrong)

/-- 'laws.FnWorldFall': WHATEVER THE INPUT: true; the input reads as it did. -/
def fnWorldFallSpec : ChangeSpec := { name := "fnWorldFall", fn := fun _ => fun
  | [d] => { results := [.lit (.bool true)], args := [d] }
  | _ => none }
def fnWorldFallRow : OpenClaim := { program := "ytggnnidleedpaaagreat", sum := "4957285411438c7891f12d1c8ca00282ed551439bb9a466b9f05e0c2f7429fdd", func := "loop.example/chronicler/laws.FnWorldFall", spec := "fnWorldFall", inPlace := ["slices.overlaps[loop.example/chronicler/impl.Row]"], unfollowed := true, recurses := true, apart := false }
def FnWorldFallSaid : Prop := fnWorldFallRow.holds Tryz.pinned (OpenSpec.ofChange fnWorldFallSpec)

/-- ITS FALSE NEIGHBOUR: 'it returns false'. Refute it at one input. -/
def fnWorldFallWrong : ChangeSpec := { name := "fnWorldFall", fn := fun _ => fun
  | [d] => { results := [.lit (.bool false)], args := [d] }
  | _ => none }
def FnWorldFallWrongFalsely : Prop := fnWorldFallRow.holds Tryz.pinned (OpenSpec.ofChange fnWorldFallWrong)

/-- 'laws.FnWorldFlush': WHATEVER THE INPUT: true; the input reads as it did. -/
def fnWorldFlushSpec : ChangeSpec := { name := "fnWorldFlush", fn := fun _ => fun
  | [d] => { results := [.lit (.bool true)], args := [d] }
  | _ => none }
def fnWorldFlushRow : OpenClaim := { program := "ytggnnidleedpaaagreat", sum := "4957285411438c7891f12d1c8ca00282ed551439bb9a466b9f05e0c2f7429fdd", func := "loop.example/chronicler/laws.FnWorldFlush", spec := "fnWorldFlush", inPlace := ["slices.overlaps[loop.example/chronicler/impl.Row]", "internal/abi.NoEscape", "internal/bytealg.MakeNoZero"], unfollowed := true, recurses := true, apart := false }
def FnWorldFlushSaid : Prop := fnWorldFlushRow.holds Tryz.pinned (OpenSpec.ofChange fnWorldFlushSpec)

/-- ITS FALSE NEIGHBOUR: 'it returns false'. Refute it at one input. -/
def fnWorldFlushWrong : ChangeSpec := { name := "fnWorldFlush", fn := fun _ => fun
  | [d] => { results := [.lit (.bool false)], args := [d] }
  | _ => none }
def FnWorldFlushWrongFalsely : Prop := fnWorldFlushRow.holds Tryz.pinned (OpenSpec.ofChange fnWorldFlushWrong)

/-- 'laws.FnWorldMerge': WHATEVER THE INPUT: true; the input reads as it did. -/
def fnWorldMergeSpec : ChangeSpec := { name := "fnWorldMerge", fn := fun _ => fun
  | [d1, d2] => { results := [.lit (.bool true)], args := [d1, d2] }
  | _ => none }
def fnWorldMergeRow : OpenClaim := { program := "ytggnnidleedpaaagreat", sum := "4957285411438c7891f12d1c8ca00282ed551439bb9a466b9f05e0c2f7429fdd", func := "loop.example/chronicler/laws.FnWorldMerge", spec := "fnWorldMerge", inPlace := ["slices.overlaps[loop.example/chronicler/impl.Row]", "internal/abi.NoEscape", "internal/bytealg.MakeNoZero"], unfollowed := true, recurses := true, apart := false }
def FnWorldMergeSaid : Prop := fnWorldMergeRow.holds Tryz.pinned (OpenSpec.ofChange fnWorldMergeSpec)

/-- ITS FALSE NEIGHBOUR: 'it returns false'. Refute it at one input. -/
def fnWorldMergeWrong : ChangeSpec := { name := "fnWorldMerge", fn := fun _ => fun
  | [d1, d2] => { results := [.lit (.bool false)], args := [d1, d2] }
  | _ => none }
def FnWorldMergeWrongFalsely : Prop := fnWorldMergeRow.holds Tryz.pinned (OpenSpec.ofChange fnWorldMergeWrong)

/-- 'laws.FnWorldAgain': WHATEVER THE INPUT: true; the input reads as it did. -/
def fnWorldAgainSpec : ChangeSpec := { name := "fnWorldAgain", fn := fun _ => fun
  | [d1, d2] => { results := [.lit (.bool true)], args := [d1, d2] }
  | _ => none }
def fnWorldAgainRow : OpenClaim := { program := "ytggnnidleedpaaagreat", sum := "4957285411438c7891f12d1c8ca00282ed551439bb9a466b9f05e0c2f7429fdd", func := "loop.example/chronicler/laws.FnWorldAgain", spec := "fnWorldAgain", inPlace := ["slices.overlaps[loop.example/chronicler/impl.Row]", "internal/abi.NoEscape", "internal/bytealg.MakeNoZero"], unfollowed := true, recurses := true, apart := false }
def FnWorldAgainSaid : Prop := fnWorldAgainRow.holds Tryz.pinned (OpenSpec.ofChange fnWorldAgainSpec)

/-- ITS FALSE NEIGHBOUR: 'it returns false'. Refute it at one input. -/
def fnWorldAgainWrong : ChangeSpec := { name := "fnWorldAgain", fn := fun _ => fun
  | [d1, d2] => { results := [.lit (.bool false)], args := [d1, d2] }
  | _ => none }
def FnWorldAgainWrongFalsely : Prop := fnWorldAgainRow.holds Tryz.pinned (OpenSpec.ofChange fnWorldAgainWrong)

/-- 'laws.FnWorldLost': WHATEVER THE INPUT: true; the input reads as it did. -/
def fnWorldLostSpec : ChangeSpec := { name := "fnWorldLost", fn := fun _ => fun
  | [d1, d2] => { results := [.lit (.bool true)], args := [d1, d2] }
  | _ => none }
def fnWorldLostRow : OpenClaim := { program := "ytggnnidleedpaaagreat", sum := "4957285411438c7891f12d1c8ca00282ed551439bb9a466b9f05e0c2f7429fdd", func := "loop.example/chronicler/laws.FnWorldLost", spec := "fnWorldLost", inPlace := ["slices.overlaps[loop.example/chronicler/impl.Row]", "internal/abi.NoEscape", "internal/bytealg.MakeNoZero"], unfollowed := true, recurses := true, apart := false }
def FnWorldLostSaid : Prop := fnWorldLostRow.holds Tryz.pinned (OpenSpec.ofChange fnWorldLostSpec)

/-- ITS FALSE NEIGHBOUR: 'it returns false'. Refute it at one input. -/
def fnWorldLostWrong : ChangeSpec := { name := "fnWorldLost", fn := fun _ => fun
  | [d1, d2] => { results := [.lit (.bool false)], args := [d1, d2] }
  | _ => none }
def FnWorldLostWrongFalsely : Prop := fnWorldLostRow.holds Tryz.pinned (OpenSpec.ofChange fnWorldLostWrong)

/-- 'laws.FnWorldSame': WHATEVER THE INPUT: true; the input reads as it did. -/
def fnWorldSameSpec : ChangeSpec := { name := "fnWorldSame", fn := fun _ => fun
  | [d] => { results := [.lit (.bool true)], args := [d] }
  | _ => none }
def fnWorldSameRow : OpenClaim := { program := "ytggnnidleedpaaagreat", sum := "4957285411438c7891f12d1c8ca00282ed551439bb9a466b9f05e0c2f7429fdd", func := "loop.example/chronicler/laws.FnWorldSame", spec := "fnWorldSame", inPlace := ["slices.overlaps[loop.example/chronicler/impl.Row]", "internal/abi.NoEscape", "internal/bytealg.MakeNoZero"], unfollowed := true, recurses := true, apart := false }
def FnWorldSameSaid : Prop := fnWorldSameRow.holds Tryz.pinned (OpenSpec.ofChange fnWorldSameSpec)

/-- ITS FALSE NEIGHBOUR: 'it returns false'. Refute it at one input. -/
def fnWorldSameWrong : ChangeSpec := { name := "fnWorldSame", fn := fun _ => fun
  | [d] => { results := [.lit (.bool false)], args := [d] }
  | _ => none }
def FnWorldSameWrongFalsely : Prop := fnWorldSameRow.holds Tryz.pinned (OpenSpec.ofChange fnWorldSameWrong)

/-- 'laws.FnWorldNaive': WHATEVER THE INPUT: true; the input reads as it did. -/
def fnWorldNaiveSpec : ChangeSpec := { name := "fnWorldNaive", fn := fun _ => fun
  | [d] => { results := [.lit (.bool true)], args := [d] }
  | _ => none }
def fnWorldNaiveRow : OpenClaim := { program := "ytggnnidleedpaaagreat", sum := "4957285411438c7891f12d1c8ca00282ed551439bb9a466b9f05e0c2f7429fdd", func := "loop.example/chronicler/laws.FnWorldNaive", spec := "fnWorldNaive", inPlace := ["slices.overlaps[loop.example/chronicler/impl.Row]", "internal/abi.NoEscape", "internal/bytealg.MakeNoZero"], unfollowed := true, recurses := true, apart := false }
def FnWorldNaiveSaid : Prop := fnWorldNaiveRow.holds Tryz.pinned (OpenSpec.ofChange fnWorldNaiveSpec)

/-- ITS FALSE NEIGHBOUR: 'it returns false'. Refute it at one input. -/
def fnWorldNaiveWrong : ChangeSpec := { name := "fnWorldNaive", fn := fun _ => fun
  | [d] => { results := [.lit (.bool false)], args := [d] }
  | _ => none }
def FnWorldNaiveWrongFalsely : Prop := fnWorldNaiveRow.holds Tryz.pinned (OpenSpec.ofChange fnWorldNaiveWrong)

/- THE SECOND FORM. 'bulk': how many values and letters a reading holds, each counted each time it is reached (what is shared counts as often as it is met; a slice's spare places count too). A statement '..UptoSaid' is the law's where the arguments, and the package variables that the reading takes, are together of bulk at most 1048576: NARROWER than '..Said'. Prove '..Said' where nothing that the law and all that it calls make is longer than what came in: it says more and counts as full. Else prove '..UptoSaid'. A law counts once. -/
mutual
def uptoBulk {H : Type} : DataW H → Nat
  | .lit (.string bytes) => bytes.length + 1
  | .lit _ => 1
  | .nil => 1
  | .ptr d => uptoBulk d + 1
  | .slice elems spare => uptoBulkAll elems + uptoBulkAll spare + 1
  | .agg parts => uptoBulkAll parts + 1
  | .iface _ d => uptoBulk d + 1
  | .map entries => uptoBulkEntries entries + 1
  | .held _ => 1
def uptoBulkAll {H : Type} : List (DataW H) → Nat
  | [] => 0
  | d :: r => uptoBulk d + uptoBulkAll r
def uptoBulkEntries {H : Type} : List (Lit × DataW H) → Nat
  | [] => 0
  | x :: r => uptoBulkEntry x + uptoBulkEntries r
def uptoBulkEntry {H : Type} : Lit × DataW H → Nat
  | (.string bytes, d) => bytes.length + uptoBulk d + 1
  | (_, d) => uptoBulk d + 1
 end
def uptoSmall : (H : Type) → List (DataW H) → Bool := fun _ ds => decide (uptoBulkAll ds ≤ 1048576)
def OpenSpec.upto (s : _root_.Go.ChangeSpec) : _root_.Go.OpenSpec := { _root_.Go.OpenSpec.ofChange s with cond := some uptoSmall }

/-- 'laws.FnWorldNames', WHERE WHAT IT READS IS OF BULK AT MOST 1048576: true; the input reads as it did. -/
def fnWorldNamesUptoRow : OpenClaim := { program := "ytggnnidleedpaaagreat", sum := "4957285411438c7891f12d1c8ca00282ed551439bb9a466b9f05e0c2f7429fdd", func := "loop.example/chronicler/laws.FnWorldNames", spec := "fnWorldNames", inPlace := ["slices.overlaps[loop.example/chronicler/impl.Row]"], unfollowed := true, recurses := true, apart := false, narrowed := true }
def FnWorldNamesUptoSaid : Prop := fnWorldNamesUptoRow.holds Tryz.pinned (OpenSpec.upto fnWorldNamesSpec)

/-- 'laws.FnWorldFiles', WHERE WHAT IT READS IS OF BULK AT MOST 1048576: true; the input reads as it did. -/
def fnWorldFilesUptoRow : OpenClaim := { program := "ytggnnidleedpaaagreat", sum := "4957285411438c7891f12d1c8ca00282ed551439bb9a466b9f05e0c2f7429fdd", func := "loop.example/chronicler/laws.FnWorldFiles", spec := "fnWorldFiles", inPlace := ["slices.overlaps[loop.example/chronicler/impl.Row]"], unfollowed := true, recurses := true, apart := false, narrowed := true }
def FnWorldFilesUptoSaid : Prop := fnWorldFilesUptoRow.holds Tryz.pinned (OpenSpec.upto fnWorldFilesSpec)

/-- 'laws.FnWorldParts', WHERE WHAT IT READS IS OF BULK AT MOST 1048576: true; the input reads as it did. -/
def fnWorldPartsUptoRow : OpenClaim := { program := "ytggnnidleedpaaagreat", sum := "4957285411438c7891f12d1c8ca00282ed551439bb9a466b9f05e0c2f7429fdd", func := "loop.example/chronicler/laws.FnWorldParts", spec := "fnWorldParts", inPlace := ["slices.overlaps[loop.example/chronicler/impl.Row]"], unfollowed := true, recurses := true, apart := false, narrowed := true }
def FnWorldPartsUptoSaid : Prop := fnWorldPartsUptoRow.holds Tryz.pinned (OpenSpec.upto fnWorldPartsSpec)

/-- 'laws.FnWorldCut', WHERE WHAT IT READS IS OF BULK AT MOST 1048576: true; the input reads as it did. -/
def fnWorldCutUptoRow : OpenClaim := { program := "ytggnnidleedpaaagreat", sum := "4957285411438c7891f12d1c8ca00282ed551439bb9a466b9f05e0c2f7429fdd", func := "loop.example/chronicler/laws.FnWorldCut", spec := "fnWorldCut", inPlace := ["slices.overlaps[loop.example/chronicler/impl.Row]"], unfollowed := true, recurses := true, apart := false, narrowed := true }
def FnWorldCutUptoSaid : Prop := fnWorldCutUptoRow.holds Tryz.pinned (OpenSpec.upto fnWorldCutSpec)

/-- 'laws.FnWorldHalf', WHERE WHAT IT READS IS OF BULK AT MOST 1048576: true; the input reads as it did. -/
def fnWorldHalfUptoRow : OpenClaim := { program := "ytggnnidleedpaaagreat", sum := "4957285411438c7891f12d1c8ca00282ed551439bb9a466b9f05e0c2f7429fdd", func := "loop.example/chronicler/laws.FnWorldHalf", spec := "fnWorldHalf", inPlace := ["slices.overlaps[loop.example/chronicler/impl.Row]"], unfollowed := true, recurses := true, apart := false, narrowed := true }
def FnWorldHalfUptoSaid : Prop := fnWorldHalfUptoRow.holds Tryz.pinned (OpenSpec.upto fnWorldHalfSpec)

/-- 'laws.FnWorldFall', WHERE WHAT IT READS IS OF BULK AT MOST 1048576: true; the input reads as it did. -/
def fnWorldFallUptoRow : OpenClaim := { program := "ytggnnidleedpaaagreat", sum := "4957285411438c7891f12d1c8ca00282ed551439bb9a466b9f05e0c2f7429fdd", func := "loop.example/chronicler/laws.FnWorldFall", spec := "fnWorldFall", inPlace := ["slices.overlaps[loop.example/chronicler/impl.Row]"], unfollowed := true, recurses := true, apart := false, narrowed := true }
def FnWorldFallUptoSaid : Prop := fnWorldFallUptoRow.holds Tryz.pinned (OpenSpec.upto fnWorldFallSpec)

/-- 'laws.FnWorldFlush', WHERE WHAT IT READS IS OF BULK AT MOST 1048576: true; the input reads as it did. -/
def fnWorldFlushUptoRow : OpenClaim := { program := "ytggnnidleedpaaagreat", sum := "4957285411438c7891f12d1c8ca00282ed551439bb9a466b9f05e0c2f7429fdd", func := "loop.example/chronicler/laws.FnWorldFlush", spec := "fnWorldFlush", inPlace := ["slices.overlaps[loop.example/chronicler/impl.Row]", "internal/abi.NoEscape", "internal/bytealg.MakeNoZero"], unfollowed := true, recurses := true, apart := false, narrowed := true }
def FnWorldFlushUptoSaid : Prop := fnWorldFlushUptoRow.holds Tryz.pinned (OpenSpec.upto fnWorldFlushSpec)

/-- 'laws.FnWorldMerge', WHERE WHAT IT READS IS OF BULK AT MOST 1048576: true; the input reads as it did. -/
def fnWorldMergeUptoRow : OpenClaim := { program := "ytggnnidleedpaaagreat", sum := "4957285411438c7891f12d1c8ca00282ed551439bb9a466b9f05e0c2f7429fdd", func := "loop.example/chronicler/laws.FnWorldMerge", spec := "fnWorldMerge", inPlace := ["slices.overlaps[loop.example/chronicler/impl.Row]", "internal/abi.NoEscape", "internal/bytealg.MakeNoZero"], unfollowed := true, recurses := true, apart := false, narrowed := true }
def FnWorldMergeUptoSaid : Prop := fnWorldMergeUptoRow.holds Tryz.pinned (OpenSpec.upto fnWorldMergeSpec)

/-- 'laws.FnWorldAgain', WHERE WHAT IT READS IS OF BULK AT MOST 1048576: true; the input reads as it did. -/
def fnWorldAgainUptoRow : OpenClaim := { program := "ytggnnidleedpaaagreat", sum := "4957285411438c7891f12d1c8ca00282ed551439bb9a466b9f05e0c2f7429fdd", func := "loop.example/chronicler/laws.FnWorldAgain", spec := "fnWorldAgain", inPlace := ["slices.overlaps[loop.example/chronicler/impl.Row]", "internal/abi.NoEscape", "internal/bytealg.MakeNoZero"], unfollowed := true, recurses := true, apart := false, narrowed := true }
def FnWorldAgainUptoSaid : Prop := fnWorldAgainUptoRow.holds Tryz.pinned (OpenSpec.upto fnWorldAgainSpec)

/-- 'laws.FnWorldLost', WHERE WHAT IT READS IS OF BULK AT MOST 1048576: true; the input reads as it did. -/
def fnWorldLostUptoRow : OpenClaim := { program := "ytggnnidleedpaaagreat", sum := "4957285411438c7891f12d1c8ca00282ed551439bb9a466b9f05e0c2f7429fdd", func := "loop.example/chronicler/laws.FnWorldLost", spec := "fnWorldLost", inPlace := ["slices.overlaps[loop.example/chronicler/impl.Row]", "internal/abi.NoEscape", "internal/bytealg.MakeNoZero"], unfollowed := true, recurses := true, apart := false, narrowed := true }
def FnWorldLostUptoSaid : Prop := fnWorldLostUptoRow.holds Tryz.pinned (OpenSpec.upto fnWorldLostSpec)

/-- 'laws.FnWorldSame', WHERE WHAT IT READS IS OF BULK AT MOST 1048576: true; the input reads as it did. -/
def fnWorldSameUptoRow : OpenClaim := { program := "ytggnnidleedpaaagreat", sum := "4957285411438c7891f12d1c8ca00282ed551439bb9a466b9f05e0c2f7429fdd", func := "loop.example/chronicler/laws.FnWorldSame", spec := "fnWorldSame", inPlace := ["slices.overlaps[loop.example/chronicler/impl.Row]", "internal/abi.NoEscape", "internal/bytealg.MakeNoZero"], unfollowed := true, recurses := true, apart := false, narrowed := true }
def FnWorldSameUptoSaid : Prop := fnWorldSameUptoRow.holds Tryz.pinned (OpenSpec.upto fnWorldSameSpec)

/-- 'laws.FnWorldNaive', WHERE WHAT IT READS IS OF BULK AT MOST 1048576: true; the input reads as it did. -/
def fnWorldNaiveUptoRow : OpenClaim := { program := "ytggnnidleedpaaagreat", sum := "4957285411438c7891f12d1c8ca00282ed551439bb9a466b9f05e0c2f7429fdd", func := "loop.example/chronicler/laws.FnWorldNaive", spec := "fnWorldNaive", inPlace := ["slices.overlaps[loop.example/chronicler/impl.Row]", "internal/abi.NoEscape", "internal/bytealg.MakeNoZero"], unfollowed := true, recurses := true, apart := false, narrowed := true }
def FnWorldNaiveUptoSaid : Prop := fnWorldNaiveUptoRow.holds Tryz.pinned (OpenSpec.upto fnWorldNaiveSpec)

end Rows
end Go.Proofs.YtggnnidleedpaaaGreat
