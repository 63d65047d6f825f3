/-
  No cell of these rows narrows 'for every input' (looked for: loops, veiled, ifaces, maps, wideKeys, modest, calm, conditions, laid).
  DERIVED. THE GIVEN ROWS OF THIS SEAT. 5 by the template 'for every input the law returns true; each argument reads behind the call as it read before'; 0 by the template 'total and deterministic' (their statements: YtckdhcbbgmiccaaGreatTotals.lean).
  GIVEN WITH THE SEED: the statements are not yours to turn. If you find one false, say at which input.
  Laid BY PROGRAM, IN A SANDBOX (cutbox-rows.mjs): the forced cells as the released guide's own fill.sh prints them over the translation c3844a3486f1b75f… (all of the seat's roots in one cut). By AI agents, Wed Nov 11 2026. No macro, syntax, notation, axiom, sorry.
-/
import Derived.Test.YtckdhcbbgmiccaaGreatChecked
import GoSem.Claim
import GoSem.ClaimJoined
import GoSem.ClaimMapViews
import Derived.JoinedTies
import Derived.KernelRfl
namespace Go.Proofs.YtckdhcbbgmiccaaGreat
/- THE CELL 'sum', in the pinned program and in every row, IS THE sha256 OF THE DUMP (.gsa) THAT YtckdhcbbgmiccaaGreatProg.lean LOADS. Nothing in Lean hashes anything: it is a label: what it is worth is what the hold of that sum in a sandbox is worth. -/
noncomputable def Tryz.pinned : Pinned := { name := "ytckdhcbbgmiccaagreat", sum := "c3844a3486f1b75f36a2f9ddb2f02514d03a05fc3d00ccd4e62703a151b475eb", checked := Tryz.checked }
namespace Rows
def none {H : Type} : Left H := { results := [], args := [] }

/-- 'laws.FnWorldNaive': WHATEVER THE INPUT: true; the input reads as it did. -/
def fnWorldNaiveSpec : ChangeSpec := { name := "fnWorldNaive", fn := fun _ => fun
  | [d] => { results := [.lit (.bool true)], args := [d] }
  | _ => none }
def fnWorldNaiveRow : OpenClaim := { program := "ytckdhcbbgmiccaagreat", sum := "c3844a3486f1b75f36a2f9ddb2f02514d03a05fc3d00ccd4e62703a151b475eb", func := "loop.example/chronicler/laws.FnWorldNaive", spec := "fnWorldNaive", inPlace := ["slices.overlaps[loop.example/chronicler/impl.Row]", "internal/abi.NoEscape", "internal/bytealg.MakeNoZero"], unfollowed := true, recurses := true, apart := false }
def FnWorldNaiveSaid : Prop := fnWorldNaiveRow.holds Tryz.pinned (OpenSpec.ofChange fnWorldNaiveSpec)

/-- ITS FALSE NEIGHBOUR: 'it returns false'. Refute it at one input. -/
def fnWorldNaiveWrong : ChangeSpec := { name := "fnWorldNaive", fn := fun _ => fun
  | [d] => { results := [.lit (.bool false)], args := [d] }
  | _ => none }
def FnWorldNaiveWrongFalsely : Prop := fnWorldNaiveRow.holds Tryz.pinned (OpenSpec.ofChange fnWorldNaiveWrong)

/-- 'laws.FnWorldLast': WHATEVER THE INPUT: true; the input reads as it did. -/
def fnWorldLastSpec : ChangeSpec := { name := "fnWorldLast", fn := fun _ => fun
  | [d] => { results := [.lit (.bool true)], args := [d] }
  | _ => none }
def fnWorldLastRow : OpenClaim := { program := "ytckdhcbbgmiccaagreat", sum := "c3844a3486f1b75f36a2f9ddb2f02514d03a05fc3d00ccd4e62703a151b475eb", func := "loop.example/chronicler/laws.FnWorldLast", spec := "fnWorldLast", inPlace := ["slices.overlaps[loop.example/chronicler/impl.Row]", "internal/abi.NoEscape", "internal/bytealg.MakeNoZero"], unfollowed := true, recurses := true, apart := false }
def FnWorldLastSaid : Prop := fnWorldLastRow.holds Tryz.pinned (OpenSpec.ofChange fnWorldLastSpec)

/-- ITS FALSE NEIGHBOUR: 'it returns false'. Refute it at one input. -/
def fnWorldLastWrong : ChangeSpec := { name := "fnWorldLast", fn := fun _ => fun
  | [d] => { results := [.lit (.bool false)], args := [d] }
  | _ => none }
def FnWorldLastWrongFalsely : Prop := fnWorldLastRow.holds Tryz.pinned (OpenSpec.ofChange fnWorldLastWrong)

/-- 'laws.FnWorldIdle': WHATEVER THE INPUT: true; the input reads as it did. -/
def fnWorldIdleSpec : ChangeSpec := { name := "fnWorldIdle", fn := fun _ => fun
  | [d] => { results := [.lit (.bool true)], args := [d] }
  | _ => none }
def fnWorldIdleRow : OpenClaim := { program := "ytckdhcbbgmiccaagreat", sum := "c3844a3486f1b75f36a2f9ddb2f02514d03a05fc3d00ccd4e62703a151b475eb", func := "loop.example/chronicler/laws.FnWorldIdle", spec := "fnWorldIdle", inPlace := ["slices.overlaps[loop.example/chronicler/impl.Row]"], unfollowed := true, recurses := true, apart := false }
def FnWorldIdleSaid : Prop := fnWorldIdleRow.holds Tryz.pinned (OpenSpec.ofChange fnWorldIdleSpec)

/-- ITS FALSE NEIGHBOUR: 'it returns false'. Refute it at one input. -/
def fnWorldIdleWrong : ChangeSpec := { name := "fnWorldIdle", fn := fun _ => fun
  | [d] => { results := [.lit (.bool false)], args := [d] }
  | _ => none }
def FnWorldIdleWrongFalsely : Prop := fnWorldIdleRow.holds Tryz.pinned (OpenSpec.ofChange fnWorldIdleWrong)

/-- 'laws.FnWorldDo': WHATEVER THE INPUT: true; the input reads as it did. -/
def fnWorldDoSpec : ChangeSpec := { name := "fnWorldDo", fn := fun _ => fun
  | [d] => { results := [.lit (.bool true)], args := [d] }
  | _ => none }
def fnWorldDoRow : OpenClaim := { program := "ytckdhcbbgmiccaagreat", sum := "c3844a3486f1b75f36a2f9ddb2f02514d03a05fc3d00ccd4e62703a151b475eb", func := "loop.example/chronicler/laws.FnWorldDo", spec := "fnWorldDo", inPlace := ["slices.overlaps[loop.example/chronicler/impl.Row]"], unfollowed := true, recurses := true, apart := false }
def FnWorldDoSaid : Prop := fnWorldDoRow.holds Tryz.pinned (OpenSpec.ofChange fnWorldDoSpec)

/-- ITS FALSE NEIGHBOUR: 'it returns false'. Refute it at one input. -/
def fnWorldDoWrong : ChangeSpec := { name := "fnWorldDo", fn := fun _ => fun
  | [d] => { results := [.lit (.bool false)], args := [d] }
  | _ => none }
def FnWorldDoWrongFalsely : Prop := fnWorldDoRow.holds Tryz.pinned (OpenSpec.ofChange fnWorldDoWrong)

/-- 'laws.FnWorldEvents': WHATEVER THE INPUT: true; the input reads as it did. -/
def fnWorldEventsSpec : ChangeSpec := { name := "fnWorldEvents", fn := fun _ => fun
  | [d] => { results := [.lit (.bool true)], args := [d] }
  | _ => none }
def fnWorldEventsRow : OpenClaim := { program := "ytckdhcbbgmiccaagreat", sum := "c3844a3486f1b75f36a2f9ddb2f02514d03a05fc3d00ccd4e62703a151b475eb", func := "loop.example/chronicler/laws.FnWorldEvents", spec := "fnWorldEvents", inPlace := ["slices.overlaps[loop.example/chronicler/impl.Row]"], unfollowed := true, recurses := true, apart := false }
def FnWorldEventsSaid : Prop := fnWorldEventsRow.holds Tryz.pinned (OpenSpec.ofChange fnWorldEventsSpec)

/-- ITS FALSE NEIGHBOUR: 'it returns false'. Refute it at one input. -/
def fnWorldEventsWrong : ChangeSpec := { name := "fnWorldEvents", fn := fun _ => fun
  | [d] => { results := [.lit (.bool false)], args := [d] }
  | _ => none }
def FnWorldEventsWrongFalsely : Prop := fnWorldEventsRow.holds Tryz.pinned (OpenSpec.ofChange fnWorldEventsWrong)

/- THE SECOND FORM. 'bulk': how many values and letters a reading holds, each counted each time it is reached (what is shared counts as often as it is met; a slice's spare places count too). A statement '..UptoSaid' is the law's where the arguments, and the package variables that the reading takes, are together of bulk at most 1048576: NARROWER than '..Said'. Prove '..Said' where nothing that the law and all that it calls make is longer than what came in: it says more and counts as full. Else prove '..UptoSaid'. A law counts once. -/
mutual
def uptoBulk {H : Type} : DataW H → Nat
  | .lit (.string bytes) => bytes.length + 1
  | .lit _ => 1
  | .nil => 1
  | .ptr d => uptoBulk d + 1
  | .slice elems spare => uptoBulkAll elems + uptoBulkAll spare + 1
  | .agg parts => uptoBulkAll parts + 1
  | .iface _ d => uptoBulk d + 1
  | .map entries => uptoBulkEntries entries + 1
  | .held _ => 1
def uptoBulkAll {H : Type} : List (DataW H) → Nat
  | [] => 0
  | d :: r => uptoBulk d + uptoBulkAll r
def uptoBulkEntries {H : Type} : List (Lit × DataW H) → Nat
  | [] => 0
  | x :: r => uptoBulkEntry x + uptoBulkEntries r
def uptoBulkEntry {H : Type} : Lit × DataW H → Nat
  | (.string bytes, d) => bytes.length + uptoBulk d + 1
  | (_, d) => uptoBulk d + 1
 end
def uptoSmall : (H : Type) → List (DataW H) → Bool := fun _ ds => decide (uptoBulkAll ds ≤ 1048576)
def OpenSpec.upto (s : _root_.Go.ChangeSpec) : _root_.Go.OpenSpec := { _root_.Go.OpenSpec.ofChange s with cond := some uptoSmall }

/-- 'laws.FnWorldNaive', WHERE WHAT IT READS IS OF BULK AT MOST 1048576: true; the input reads as it did. -/
def fnWorldNaiveUptoRow : OpenClaim := { program := "ytckdhcbbgmiccaagreat", sum := "c3844a3486f1b75f36a2f9ddb2f02514d03a05fc3d00ccd4e62703a151b475eb", func := "loop.example/chronicler/laws.FnWorldNaive", spec := "fnWorldNaive", inPlace := ["slices.overlaps[loop.example/chronicler/impl.Row]", "internal/abi.NoEscape", "internal/bytealg.MakeNoZero"], unfollowed := true, recurses := true, apart := false, narrowed := true }
def FnWorldNaiveUptoSaid : Prop := fnWorldNaiveUptoRow.holds Tryz.pinned (OpenSpec.upto fnWorldNaiveSpec)

/-- 'laws.FnWorldLast', WHERE WHAT IT READS IS OF BULK AT MOST 1048576: true; the input reads as it did. -/
def fnWorldLastUptoRow : OpenClaim := { program := "ytckdhcbbgmiccaagreat", sum := "c3844a3486f1b75f36a2f9ddb2f02514d03a05fc3d00ccd4e62703a151b475eb", func := "loop.example/chronicler/laws.FnWorldLast", spec := "fnWorldLast", inPlace := ["slices.overlaps[loop.example/chronicler/impl.Row]", "internal/abi.NoEscape", "internal/bytealg.MakeNoZero"], unfollowed := true, recurses := true, apart := false, narrowed := true }
def FnWorldLastUptoSaid : Prop := fnWorldLastUptoRow.holds Tryz.pinned (OpenSpec.upto fnWorldLastSpec)

/-- 'laws.FnWorldIdle', WHERE WHAT IT READS IS OF BULK AT MOST 1048576: true; the input reads as it did. -/
def fnWorldIdleUptoRow : OpenClaim := { program := "ytckdhcbbgmiccaagreat", sum := "c3844a3486f1b75f36a2f9ddb2f02514d03a05fc3d00ccd4e62703a151b475eb", func := "loop.example/chronicler/laws.FnWorldIdle", spec := "fnWorldIdle", inPlace := ["slices.overlaps[loop.example/chronicler/impl.Row]"], unfollowed := true, recurses := true, apart := false, narrowed := true }
def FnWorldIdleUptoSaid : Prop := fnWorldIdleUptoRow.holds Tryz.pinned (OpenSpec.upto fnWorldIdleSpec)

/-- 'laws.FnWorldDo', WHERE WHAT IT READS IS OF BULK AT MOST 1048576: true; the input reads as it did. -/
def fnWorldDoUptoRow : OpenClaim := { program := "ytckdhcbbgmiccaagreat", sum := "c3844a3486f1b75f36a2f9ddb2f02514d03a05fc3d00ccd4e62703a151b475eb", func := "loop.example/chronicler/laws.FnWorldDo", spec := "fnWorldDo", inPlace := ["slices.overlaps[loop.example/chronicler/impl.Row]"], unfollowed := true, recurses := true, apart := false, narrowed := true }
def FnWorldDoUptoSaid : Prop := fnWorldDoUptoRow.holds Tryz.pinned (OpenSpec.upto fnWorldDoSpec)

/-- 'laws.FnWorldEvents', WHERE WHAT IT READS IS OF BULK AT MOST 1048576: true; the input reads as it did. -/
def fnWorldEventsUptoRow : OpenClaim := { program := "ytckdhcbbgmiccaagreat", sum := "c3844a3486f1b75f36a2f9ddb2f02514d03a05fc3d00ccd4e62703a151b475eb", func := "loop.example/chronicler/laws.FnWorldEvents", spec := "fnWorldEvents", inPlace := ["slices.overlaps[loop.example/chronicler/impl.Row]"], unfollowed := true, recurses := true, apart := false, narrowed := true }
def FnWorldEventsUptoSaid : Prop := fnWorldEventsUptoRow.holds Tryz.pinned (OpenSpec.upto fnWorldEventsSpec)

end Rows
end Go.Proofs.YtckdhcbbgmiccaaGreat
