/-
  DERIVED. GIVEN WITH THE SEED: THE CARDS: each row of YtfninflnngpchaaGreatDoorRows.lean that lists a variable, with what it lists TIED to the program's text (the seventh form; the later family's looks); each row that meets fmt, with fmt's text TOLD by the authors' own Lean function (tested against real Go, not proved from fmt's source: count such statements apart). THE CARD IS WHAT COUNTS. Prove the row's statement (the work); the ties are given (YtfninflnngpchaaGreatDoorTie.lean); close each card by the builder's one call (the guide's Derived/Test/ToyasCard.lean, 'card_holds'). Laid BY PROGRAM, IN A SANDBOX (cutbox-door.mjs). By AI agents, Wed Nov 11 2026. No macro, syntax, notation, axiom, sorry.
-/
import Derived.Test.YtfninflnngpchaaGreatDoorRows
import GoSem.ClaimSeven
namespace Go.Proofs.YtfninflnngpchaaGreatDoor
namespace Rows

/-- THE TIED CARD OF 'laws.FnExactLinesRun'. -/
def fnExactLinesRunCard : Claim7 := { stood := { row := fnExactLinesRunRow, standIns := [], harness := (true, "4aea50b1b76f67576e1154ffdc67d131aaf7207cea8c5ff2b6e0ddf77acad124"), looks := true }, kinds := [], alts := [], laidByText := true, laidKinds := [.data, .data, .data, .data, .sentinel, .sentinel, .pinned], laidTests := true, laidLooks := .later }
def FnExactLinesRunCardSaid : Prop := Claim7.holds Tryz.pinned (.plain (OpenSpec.ofChange fnExactLinesRunSpec)) fnExactLinesRunCard

/-- THE SECOND FORM's CARD OF 'laws.FnExactLinesRun'. -/
def fnExactLinesRunUptoCard : Claim7 := { stood := { row := fnExactLinesRunUptoRow, standIns := [], harness := (true, "4aea50b1b76f67576e1154ffdc67d131aaf7207cea8c5ff2b6e0ddf77acad124"), looks := true }, kinds := [], alts := [], laidByText := true, laidKinds := [.data, .data, .data, .data, .sentinel, .sentinel, .pinned], laidTests := true, laidLooks := .later }
def FnExactLinesRunUptoCardSaid : Prop := Claim7.holds Tryz.pinned (.plain (OpenSpec.upto fnExactLinesRunSpec)) fnExactLinesRunUptoCard
end Rows
end Go.Proofs.YtfninflnngpchaaGreatDoor
