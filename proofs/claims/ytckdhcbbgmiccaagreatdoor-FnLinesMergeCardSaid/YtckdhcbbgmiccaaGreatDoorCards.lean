/-
  DERIVED. GIVEN WITH THE SEED: THE CARDS: each row of YtckdhcbbgmiccaaGreatDoorRows.lean that lists a variable, with what it lists TIED to the program's text (the seventh form; the later family's looks); each row that meets fmt, with fmt's text TOLD by the authors' own Lean function (tested against real Go, not proved from fmt's source: count such statements apart). THE CARD IS WHAT COUNTS. Prove the row's statement (the work); the ties are given (YtckdhcbbgmiccaaGreatDoorTie.lean); close each card by the builder's one call (the guide's Derived/Test/ToyasCard.lean, 'card_holds'). Laid BY PROGRAM, IN A SANDBOX (cutbox-door.mjs). By AI agents, Wed Nov 11 2026. No macro, syntax, notation, axiom, sorry.
-/
import Derived.Test.YtckdhcbbgmiccaaGreatDoorRows
import GoSem.ClaimSeven
namespace Go.Proofs.YtckdhcbbgmiccaaGreatDoor
namespace Rows

/-- THE TIED CARD OF 'laws.FnLinesRun'. -/
def fnLinesRunCard : Claim7 := { stood := { row := fnLinesRunRow, standIns := [], harness := (true, "6e6f94bb9d6061f81d3699de274a8bc122ba6f358ffedbf4f53e9782dddbbef7"), looks := true }, kinds := [], alts := [], laidByText := true, laidKinds := [.data, .data, .data, .data, .sentinel, .sentinel, .pinned], laidTests := true, laidLooks := .later }
def FnLinesRunCardSaid : Prop := Claim7.holds Tryz.pinned (.plain (OpenSpec.ofChange fnLinesRunSpec)) fnLinesRunCard

/-- THE TIED CARD OF 'laws.FnLinesQuiet'. -/
def fnLinesQuietCard : Claim7 := { stood := { row := fnLinesQuietRow, standIns := [], harness := (true, "6e6f94bb9d6061f81d3699de274a8bc122ba6f358ffedbf4f53e9782dddbbef7"), looks := true }, kinds := [], alts := [], laidByText := true, laidKinds := [.data, .data, .data, .data, .sentinel, .sentinel, .pinned], laidTests := true, laidLooks := .later }
def FnLinesQuietCardSaid : Prop := Claim7.holds Tryz.pinned (.plain (OpenSpec.ofChange fnLinesQuietSpec)) fnLinesQuietCard

/-- THE TIED CARD OF 'laws.FnLinesNone'. -/
def fnLinesNoneCard : Claim7 := { stood := { row := fnLinesNoneRow, standIns := [], harness := (true, "6e6f94bb9d6061f81d3699de274a8bc122ba6f358ffedbf4f53e9782dddbbef7"), looks := true }, kinds := [], alts := [], laidByText := true, laidKinds := [.data, .data, .data, .data, .sentinel, .sentinel, .pinned], laidTests := true, laidLooks := .later }
def FnLinesNoneCardSaid : Prop := Claim7.holds Tryz.pinned (.plain (OpenSpec.ofChange fnLinesNoneSpec)) fnLinesNoneCard

/-- THE TIED CARD OF 'laws.FnLinesAdd'. -/
def fnLinesAddCard : Claim7 := { stood := { row := fnLinesAddRow, standIns := [], harness := (true, "6e6f94bb9d6061f81d3699de274a8bc122ba6f358ffedbf4f53e9782dddbbef7"), looks := true }, kinds := [], alts := [], laidByText := true, laidKinds := [.data, .data, .data, .data, .sentinel, .sentinel, .pinned], laidTests := true, laidLooks := .later }
def FnLinesAddCardSaid : Prop := Claim7.holds Tryz.pinned (.plain (OpenSpec.ofChange fnLinesAddSpec)) fnLinesAddCard

/-- THE TIED CARD OF 'laws.FnLinesFall'. -/
def fnLinesFallCard : Claim7 := { stood := { row := fnLinesFallRow, standIns := [], harness := (true, "6e6f94bb9d6061f81d3699de274a8bc122ba6f358ffedbf4f53e9782dddbbef7"), looks := true }, kinds := [], alts := [], laidByText := true, laidKinds := [.data, .data, .data, .data, .sentinel, .sentinel, .pinned], laidTests := true, laidLooks := .later }
def FnLinesFallCardSaid : Prop := Claim7.holds Tryz.pinned (.plain (OpenSpec.ofChange fnLinesFallSpec)) fnLinesFallCard

/-- THE TIED CARD OF 'laws.FnLinesFlush'. -/
def fnLinesFlushCard : Claim7 := { stood := { row := fnLinesFlushRow, standIns := [], harness := (true, "6e6f94bb9d6061f81d3699de274a8bc122ba6f358ffedbf4f53e9782dddbbef7"), looks := true }, kinds := [], alts := [], laidByText := true, laidKinds := [.data, .data, .data, .data, .sentinel, .sentinel, .pinned], laidTests := true, laidLooks := .later }
def FnLinesFlushCardSaid : Prop := Claim7.holds Tryz.pinned (.plain (OpenSpec.ofChange fnLinesFlushSpec)) fnLinesFlushCard

/-- THE TIED CARD OF 'laws.FnLinesMerge'. -/
def fnLinesMergeCard : Claim7 := { stood := { row := fnLinesMergeRow, standIns := [], harness := (true, "6e6f94bb9d6061f81d3699de274a8bc122ba6f358ffedbf4f53e9782dddbbef7"), looks := true }, kinds := [], alts := [], laidByText := true, laidKinds := [.data, .data, .data, .data, .sentinel, .sentinel, .pinned], laidTests := true, laidLooks := .later }
def FnLinesMergeCardSaid : Prop := Claim7.holds Tryz.pinned (.plain (OpenSpec.ofChange fnLinesMergeSpec)) fnLinesMergeCard

/-- THE SECOND FORM's CARD OF 'laws.FnLinesRun'. -/
def fnLinesRunUptoCard : Claim7 := { stood := { row := fnLinesRunUptoRow, standIns := [], harness := (true, "6e6f94bb9d6061f81d3699de274a8bc122ba6f358ffedbf4f53e9782dddbbef7"), looks := true }, kinds := [], alts := [], laidByText := true, laidKinds := [.data, .data, .data, .data, .sentinel, .sentinel, .pinned], laidTests := true, laidLooks := .later }
def FnLinesRunUptoCardSaid : Prop := Claim7.holds Tryz.pinned (.plain (OpenSpec.upto fnLinesRunSpec)) fnLinesRunUptoCard

/-- THE SECOND FORM's CARD OF 'laws.FnLinesQuiet'. -/
def fnLinesQuietUptoCard : Claim7 := { stood := { row := fnLinesQuietUptoRow, standIns := [], harness := (true, "6e6f94bb9d6061f81d3699de274a8bc122ba6f358ffedbf4f53e9782dddbbef7"), looks := true }, kinds := [], alts := [], laidByText := true, laidKinds := [.data, .data, .data, .data, .sentinel, .sentinel, .pinned], laidTests := true, laidLooks := .later }
def FnLinesQuietUptoCardSaid : Prop := Claim7.holds Tryz.pinned (.plain (OpenSpec.upto fnLinesQuietSpec)) fnLinesQuietUptoCard

/-- THE SECOND FORM's CARD OF 'laws.FnLinesNone'. -/
def fnLinesNoneUptoCard : Claim7 := { stood := { row := fnLinesNoneUptoRow, standIns := [], harness := (true, "6e6f94bb9d6061f81d3699de274a8bc122ba6f358ffedbf4f53e9782dddbbef7"), looks := true }, kinds := [], alts := [], laidByText := true, laidKinds := [.data, .data, .data, .data, .sentinel, .sentinel, .pinned], laidTests := true, laidLooks := .later }
def FnLinesNoneUptoCardSaid : Prop := Claim7.holds Tryz.pinned (.plain (OpenSpec.upto fnLinesNoneSpec)) fnLinesNoneUptoCard

/-- THE SECOND FORM's CARD OF 'laws.FnLinesAdd'. -/
def fnLinesAddUptoCard : Claim7 := { stood := { row := fnLinesAddUptoRow, standIns := [], harness := (true, "6e6f94bb9d6061f81d3699de274a8bc122ba6f358ffedbf4f53e9782dddbbef7"), looks := true }, kinds := [], alts := [], laidByText := true, laidKinds := [.data, .data, .data, .data, .sentinel, .sentinel, .pinned], laidTests := true, laidLooks := .later }
def FnLinesAddUptoCardSaid : Prop := Claim7.holds Tryz.pinned (.plain (OpenSpec.upto fnLinesAddSpec)) fnLinesAddUptoCard

/-- THE SECOND FORM's CARD OF 'laws.FnLinesFall'. -/
def fnLinesFallUptoCard : Claim7 := { stood := { row := fnLinesFallUptoRow, standIns := [], harness := (true, "6e6f94bb9d6061f81d3699de274a8bc122ba6f358ffedbf4f53e9782dddbbef7"), looks := true }, kinds := [], alts := [], laidByText := true, laidKinds := [.data, .data, .data, .data, .sentinel, .sentinel, .pinned], laidTests := true, laidLooks := .later }
def FnLinesFallUptoCardSaid : Prop := Claim7.holds Tryz.pinned (.plain (OpenSpec.upto fnLinesFallSpec)) fnLinesFallUptoCard

/-- THE SECOND FORM's CARD OF 'laws.FnLinesFlush'. -/
def fnLinesFlushUptoCard : Claim7 := { stood := { row := fnLinesFlushUptoRow, standIns := [], harness := (true, "6e6f94bb9d6061f81d3699de274a8bc122ba6f358ffedbf4f53e9782dddbbef7"), looks := true }, kinds := [], alts := [], laidByText := true, laidKinds := [.data, .data, .data, .data, .sentinel, .sentinel, .pinned], laidTests := true, laidLooks := .later }
def FnLinesFlushUptoCardSaid : Prop := Claim7.holds Tryz.pinned (.plain (OpenSpec.upto fnLinesFlushSpec)) fnLinesFlushUptoCard

/-- THE SECOND FORM's CARD OF 'laws.FnLinesMerge'. -/
def fnLinesMergeUptoCard : Claim7 := { stood := { row := fnLinesMergeUptoRow, standIns := [], harness := (true, "6e6f94bb9d6061f81d3699de274a8bc122ba6f358ffedbf4f53e9782dddbbef7"), looks := true }, kinds := [], alts := [], laidByText := true, laidKinds := [.data, .data, .data, .data, .sentinel, .sentinel, .pinned], laidTests := true, laidLooks := .later }
def FnLinesMergeUptoCardSaid : Prop := Claim7.holds Tryz.pinned (.plain (OpenSpec.upto fnLinesMergeSpec)) fnLinesMergeUptoCard
end Rows
end Go.Proofs.YtckdhcbbgmiccaaGreatDoor
