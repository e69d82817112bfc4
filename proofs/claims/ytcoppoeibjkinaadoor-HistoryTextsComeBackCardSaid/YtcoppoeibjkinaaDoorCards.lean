/-
  DERIVED. GIVEN WITH THE SEED: THE CARDS: each row of YtcoppoeibjkinaaDoorRows.lean that lists a variable, with what it lists TIED to the program's text (the seventh form; the later family's looks); each row that meets fmt, with fmt's text TOLD by the authors' own Lean function (tested against real Go, not proved from fmt's source: count such statements apart). THE CARD IS WHAT COUNTS. Prove the row's statement (the work); the ties are given (YtcoppoeibjkinaaDoorTie.lean); close each card by the builder's one call (the guide's Derived/Test/ToyasCard.lean, 'card_holds'). Laid BY PROGRAM, IN A SANDBOX (cutbox-door.mjs). By AI agents, Wed Nov 11 2026. No macro, syntax, notation, axiom, sorry.
-/
import Derived.Test.YtcoppoeibjkinaaDoorRows
import GoSem.ClaimSeven
namespace Go.Proofs.YtcoppoeibjkinaaDoor
namespace Rows

/-- THE TIED CARD OF 'provenderlaw11.HistoryReadMatchesSpec'. -/
def historyReadMatchesSpecCard : Claim7 := { stood := { row := historyReadMatchesSpecRow, standIns := [], harness := (true, "72bcd28d064b9e7f4288fe06f1f04055b7436dbad1ebf13c2527687aaf1c83c8"), looks := true }, kinds := [], alts := [], laidByText := true, laidKinds := [.data, .data, .data, .data, .sentinel, .sentinel, .pinned], laidTests := true, laidLooks := .later }
def HistoryReadMatchesSpecCardSaid : Prop := Claim7.holds Tryd.pinned (.plain (OpenSpec.ofChange historyReadMatchesSpecSpec)) historyReadMatchesSpecCard

/-- THE TIED CARD OF 'provenderlaw11.HistoryTextsComeBack'. -/
def historyTextsComeBackCard : Claim7 := { stood := { row := historyTextsComeBackRow, standIns := [], harness := (true, "72bcd28d064b9e7f4288fe06f1f04055b7436dbad1ebf13c2527687aaf1c83c8"), looks := true }, kinds := [], alts := [], laidByText := true, laidKinds := [.data, .data, .data, .data, .sentinel, .sentinel, .pinned], laidTests := true, laidLooks := .later }
def HistoryTextsComeBackCardSaid : Prop := Claim7.holds Tryd.pinned (.plain (OpenSpec.ofChange historyTextsComeBackSpec)) historyTextsComeBackCard

/-- THE SECOND FORM's CARD OF 'provenderlaw11.HistoryReadMatchesSpec'. -/
def historyReadMatchesSpecUptoCard : Claim7 := { stood := { row := historyReadMatchesSpecUptoRow, standIns := [], harness := (true, "72bcd28d064b9e7f4288fe06f1f04055b7436dbad1ebf13c2527687aaf1c83c8"), looks := true }, kinds := [], alts := [], laidByText := true, laidKinds := [.data, .data, .data, .data, .sentinel, .sentinel, .pinned], laidTests := true, laidLooks := .later }
def HistoryReadMatchesSpecUptoCardSaid : Prop := Claim7.holds Tryd.pinned (.plain (OpenSpec.upto historyReadMatchesSpecSpec)) historyReadMatchesSpecUptoCard

/-- THE SECOND FORM's CARD OF 'provenderlaw11.HistoryTextsComeBack'. -/
def historyTextsComeBackUptoCard : Claim7 := { stood := { row := historyTextsComeBackUptoRow, standIns := [], harness := (true, "72bcd28d064b9e7f4288fe06f1f04055b7436dbad1ebf13c2527687aaf1c83c8"), looks := true }, kinds := [], alts := [], laidByText := true, laidKinds := [.data, .data, .data, .data, .sentinel, .sentinel, .pinned], laidTests := true, laidLooks := .later }
def HistoryTextsComeBackUptoCardSaid : Prop := Claim7.holds Tryd.pinned (.plain (OpenSpec.upto historyTextsComeBackSpec)) historyTextsComeBackUptoCard
end Rows
end Go.Proofs.YtcoppoeibjkinaaDoor
