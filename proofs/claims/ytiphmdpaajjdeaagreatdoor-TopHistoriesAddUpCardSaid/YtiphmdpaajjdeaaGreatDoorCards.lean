/-
  DERIVED. GIVEN WITH THE SEED: THE CARDS: each row of YtiphmdpaajjdeaaGreatDoorRows.lean that lists a variable, with what it lists TIED to the program's text (the seventh form; the later family's looks); each row that meets fmt, with fmt's text TOLD by the authors' own Lean function (tested against real Go, not proved from fmt's source: count such statements apart). THE CARD IS WHAT COUNTS. Prove the row's statement (the work); the ties are given (YtiphmdpaajjdeaaGreatDoorTie.lean); close each card by the builder's one call (the guide's Derived/Test/ToyasCard.lean, 'card_holds'). Laid BY PROGRAM, IN A SANDBOX (cutbox-door.mjs). By AI agents, Wed Nov 11 2026. No macro, syntax, notation, axiom, sorry.
-/
import Derived.Test.YtiphmdpaajjdeaaGreatDoorRows
import GoSem.ClaimSeven
namespace Go.Proofs.YtiphmdpaajjdeaaGreatDoor
namespace Rows

/-- THE TIED CARD OF 'provendertop.TopHistoriesAddUp'. -/
def topHistoriesAddUpCard : Claim7 := { stood := { row := topHistoriesAddUpRow, standIns := [], harness := (true, "d04572bfc7bfab5dc20362a39d38d299a3f79b757363677db36f1e64f80654d0"), looks := true }, kinds := [], alts := [], laidByText := true, laidKinds := [.data, .pinned, .pinned], laidTests := true, laidLooks := .later }
def TopHistoriesAddUpCardSaid : Prop := Claim7.holds Tryz.pinned (.plain (OpenSpec.ofChange topHistoriesAddUpSpec)) topHistoriesAddUpCard

/-- THE TIED CARD OF 'provendertop.TopLogsOnlyGrow'. -/
def topLogsOnlyGrowCard : Claim7 := { stood := { row := topLogsOnlyGrowRow, standIns := [], harness := (true, "d04572bfc7bfab5dc20362a39d38d299a3f79b757363677db36f1e64f80654d0"), looks := true }, kinds := [], alts := [], laidByText := true, laidKinds := [.data, .data, .data, .data, .pinned, .pinned], laidTests := true, laidLooks := .later }
def TopLogsOnlyGrowCardSaid : Prop := Claim7.holds Tryz.pinned (.plain (OpenSpec.ofChange topLogsOnlyGrowSpec)) topLogsOnlyGrowCard

/-- THE SECOND FORM's CARD OF 'provendertop.TopHistoriesAddUp'. -/
def topHistoriesAddUpUptoCard : Claim7 := { stood := { row := topHistoriesAddUpUptoRow, standIns := [], harness := (true, "d04572bfc7bfab5dc20362a39d38d299a3f79b757363677db36f1e64f80654d0"), looks := true }, kinds := [], alts := [], laidByText := true, laidKinds := [.data, .pinned, .pinned], laidTests := true, laidLooks := .later }
def TopHistoriesAddUpUptoCardSaid : Prop := Claim7.holds Tryz.pinned (.plain (OpenSpec.upto topHistoriesAddUpSpec)) topHistoriesAddUpUptoCard

/-- THE SECOND FORM's CARD OF 'provendertop.TopLogsOnlyGrow'. -/
def topLogsOnlyGrowUptoCard : Claim7 := { stood := { row := topLogsOnlyGrowUptoRow, standIns := [], harness := (true, "d04572bfc7bfab5dc20362a39d38d299a3f79b757363677db36f1e64f80654d0"), looks := true }, kinds := [], alts := [], laidByText := true, laidKinds := [.data, .data, .data, .data, .pinned, .pinned], laidTests := true, laidLooks := .later }
def TopLogsOnlyGrowUptoCardSaid : Prop := Claim7.holds Tryz.pinned (.plain (OpenSpec.upto topLogsOnlyGrowSpec)) topLogsOnlyGrowUptoCard
end Rows
end Go.Proofs.YtiphmdpaajjdeaaGreatDoor
