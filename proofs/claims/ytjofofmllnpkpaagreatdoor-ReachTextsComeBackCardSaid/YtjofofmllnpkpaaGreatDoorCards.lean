/-
  DERIVED. GIVEN WITH THE SEED: THE CARDS: each row of YtjofofmllnpkpaaGreatDoorRows.lean that lists a variable, with what it lists TIED to the program's text (the seventh form; the later family's looks); each row that meets fmt, with fmt's text TOLD by the authors' own Lean function (tested against real Go, not proved from fmt's source: count such statements apart). THE CARD IS WHAT COUNTS. Prove the row's statement (the work); the ties are given (YtjofofmllnpkpaaGreatDoorTie.lean); close each card by the builder's one call (the guide's Derived/Test/ToyasCard.lean, 'card_holds'). Laid BY PROGRAM, IN A SANDBOX (cutbox-door.mjs). By AI agents, Wed Nov 11 2026. No macro, syntax, notation, axiom, sorry.
-/
import Derived.Test.YtjofofmllnpkpaaGreatDoorRows
import GoSem.ClaimSeven
namespace Go.Proofs.YtjofofmllnpkpaaGreatDoor
namespace Rows

/-- THE TIED CARD OF 'provenderlaw6.ReachReadMatchesSpec'. -/
def reachReadMatchesSpecCard : Claim7 := { stood := { row := reachReadMatchesSpecRow, standIns := [], harness := (true, "9829fc9a06d0605b16e46edda339a54909b3b9a3c01797af20ef760610c3a789"), looks := false }, kinds := [], alts := [], laidByText := true, laidKinds := [.data, .pinned], laidTests := true, laidLooks := .later }
def ReachReadMatchesSpecCardSaid : Prop := Claim7.holds Tryz.pinned (.plain (OpenSpec.ofChange reachReadMatchesSpecSpec)) reachReadMatchesSpecCard

/-- THE TIED CARD OF 'provenderlaw6.ReachTextsComeBack'. -/
def reachTextsComeBackCard : Claim7 := { stood := { row := reachTextsComeBackRow, standIns := [], harness := (true, "9829fc9a06d0605b16e46edda339a54909b3b9a3c01797af20ef760610c3a789"), looks := false }, kinds := [], alts := [], laidByText := true, laidKinds := [.data, .pinned], laidTests := true, laidLooks := .later }
def ReachTextsComeBackCardSaid : Prop := Claim7.holds Tryz.pinned (.plain (OpenSpec.ofChange reachTextsComeBackSpec)) reachTextsComeBackCard

/-- THE SECOND FORM's CARD OF 'provenderlaw6.ReachReadMatchesSpec'. -/
def reachReadMatchesSpecUptoCard : Claim7 := { stood := { row := reachReadMatchesSpecUptoRow, standIns := [], harness := (true, "9829fc9a06d0605b16e46edda339a54909b3b9a3c01797af20ef760610c3a789"), looks := false }, kinds := [], alts := [], laidByText := true, laidKinds := [.data, .pinned], laidTests := true, laidLooks := .later }
def ReachReadMatchesSpecUptoCardSaid : Prop := Claim7.holds Tryz.pinned (.plain (OpenSpec.upto reachReadMatchesSpecSpec)) reachReadMatchesSpecUptoCard

/-- THE SECOND FORM's CARD OF 'provenderlaw6.ReachTextsComeBack'. -/
def reachTextsComeBackUptoCard : Claim7 := { stood := { row := reachTextsComeBackUptoRow, standIns := [], harness := (true, "9829fc9a06d0605b16e46edda339a54909b3b9a3c01797af20ef760610c3a789"), looks := false }, kinds := [], alts := [], laidByText := true, laidKinds := [.data, .pinned], laidTests := true, laidLooks := .later }
def ReachTextsComeBackUptoCardSaid : Prop := Claim7.holds Tryz.pinned (.plain (OpenSpec.upto reachTextsComeBackSpec)) reachTextsComeBackUptoCard
end Rows
end Go.Proofs.YtjofofmllnpkpaaGreatDoor
