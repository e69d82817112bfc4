/-
  DERIVED. GIVEN WITH THE SEED: THE CARDS: each row of YtppfkkkifdbnaaaGreatDoorRows.lean that lists a variable, with what it lists TIED to the program's text (the seventh form; the later family's looks); each row that meets fmt, with fmt's text TOLD by the authors' own Lean function (tested against real Go, not proved from fmt's source: count such statements apart). THE CARD IS WHAT COUNTS. Prove the row's statement (the work); the ties are given (YtppfkkkifdbnaaaGreatDoorTie.lean); close each card by the builder's one call (the guide's Derived/Test/ToyasCard.lean, 'card_holds'). Laid BY PROGRAM, IN A SANDBOX (cutbox-door.mjs). By AI agents, Wed Nov 11 2026. No macro, syntax, notation, axiom, sorry.
-/
import Derived.Test.YtppfkkkifdbnaaaGreatDoorRows
import GoSem.ClaimSeven
namespace Go.Proofs.YtppfkkkifdbnaaaGreatDoor
namespace Rows

/-- THE TIED CARD OF 'provenderlaw9.PolicyTextsComeBack'. -/
def policyTextsComeBackCard : Claim7 := { stood := { row := policyTextsComeBackRow, standIns := [], harness := (true, "5e2006e8a9c96e3604edb19295975e9240600cb14246572c555ee865e7ce801f"), looks := true }, kinds := [], alts := [], laidByText := true, laidKinds := [.data, .data, .data, .sentinel, .sentinel], laidTests := true, laidLooks := .later }
def PolicyTextsComeBackCardSaid : Prop := Claim7.holds Tryz.pinned (.plain (OpenSpec.ofChange policyTextsComeBackSpec)) policyTextsComeBackCard

/-- THE SECOND FORM's CARD OF 'provenderlaw9.PolicyTextsComeBack'. -/
def policyTextsComeBackUptoCard : Claim7 := { stood := { row := policyTextsComeBackUptoRow, standIns := [], harness := (true, "5e2006e8a9c96e3604edb19295975e9240600cb14246572c555ee865e7ce801f"), looks := true }, kinds := [], alts := [], laidByText := true, laidKinds := [.data, .data, .data, .sentinel, .sentinel], laidTests := true, laidLooks := .later }
def PolicyTextsComeBackUptoCardSaid : Prop := Claim7.holds Tryz.pinned (.plain (OpenSpec.upto policyTextsComeBackSpec)) policyTextsComeBackUptoCard
end Rows
end Go.Proofs.YtppfkkkifdbnaaaGreatDoor
