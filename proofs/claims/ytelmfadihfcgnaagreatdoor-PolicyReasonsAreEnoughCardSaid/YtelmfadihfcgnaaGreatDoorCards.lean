/-
  DERIVED. GIVEN WITH THE SEED: THE CARDS: each row of YtelmfadihfcgnaaGreatDoorRows.lean that lists a variable, with what it lists TIED to the program's text (the seventh form; the later family's looks); each row that meets fmt, with fmt's text TOLD by the authors' own Lean function (tested against real Go, not proved from fmt's source: count such statements apart). THE CARD IS WHAT COUNTS. Prove the row's statement (the work); the ties are given (YtelmfadihfcgnaaGreatDoorTie.lean); close each card by the builder's one call (the guide's Derived/Test/ToyasCard.lean, 'card_holds'). Laid BY PROGRAM, IN A SANDBOX (cutbox-door.mjs). By AI agents, Wed Nov 11 2026. No macro, syntax, notation, axiom, sorry.
-/
import Derived.Test.YtelmfadihfcgnaaGreatDoorRows
import GoSem.ClaimSeven
namespace Go.Proofs.YtelmfadihfcgnaaGreatDoor
namespace Rows

/-- THE TIED CARD OF 'provenderlaw9.PolicyExampleIsOne'. -/
def policyExampleIsOneCard : Claim7 := { stood := { row := policyExampleIsOneRow, standIns := [], harness := (true, "c967bf1a43de598d8b2392c6185dfd3e623573f59fbf8f45544c1465eaa1aa86"), looks := true }, kinds := [], alts := [], laidByText := true, laidKinds := [.data, .data, .data, .sentinel, .sentinel], laidTests := true, laidLooks := .later }
def PolicyExampleIsOneCardSaid : Prop := Claim7.holds Tryz.pinned (.plain (OpenSpec.ofChange policyExampleIsOneSpec)) policyExampleIsOneCard

/-- THE TIED CARD OF 'provenderlaw9.PolicyReasonsMatchSpec'. -/
def policyReasonsMatchSpecCard : Claim7 := { stood := { row := policyReasonsMatchSpecRow, standIns := [], harness := (true, "c967bf1a43de598d8b2392c6185dfd3e623573f59fbf8f45544c1465eaa1aa86"), looks := true }, kinds := [], alts := [], laidByText := true, laidKinds := [.data, .data, .data, .sentinel, .sentinel], laidTests := true, laidLooks := .later }
def PolicyReasonsMatchSpecCardSaid : Prop := Claim7.holds Tryz.pinned (.plain (OpenSpec.ofChange policyReasonsMatchSpecSpec)) policyReasonsMatchSpecCard

/-- THE TIED CARD OF 'provenderlaw9.PolicyDeadOnesDecideNothing'. -/
def policyDeadOnesDecideNothingCard : Claim7 := { stood := { row := policyDeadOnesDecideNothingRow, standIns := [], harness := (true, "c967bf1a43de598d8b2392c6185dfd3e623573f59fbf8f45544c1465eaa1aa86"), looks := true }, kinds := [], alts := [], laidByText := true, laidKinds := [.data, .data, .data, .sentinel, .sentinel], laidTests := true, laidLooks := .later }
def PolicyDeadOnesDecideNothingCardSaid : Prop := Claim7.holds Tryz.pinned (.plain (OpenSpec.ofChange policyDeadOnesDecideNothingSpec)) policyDeadOnesDecideNothingCard

/-- THE TIED CARD OF 'provenderlaw9.PolicyDeadMatchesSpec'. -/
def policyDeadMatchesSpecCard : Claim7 := { stood := { row := policyDeadMatchesSpecRow, standIns := [], harness := (true, "c967bf1a43de598d8b2392c6185dfd3e623573f59fbf8f45544c1465eaa1aa86"), looks := true }, kinds := [], alts := [], laidByText := true, laidKinds := [.data, .data, .data, .sentinel, .sentinel], laidTests := true, laidLooks := .later }
def PolicyDeadMatchesSpecCardSaid : Prop := Claim7.holds Tryz.pinned (.plain (OpenSpec.ofChange policyDeadMatchesSpecSpec)) policyDeadMatchesSpecCard

/-- THE TIED CARD OF 'provenderlaw9.PolicyDifferIsRight'. -/
def policyDifferIsRightCard : Claim7 := { stood := { row := policyDifferIsRightRow, standIns := [], harness := (true, "c967bf1a43de598d8b2392c6185dfd3e623573f59fbf8f45544c1465eaa1aa86"), looks := true }, kinds := [], alts := [], laidByText := true, laidKinds := [.data, .data, .data, .sentinel, .sentinel], laidTests := true, laidLooks := .later }
def PolicyDifferIsRightCardSaid : Prop := Claim7.holds Tryz.pinned (.plain (OpenSpec.ofChange policyDifferIsRightSpec)) policyDifferIsRightCard

/-- THE TIED CARD OF 'provenderlaw9.PolicyReasonsAreEnough'. -/
def policyReasonsAreEnoughCard : Claim7 := { stood := { row := policyReasonsAreEnoughRow, standIns := [], harness := (true, "c967bf1a43de598d8b2392c6185dfd3e623573f59fbf8f45544c1465eaa1aa86"), looks := true }, kinds := [], alts := [], laidByText := true, laidKinds := [.data, .data, .data, .sentinel, .sentinel], laidTests := true, laidLooks := .later }
def PolicyReasonsAreEnoughCardSaid : Prop := Claim7.holds Tryz.pinned (.plain (OpenSpec.ofChange policyReasonsAreEnoughSpec)) policyReasonsAreEnoughCard

/-- THE SECOND FORM's CARD OF 'provenderlaw9.PolicyExampleIsOne'. -/
def policyExampleIsOneUptoCard : Claim7 := { stood := { row := policyExampleIsOneUptoRow, standIns := [], harness := (true, "c967bf1a43de598d8b2392c6185dfd3e623573f59fbf8f45544c1465eaa1aa86"), looks := true }, kinds := [], alts := [], laidByText := true, laidKinds := [.data, .data, .data, .sentinel, .sentinel], laidTests := true, laidLooks := .later }
def PolicyExampleIsOneUptoCardSaid : Prop := Claim7.holds Tryz.pinned (.plain (OpenSpec.upto policyExampleIsOneSpec)) policyExampleIsOneUptoCard

/-- THE SECOND FORM's CARD OF 'provenderlaw9.PolicyReasonsMatchSpec'. -/
def policyReasonsMatchSpecUptoCard : Claim7 := { stood := { row := policyReasonsMatchSpecUptoRow, standIns := [], harness := (true, "c967bf1a43de598d8b2392c6185dfd3e623573f59fbf8f45544c1465eaa1aa86"), looks := true }, kinds := [], alts := [], laidByText := true, laidKinds := [.data, .data, .data, .sentinel, .sentinel], laidTests := true, laidLooks := .later }
def PolicyReasonsMatchSpecUptoCardSaid : Prop := Claim7.holds Tryz.pinned (.plain (OpenSpec.upto policyReasonsMatchSpecSpec)) policyReasonsMatchSpecUptoCard

/-- THE SECOND FORM's CARD OF 'provenderlaw9.PolicyDeadOnesDecideNothing'. -/
def policyDeadOnesDecideNothingUptoCard : Claim7 := { stood := { row := policyDeadOnesDecideNothingUptoRow, standIns := [], harness := (true, "c967bf1a43de598d8b2392c6185dfd3e623573f59fbf8f45544c1465eaa1aa86"), looks := true }, kinds := [], alts := [], laidByText := true, laidKinds := [.data, .data, .data, .sentinel, .sentinel], laidTests := true, laidLooks := .later }
def PolicyDeadOnesDecideNothingUptoCardSaid : Prop := Claim7.holds Tryz.pinned (.plain (OpenSpec.upto policyDeadOnesDecideNothingSpec)) policyDeadOnesDecideNothingUptoCard

/-- THE SECOND FORM's CARD OF 'provenderlaw9.PolicyDeadMatchesSpec'. -/
def policyDeadMatchesSpecUptoCard : Claim7 := { stood := { row := policyDeadMatchesSpecUptoRow, standIns := [], harness := (true, "c967bf1a43de598d8b2392c6185dfd3e623573f59fbf8f45544c1465eaa1aa86"), looks := true }, kinds := [], alts := [], laidByText := true, laidKinds := [.data, .data, .data, .sentinel, .sentinel], laidTests := true, laidLooks := .later }
def PolicyDeadMatchesSpecUptoCardSaid : Prop := Claim7.holds Tryz.pinned (.plain (OpenSpec.upto policyDeadMatchesSpecSpec)) policyDeadMatchesSpecUptoCard

/-- THE SECOND FORM's CARD OF 'provenderlaw9.PolicyDifferIsRight'. -/
def policyDifferIsRightUptoCard : Claim7 := { stood := { row := policyDifferIsRightUptoRow, standIns := [], harness := (true, "c967bf1a43de598d8b2392c6185dfd3e623573f59fbf8f45544c1465eaa1aa86"), looks := true }, kinds := [], alts := [], laidByText := true, laidKinds := [.data, .data, .data, .sentinel, .sentinel], laidTests := true, laidLooks := .later }
def PolicyDifferIsRightUptoCardSaid : Prop := Claim7.holds Tryz.pinned (.plain (OpenSpec.upto policyDifferIsRightSpec)) policyDifferIsRightUptoCard

/-- THE SECOND FORM's CARD OF 'provenderlaw9.PolicyReasonsAreEnough'. -/
def policyReasonsAreEnoughUptoCard : Claim7 := { stood := { row := policyReasonsAreEnoughUptoRow, standIns := [], harness := (true, "c967bf1a43de598d8b2392c6185dfd3e623573f59fbf8f45544c1465eaa1aa86"), looks := true }, kinds := [], alts := [], laidByText := true, laidKinds := [.data, .data, .data, .sentinel, .sentinel], laidTests := true, laidLooks := .later }
def PolicyReasonsAreEnoughUptoCardSaid : Prop := Claim7.holds Tryz.pinned (.plain (OpenSpec.upto policyReasonsAreEnoughSpec)) policyReasonsAreEnoughUptoCard
end Rows
end Go.Proofs.YtelmfadihfcgnaaGreatDoor
