/-
  DERIVED. GIVEN WITH THE SEED: THE CARDS: each row of YtgkplonohfnlhaaGreatDoorRows.lean that lists a variable, with what it lists TIED to the program's text (the seventh form; the later family's looks); each row that meets fmt, with fmt's text TOLD by the authors' own Lean function (tested against real Go, not proved from fmt's source: count such statements apart). THE CARD IS WHAT COUNTS. Prove the row's statement (the work); the ties are given (YtgkplonohfnlhaaGreatDoorTie.lean); close each card by the builder's one call (the guide's Derived/Test/ToyasCard.lean, 'card_holds'). Laid BY PROGRAM, IN A SANDBOX (cutbox-door.mjs). By AI agents, Wed Nov 11 2026. No macro, syntax, notation, axiom, sorry.
-/
import Derived.Test.YtgkplonohfnlhaaGreatDoorRows
import GoSem.ClaimSeven
namespace Go.Proofs.YtgkplonohfnlhaaGreatDoor
namespace Rows

/-- THE TIED CARD OF 'provenderlaw9.PolicyLevelsMatchSpec'. -/
def policyLevelsMatchSpecCard : Claim7 := { stood := { row := policyLevelsMatchSpecRow, standIns := [], harness := (true, "822f915f46fbb681fa5e201c9bb1adea28149ca2e73378961a2f8982262ed7bb"), looks := true }, kinds := [], alts := [], laidByText := true, laidKinds := [.data, .data, .data, .sentinel, .sentinel], laidTests := true, laidLooks := .later }
def PolicyLevelsMatchSpecCardSaid : Prop := Claim7.holds Tryz.pinned (.plain (OpenSpec.ofChange policyLevelsMatchSpecSpec)) policyLevelsMatchSpecCard

/-- THE SECOND FORM's CARD OF 'provenderlaw9.PolicyLevelsMatchSpec'. -/
def policyLevelsMatchSpecUptoCard : Claim7 := { stood := { row := policyLevelsMatchSpecUptoRow, standIns := [], harness := (true, "822f915f46fbb681fa5e201c9bb1adea28149ca2e73378961a2f8982262ed7bb"), looks := true }, kinds := [], alts := [], laidByText := true, laidKinds := [.data, .data, .data, .sentinel, .sentinel], laidTests := true, laidLooks := .later }
def PolicyLevelsMatchSpecUptoCardSaid : Prop := Claim7.holds Tryz.pinned (.plain (OpenSpec.upto policyLevelsMatchSpecSpec)) policyLevelsMatchSpecUptoCard
end Rows
end Go.Proofs.YtgkplonohfnlhaaGreatDoor
