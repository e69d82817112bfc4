/-
  DERIVED. GIVEN WITH THE SEED: THE CARDS: each row of YtkeeppclihjlhaaGreatDoorRows.lean that lists a variable, with what it lists TIED to the program's text (the seventh form; the later family's looks); each row that meets fmt, with fmt's text TOLD by the authors' own Lean function (tested against real Go, not proved from fmt's source: count such statements apart). THE CARD IS WHAT COUNTS. Prove the row's statement (the work); the ties are given (YtkeeppclihjlhaaGreatDoorTie.lean); close each card by the builder's one call (the guide's Derived/Test/ToyasCard.lean, 'card_holds'). Laid BY PROGRAM, IN A SANDBOX (cutbox-door.mjs). By AI agents, Wed Nov 11 2026. No macro, syntax, notation, axiom, sorry.
-/
import Derived.Test.YtkeeppclihjlhaaGreatDoorRows
import GoSem.ClaimSeven
namespace Go.Proofs.YtkeeppclihjlhaaGreatDoor
namespace Rows

/-- THE TIED CARD OF 'provenderlaw9.PolicyChecksMatchSpec'. -/
def policyChecksMatchSpecCard : Claim7 := { stood := { row := policyChecksMatchSpecRow, standIns := [], harness := (true, "c30285a5ccbfcc7599bbba8c294361c6c23a2f30bdf1453afd5fdde6eb217e1a"), looks := true }, kinds := [], alts := [], laidByText := true, laidKinds := [.data, .data, .data, .sentinel, .sentinel], laidTests := true, laidLooks := .later }
def PolicyChecksMatchSpecCardSaid : Prop := Claim7.holds Tryz.pinned (.plain (OpenSpec.ofChange policyChecksMatchSpecSpec)) policyChecksMatchSpecCard

/-- THE TIED CARD OF 'provenderlaw9.PolicyWaiversOnlyLower'. -/
def policyWaiversOnlyLowerCard : Claim7 := { stood := { row := policyWaiversOnlyLowerRow, standIns := [], harness := (true, "c30285a5ccbfcc7599bbba8c294361c6c23a2f30bdf1453afd5fdde6eb217e1a"), looks := true }, kinds := [], alts := [], laidByText := true, laidKinds := [.data, .data, .data, .sentinel, .sentinel], laidTests := true, laidLooks := .later }
def PolicyWaiversOnlyLowerCardSaid : Prop := Claim7.holds Tryz.pinned (.plain (OpenSpec.ofChange policyWaiversOnlyLowerSpec)) policyWaiversOnlyLowerCard

/-- THE TIED CARD OF 'provenderlaw9.PolicyDecideMatchesSpec'. -/
def policyDecideMatchesSpecCard : Claim7 := { stood := { row := policyDecideMatchesSpecRow, standIns := [], harness := (true, "c30285a5ccbfcc7599bbba8c294361c6c23a2f30bdf1453afd5fdde6eb217e1a"), looks := true }, kinds := [], alts := [], laidByText := true, laidKinds := [.data, .data, .data, .sentinel, .sentinel], laidTests := true, laidLooks := .later }
def PolicyDecideMatchesSpecCardSaid : Prop := Claim7.holds Tryz.pinned (.plain (OpenSpec.ofChange policyDecideMatchesSpecSpec)) policyDecideMatchesSpecCard

/-- THE TIED CARD OF 'provenderlaw9.PolicyChangesMatchSpec'. -/
def policyChangesMatchSpecCard : Claim7 := { stood := { row := policyChangesMatchSpecRow, standIns := [], harness := (true, "c30285a5ccbfcc7599bbba8c294361c6c23a2f30bdf1453afd5fdde6eb217e1a"), looks := true }, kinds := [], alts := [], laidByText := true, laidKinds := [.data, .data, .data, .sentinel, .sentinel], laidTests := true, laidLooks := .later }
def PolicyChangesMatchSpecCardSaid : Prop := Claim7.holds Tryz.pinned (.plain (OpenSpec.ofChange policyChangesMatchSpecSpec)) policyChangesMatchSpecCard

/-- THE TIED CARD OF 'provenderlaw9.PolicyStaleOnesAreIdle'. -/
def policyStaleOnesAreIdleCard : Claim7 := { stood := { row := policyStaleOnesAreIdleRow, standIns := [], harness := (true, "c30285a5ccbfcc7599bbba8c294361c6c23a2f30bdf1453afd5fdde6eb217e1a"), looks := true }, kinds := [], alts := [], laidByText := true, laidKinds := [.data, .data, .data, .sentinel, .sentinel], laidTests := true, laidLooks := .later }
def PolicyStaleOnesAreIdleCardSaid : Prop := Claim7.holds Tryz.pinned (.plain (OpenSpec.ofChange policyStaleOnesAreIdleSpec)) policyStaleOnesAreIdleCard

/-- THE SECOND FORM's CARD OF 'provenderlaw9.PolicyChecksMatchSpec'. -/
def policyChecksMatchSpecUptoCard : Claim7 := { stood := { row := policyChecksMatchSpecUptoRow, standIns := [], harness := (true, "c30285a5ccbfcc7599bbba8c294361c6c23a2f30bdf1453afd5fdde6eb217e1a"), looks := true }, kinds := [], alts := [], laidByText := true, laidKinds := [.data, .data, .data, .sentinel, .sentinel], laidTests := true, laidLooks := .later }
def PolicyChecksMatchSpecUptoCardSaid : Prop := Claim7.holds Tryz.pinned (.plain (OpenSpec.upto policyChecksMatchSpecSpec)) policyChecksMatchSpecUptoCard

/-- THE SECOND FORM's CARD OF 'provenderlaw9.PolicyWaiversOnlyLower'. -/
def policyWaiversOnlyLowerUptoCard : Claim7 := { stood := { row := policyWaiversOnlyLowerUptoRow, standIns := [], harness := (true, "c30285a5ccbfcc7599bbba8c294361c6c23a2f30bdf1453afd5fdde6eb217e1a"), looks := true }, kinds := [], alts := [], laidByText := true, laidKinds := [.data, .data, .data, .sentinel, .sentinel], laidTests := true, laidLooks := .later }
def PolicyWaiversOnlyLowerUptoCardSaid : Prop := Claim7.holds Tryz.pinned (.plain (OpenSpec.upto policyWaiversOnlyLowerSpec)) policyWaiversOnlyLowerUptoCard

/-- THE SECOND FORM's CARD OF 'provenderlaw9.PolicyDecideMatchesSpec'. -/
def policyDecideMatchesSpecUptoCard : Claim7 := { stood := { row := policyDecideMatchesSpecUptoRow, standIns := [], harness := (true, "c30285a5ccbfcc7599bbba8c294361c6c23a2f30bdf1453afd5fdde6eb217e1a"), looks := true }, kinds := [], alts := [], laidByText := true, laidKinds := [.data, .data, .data, .sentinel, .sentinel], laidTests := true, laidLooks := .later }
def PolicyDecideMatchesSpecUptoCardSaid : Prop := Claim7.holds Tryz.pinned (.plain (OpenSpec.upto policyDecideMatchesSpecSpec)) policyDecideMatchesSpecUptoCard

/-- THE SECOND FORM's CARD OF 'provenderlaw9.PolicyChangesMatchSpec'. -/
def policyChangesMatchSpecUptoCard : Claim7 := { stood := { row := policyChangesMatchSpecUptoRow, standIns := [], harness := (true, "c30285a5ccbfcc7599bbba8c294361c6c23a2f30bdf1453afd5fdde6eb217e1a"), looks := true }, kinds := [], alts := [], laidByText := true, laidKinds := [.data, .data, .data, .sentinel, .sentinel], laidTests := true, laidLooks := .later }
def PolicyChangesMatchSpecUptoCardSaid : Prop := Claim7.holds Tryz.pinned (.plain (OpenSpec.upto policyChangesMatchSpecSpec)) policyChangesMatchSpecUptoCard

/-- THE SECOND FORM's CARD OF 'provenderlaw9.PolicyStaleOnesAreIdle'. -/
def policyStaleOnesAreIdleUptoCard : Claim7 := { stood := { row := policyStaleOnesAreIdleUptoRow, standIns := [], harness := (true, "c30285a5ccbfcc7599bbba8c294361c6c23a2f30bdf1453afd5fdde6eb217e1a"), looks := true }, kinds := [], alts := [], laidByText := true, laidKinds := [.data, .data, .data, .sentinel, .sentinel], laidTests := true, laidLooks := .later }
def PolicyStaleOnesAreIdleUptoCardSaid : Prop := Claim7.holds Tryz.pinned (.plain (OpenSpec.upto policyStaleOnesAreIdleSpec)) policyStaleOnesAreIdleUptoCard
end Rows
end Go.Proofs.YtkeeppclihjlhaaGreatDoor
