/-
  DERIVED. GIVEN WITH THE SEED: THE CARDS: each row of YtihfhmibfhkoeaaDoorRows.lean that lists a variable, with what it lists TIED to the program's text (the seventh form; the later family's looks); each row that meets fmt, with fmt's text TOLD by the authors' own Lean function (tested against real Go, not proved from fmt's source: count such statements apart). THE CARD IS WHAT COUNTS. Prove the row's statement (the work); the ties are given (YtihfhmibfhkoeaaDoorTie.lean); close each card by the builder's one call (the guide's Derived/Test/ToyasCard.lean, 'card_holds'). Laid BY PROGRAM, IN A SANDBOX (cutbox-door.mjs). By AI agents, Wed Nov 11 2026. No macro, syntax, notation, axiom, sorry.
-/
import Derived.Test.YtihfhmibfhkoeaaDoorRows
import GoSem.ClaimSeven
namespace Go.Proofs.YtihfhmibfhkoeaaDoor
namespace Rows

/-- THE TIED CARD OF 'provenderlaw8.AttestKeysMatchSpec'. -/
def attestKeysMatchSpecCard : Claim7 := { stood := { row := attestKeysMatchSpecRow, standIns := [], harness := (true, "be09ffd0da2554ac74248d92f2679061df1c3e4ed4d11b2b37316c42a469319e"), looks := false }, kinds := [], alts := [], laidByText := true, laidKinds := [.data, .data, .data], laidTests := true, laidLooks := .later }
def AttestKeysMatchSpecCardSaid : Prop := Claim7.holds Tryd.pinned (.plain (OpenSpec.ofChange attestKeysMatchSpecSpec)) attestKeysMatchSpecCard

/-- THE TIED CARD OF 'provenderlaw8.AttestSignaturesHold'. -/
def attestSignaturesHoldCard : Claim7 := { stood := { row := attestSignaturesHoldRow, standIns := [], harness := (true, "be09ffd0da2554ac74248d92f2679061df1c3e4ed4d11b2b37316c42a469319e"), looks := false }, kinds := [], alts := [], laidByText := true, laidKinds := [.data, .data, .data], laidTests := true, laidLooks := .later }
def AttestSignaturesHoldCardSaid : Prop := Claim7.holds Tryd.pinned (.plain (OpenSpec.ofChange attestSignaturesHoldSpec)) attestSignaturesHoldCard

/-- THE TIED CARD OF 'provenderlaw8.AttestHeadsMatchSpec'. -/
def attestHeadsMatchSpecCard : Claim7 := { stood := { row := attestHeadsMatchSpecRow, standIns := [], harness := (true, "be09ffd0da2554ac74248d92f2679061df1c3e4ed4d11b2b37316c42a469319e"), looks := false }, kinds := [], alts := [], laidByText := true, laidKinds := [.data, .data, .data], laidTests := true, laidLooks := .later }
def AttestHeadsMatchSpecCardSaid : Prop := Claim7.holds Tryd.pinned (.plain (OpenSpec.ofChange attestHeadsMatchSpecSpec)) attestHeadsMatchSpecCard

/-- THE TIED CARD OF 'provenderlaw8.AttestProofsMatchSpec'. -/
def attestProofsMatchSpecCard : Claim7 := { stood := { row := attestProofsMatchSpecRow, standIns := [], harness := (true, "be09ffd0da2554ac74248d92f2679061df1c3e4ed4d11b2b37316c42a469319e"), looks := false }, kinds := [], alts := [], laidByText := true, laidKinds := [.data, .data, .data], laidTests := true, laidLooks := .later }
def AttestProofsMatchSpecCardSaid : Prop := Claim7.holds Tryd.pinned (.plain (OpenSpec.ofChange attestProofsMatchSpecSpec)) attestProofsMatchSpecCard

/-- THE TIED CARD OF 'provenderlaw8.AttestRootsMatchSpec'. -/
def attestRootsMatchSpecCard : Claim7 := { stood := { row := attestRootsMatchSpecRow, standIns := [], harness := (true, "be09ffd0da2554ac74248d92f2679061df1c3e4ed4d11b2b37316c42a469319e"), looks := false }, kinds := [], alts := [], laidByText := true, laidKinds := [.data, .data, .data], laidTests := true, laidLooks := .later }
def AttestRootsMatchSpecCardSaid : Prop := Claim7.holds Tryd.pinned (.plain (OpenSpec.ofChange attestRootsMatchSpecSpec)) attestRootsMatchSpecCard

/-- THE TIED CARD OF 'provenderlaw8.AttestLogMatchesSpec'. -/
def attestLogMatchesSpecCard : Claim7 := { stood := { row := attestLogMatchesSpecRow, standIns := [], harness := (true, "be09ffd0da2554ac74248d92f2679061df1c3e4ed4d11b2b37316c42a469319e"), looks := false }, kinds := [], alts := [], laidByText := true, laidKinds := [.data, .data, .data], laidTests := true, laidLooks := .later }
def AttestLogMatchesSpecCardSaid : Prop := Claim7.holds Tryd.pinned (.plain (OpenSpec.ofChange attestLogMatchesSpecSpec)) attestLogMatchesSpecCard

/-- THE TIED CARD OF 'provenderlaw8.AttestLinksMatchSpec'. -/
def attestLinksMatchSpecCard : Claim7 := { stood := { row := attestLinksMatchSpecRow, standIns := [], harness := (true, "be09ffd0da2554ac74248d92f2679061df1c3e4ed4d11b2b37316c42a469319e"), looks := false }, kinds := [], alts := [], laidByText := true, laidKinds := [.data, .data, .data], laidTests := true, laidLooks := .later }
def AttestLinksMatchSpecCardSaid : Prop := Claim7.holds Tryd.pinned (.plain (OpenSpec.ofChange attestLinksMatchSpecSpec)) attestLinksMatchSpecCard

/-- THE TIED CARD OF 'provenderlaw8.AttestProofsHold'. -/
def attestProofsHoldCard : Claim7 := { stood := { row := attestProofsHoldRow, standIns := [], harness := (true, "be09ffd0da2554ac74248d92f2679061df1c3e4ed4d11b2b37316c42a469319e"), looks := false }, kinds := [], alts := [], laidByText := true, laidKinds := [.data, .data, .data], laidTests := true, laidLooks := .later }
def AttestProofsHoldCardSaid : Prop := Claim7.holds Tryd.pinned (.plain (OpenSpec.ofChange attestProofsHoldSpec)) attestProofsHoldCard

/-- THE TIED CARD OF 'provenderlaw8.AttestLayoutsMatchSpec'. -/
def attestLayoutsMatchSpecCard : Claim7 := { stood := { row := attestLayoutsMatchSpecRow, standIns := [], harness := (true, "be09ffd0da2554ac74248d92f2679061df1c3e4ed4d11b2b37316c42a469319e"), looks := false }, kinds := [], alts := [], laidByText := true, laidKinds := [.data, .data, .data], laidTests := true, laidLooks := .later }
def AttestLayoutsMatchSpecCardSaid : Prop := Claim7.holds Tryd.pinned (.plain (OpenSpec.ofChange attestLayoutsMatchSpecSpec)) attestLayoutsMatchSpecCard

/-- THE SECOND FORM's CARD OF 'provenderlaw8.AttestKeysMatchSpec'. -/
def attestKeysMatchSpecUptoCard : Claim7 := { stood := { row := attestKeysMatchSpecUptoRow, standIns := [], harness := (true, "be09ffd0da2554ac74248d92f2679061df1c3e4ed4d11b2b37316c42a469319e"), looks := false }, kinds := [], alts := [], laidByText := true, laidKinds := [.data, .data, .data], laidTests := true, laidLooks := .later }
def AttestKeysMatchSpecUptoCardSaid : Prop := Claim7.holds Tryd.pinned (.plain (OpenSpec.upto attestKeysMatchSpecSpec)) attestKeysMatchSpecUptoCard

/-- THE SECOND FORM's CARD OF 'provenderlaw8.AttestSignaturesHold'. -/
def attestSignaturesHoldUptoCard : Claim7 := { stood := { row := attestSignaturesHoldUptoRow, standIns := [], harness := (true, "be09ffd0da2554ac74248d92f2679061df1c3e4ed4d11b2b37316c42a469319e"), looks := false }, kinds := [], alts := [], laidByText := true, laidKinds := [.data, .data, .data], laidTests := true, laidLooks := .later }
def AttestSignaturesHoldUptoCardSaid : Prop := Claim7.holds Tryd.pinned (.plain (OpenSpec.upto attestSignaturesHoldSpec)) attestSignaturesHoldUptoCard

/-- THE SECOND FORM's CARD OF 'provenderlaw8.AttestHeadsMatchSpec'. -/
def attestHeadsMatchSpecUptoCard : Claim7 := { stood := { row := attestHeadsMatchSpecUptoRow, standIns := [], harness := (true, "be09ffd0da2554ac74248d92f2679061df1c3e4ed4d11b2b37316c42a469319e"), looks := false }, kinds := [], alts := [], laidByText := true, laidKinds := [.data, .data, .data], laidTests := true, laidLooks := .later }
def AttestHeadsMatchSpecUptoCardSaid : Prop := Claim7.holds Tryd.pinned (.plain (OpenSpec.upto attestHeadsMatchSpecSpec)) attestHeadsMatchSpecUptoCard

/-- THE SECOND FORM's CARD OF 'provenderlaw8.AttestProofsMatchSpec'. -/
def attestProofsMatchSpecUptoCard : Claim7 := { stood := { row := attestProofsMatchSpecUptoRow, standIns := [], harness := (true, "be09ffd0da2554ac74248d92f2679061df1c3e4ed4d11b2b37316c42a469319e"), looks := false }, kinds := [], alts := [], laidByText := true, laidKinds := [.data, .data, .data], laidTests := true, laidLooks := .later }
def AttestProofsMatchSpecUptoCardSaid : Prop := Claim7.holds Tryd.pinned (.plain (OpenSpec.upto attestProofsMatchSpecSpec)) attestProofsMatchSpecUptoCard

/-- THE SECOND FORM's CARD OF 'provenderlaw8.AttestRootsMatchSpec'. -/
def attestRootsMatchSpecUptoCard : Claim7 := { stood := { row := attestRootsMatchSpecUptoRow, standIns := [], harness := (true, "be09ffd0da2554ac74248d92f2679061df1c3e4ed4d11b2b37316c42a469319e"), looks := false }, kinds := [], alts := [], laidByText := true, laidKinds := [.data, .data, .data], laidTests := true, laidLooks := .later }
def AttestRootsMatchSpecUptoCardSaid : Prop := Claim7.holds Tryd.pinned (.plain (OpenSpec.upto attestRootsMatchSpecSpec)) attestRootsMatchSpecUptoCard

/-- THE SECOND FORM's CARD OF 'provenderlaw8.AttestLogMatchesSpec'. -/
def attestLogMatchesSpecUptoCard : Claim7 := { stood := { row := attestLogMatchesSpecUptoRow, standIns := [], harness := (true, "be09ffd0da2554ac74248d92f2679061df1c3e4ed4d11b2b37316c42a469319e"), looks := false }, kinds := [], alts := [], laidByText := true, laidKinds := [.data, .data, .data], laidTests := true, laidLooks := .later }
def AttestLogMatchesSpecUptoCardSaid : Prop := Claim7.holds Tryd.pinned (.plain (OpenSpec.upto attestLogMatchesSpecSpec)) attestLogMatchesSpecUptoCard

/-- THE SECOND FORM's CARD OF 'provenderlaw8.AttestLinksMatchSpec'. -/
def attestLinksMatchSpecUptoCard : Claim7 := { stood := { row := attestLinksMatchSpecUptoRow, standIns := [], harness := (true, "be09ffd0da2554ac74248d92f2679061df1c3e4ed4d11b2b37316c42a469319e"), looks := false }, kinds := [], alts := [], laidByText := true, laidKinds := [.data, .data, .data], laidTests := true, laidLooks := .later }
def AttestLinksMatchSpecUptoCardSaid : Prop := Claim7.holds Tryd.pinned (.plain (OpenSpec.upto attestLinksMatchSpecSpec)) attestLinksMatchSpecUptoCard

/-- THE SECOND FORM's CARD OF 'provenderlaw8.AttestProofsHold'. -/
def attestProofsHoldUptoCard : Claim7 := { stood := { row := attestProofsHoldUptoRow, standIns := [], harness := (true, "be09ffd0da2554ac74248d92f2679061df1c3e4ed4d11b2b37316c42a469319e"), looks := false }, kinds := [], alts := [], laidByText := true, laidKinds := [.data, .data, .data], laidTests := true, laidLooks := .later }
def AttestProofsHoldUptoCardSaid : Prop := Claim7.holds Tryd.pinned (.plain (OpenSpec.upto attestProofsHoldSpec)) attestProofsHoldUptoCard

/-- THE SECOND FORM's CARD OF 'provenderlaw8.AttestLayoutsMatchSpec'. -/
def attestLayoutsMatchSpecUptoCard : Claim7 := { stood := { row := attestLayoutsMatchSpecUptoRow, standIns := [], harness := (true, "be09ffd0da2554ac74248d92f2679061df1c3e4ed4d11b2b37316c42a469319e"), looks := false }, kinds := [], alts := [], laidByText := true, laidKinds := [.data, .data, .data], laidTests := true, laidLooks := .later }
def AttestLayoutsMatchSpecUptoCardSaid : Prop := Claim7.holds Tryd.pinned (.plain (OpenSpec.upto attestLayoutsMatchSpecSpec)) attestLayoutsMatchSpecUptoCard
end Rows
end Go.Proofs.YtihfhmibfhkoeaaDoor
