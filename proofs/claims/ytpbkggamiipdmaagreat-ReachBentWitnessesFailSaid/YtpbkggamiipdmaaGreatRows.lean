/-
  No cell of these rows narrows 'for every input' (looked for: loops, veiled, ifaces, maps, wideKeys, modest, calm, conditions, laid).
  DERIVED. THE GIVEN ROWS OF THIS SEAT. 8 by the template 'for every input the law returns true; each argument reads behind the call as it read before'; 0 by the template 'total and deterministic' (their statements: YtpbkggamiipdmaaGreatTotals.lean).
  GIVEN WITH THE SEED: the statements are not yours to turn. If you find one false, say at which input.
  Laid BY PROGRAM, IN A SANDBOX (cutbox-rows.mjs): the forced cells as the released guide's own fill.sh prints them over the translation cdbe1591723f6746… (all of the seat's roots in one cut). By AI agents, Wed Nov 11 2026. No macro, syntax, notation, axiom, sorry.
-/
import Derived.Test.YtpbkggamiipdmaaGreatChecked
import GoSem.Claim
import GoSem.ClaimJoined
import GoSem.ClaimMapViews
import Derived.JoinedTies
import Derived.KernelRfl
namespace Go.Proofs.YtpbkggamiipdmaaGreat
/- THE CELL 'sum', in the pinned program and in every row, IS THE sha256 OF THE DUMP (.gsa) THAT YtpbkggamiipdmaaGreatProg.lean LOADS. Nothing in Lean hashes anything: it is a label: what it is worth is what the hold of that sum in a sandbox is worth. -/
noncomputable def Tryz.pinned : Pinned := { name := "ytpbkggamiipdmaagreat", sum := "cdbe1591723f6746b10efa0d637ebb397397399e0ccdbf462b0abf105636ae04", checked := Tryz.checked }
namespace Rows
def none {H : Type} : Left H := { results := [], args := [] }

/-- 'provenderlaw6.ReachWithoutMatchesSpec': WHATEVER THE INPUT: true; the input reads as it did. -/
def reachWithoutMatchesSpecSpec : ChangeSpec := { name := "reachWithoutMatchesSpec", fn := fun _ => fun
  | [d1, d2] => { results := [.lit (.bool true)], args := [d1, d2] }
  | _ => none }
def reachWithoutMatchesSpecRow : OpenClaim := { program := "ytpbkggamiipdmaagreat", sum := "cdbe1591723f6746b10efa0d637ebb397397399e0ccdbf462b0abf105636ae04", func := "provender/provenderlaw6.ReachWithoutMatchesSpec", spec := "reachWithoutMatchesSpec", unfollowed := true, recurses := true, plainKeys := false, apart := false }
def ReachWithoutMatchesSpecSaid : Prop := reachWithoutMatchesSpecRow.holds Tryz.pinned (OpenSpec.ofChange reachWithoutMatchesSpecSpec)

/-- ITS FALSE NEIGHBOUR: 'it returns false'. Refute it at one input. -/
def reachWithoutMatchesSpecWrong : ChangeSpec := { name := "reachWithoutMatchesSpec", fn := fun _ => fun
  | [d1, d2] => { results := [.lit (.bool false)], args := [d1, d2] }
  | _ => none }
def ReachWithoutMatchesSpecWrongFalsely : Prop := reachWithoutMatchesSpecRow.holds Tryz.pinned (OpenSpec.ofChange reachWithoutMatchesSpecWrong)

/-- 'provenderlaw6.ReachJoinMatchesSpec': WHATEVER THE INPUT: true; the input reads as it did. -/
def reachJoinMatchesSpecSpec : ChangeSpec := { name := "reachJoinMatchesSpec", fn := fun _ => fun
  | [d] => { results := [.lit (.bool true)], args := [d] }
  | _ => none }
def reachJoinMatchesSpecRow : OpenClaim := { program := "ytpbkggamiipdmaagreat", sum := "cdbe1591723f6746b10efa0d637ebb397397399e0ccdbf462b0abf105636ae04", func := "provender/provenderlaw6.ReachJoinMatchesSpec", spec := "reachJoinMatchesSpec", unfollowed := true, recurses := true, plainKeys := false, apart := false }
def ReachJoinMatchesSpecSaid : Prop := reachJoinMatchesSpecRow.holds Tryz.pinned (OpenSpec.ofChange reachJoinMatchesSpecSpec)

/-- ITS FALSE NEIGHBOUR: 'it returns false'. Refute it at one input. -/
def reachJoinMatchesSpecWrong : ChangeSpec := { name := "reachJoinMatchesSpec", fn := fun _ => fun
  | [d] => { results := [.lit (.bool false)], args := [d] }
  | _ => none }
def ReachJoinMatchesSpecWrongFalsely : Prop := reachJoinMatchesSpecRow.holds Tryz.pinned (OpenSpec.ofChange reachJoinMatchesSpecWrong)

/-- 'provenderlaw6.ReachSummariesMatchSpec': WHATEVER THE INPUT: true; the input reads as it did. -/
def reachSummariesMatchSpecSpec : ChangeSpec := { name := "reachSummariesMatchSpec", fn := fun _ => fun
  | [d1, d2, d3] => { results := [.lit (.bool true)], args := [d1, d2, d3] }
  | _ => none }
def reachSummariesMatchSpecRow : OpenClaim := { program := "ytpbkggamiipdmaagreat", sum := "cdbe1591723f6746b10efa0d637ebb397397399e0ccdbf462b0abf105636ae04", func := "provender/provenderlaw6.ReachSummariesMatchSpec", spec := "reachSummariesMatchSpec", unfollowed := true, recurses := true, plainKeys := false, apart := false }
def ReachSummariesMatchSpecSaid : Prop := reachSummariesMatchSpecRow.holds Tryz.pinned (OpenSpec.ofChange reachSummariesMatchSpecSpec)

/-- ITS FALSE NEIGHBOUR: 'it returns false'. Refute it at one input. -/
def reachSummariesMatchSpecWrong : ChangeSpec := { name := "reachSummariesMatchSpec", fn := fun _ => fun
  | [d1, d2, d3] => { results := [.lit (.bool false)], args := [d1, d2, d3] }
  | _ => none }
def ReachSummariesMatchSpecWrongFalsely : Prop := reachSummariesMatchSpecRow.holds Tryz.pinned (OpenSpec.ofChange reachSummariesMatchSpecWrong)

/-- 'provenderlaw6.ReachSummariesCompose': WHATEVER THE INPUT: true; the input reads as it did. -/
def reachSummariesComposeSpec : ChangeSpec := { name := "reachSummariesCompose", fn := fun _ => fun
  | [d1, d2, d3] => { results := [.lit (.bool true)], args := [d1, d2, d3] }
  | _ => none }
def reachSummariesComposeRow : OpenClaim := { program := "ytpbkggamiipdmaagreat", sum := "cdbe1591723f6746b10efa0d637ebb397397399e0ccdbf462b0abf105636ae04", func := "provender/provenderlaw6.ReachSummariesCompose", spec := "reachSummariesCompose", unfollowed := true, recurses := true, plainKeys := false, apart := false }
def ReachSummariesComposeSaid : Prop := reachSummariesComposeRow.holds Tryz.pinned (OpenSpec.ofChange reachSummariesComposeSpec)

/-- ITS FALSE NEIGHBOUR: 'it returns false'. Refute it at one input. -/
def reachSummariesComposeWrong : ChangeSpec := { name := "reachSummariesCompose", fn := fun _ => fun
  | [d1, d2, d3] => { results := [.lit (.bool false)], args := [d1, d2, d3] }
  | _ => none }
def ReachSummariesComposeWrongFalsely : Prop := reachSummariesComposeRow.holds Tryz.pinned (OpenSpec.ofChange reachSummariesComposeWrong)

/-- 'provenderlaw6.ReachNoFewerCalls': WHATEVER THE INPUT: true; the input reads as it did. -/
def reachNoFewerCallsSpec : ChangeSpec := { name := "reachNoFewerCalls", fn := fun _ => fun
  | [d1, d2, d3, d4] => { results := [.lit (.bool true)], args := [d1, d2, d3, d4] }
  | _ => none }
def reachNoFewerCallsRow : OpenClaim := { program := "ytpbkggamiipdmaagreat", sum := "cdbe1591723f6746b10efa0d637ebb397397399e0ccdbf462b0abf105636ae04", func := "provender/provenderlaw6.ReachNoFewerCalls", spec := "reachNoFewerCalls", unfollowed := true, recurses := true, plainKeys := false, apart := false }
def ReachNoFewerCallsSaid : Prop := reachNoFewerCallsRow.holds Tryz.pinned (OpenSpec.ofChange reachNoFewerCallsSpec)

/-- ITS FALSE NEIGHBOUR: 'it returns false'. Refute it at one input. -/
def reachNoFewerCallsWrong : ChangeSpec := { name := "reachNoFewerCalls", fn := fun _ => fun
  | [d1, d2, d3, d4] => { results := [.lit (.bool false)], args := [d1, d2, d3, d4] }
  | _ => none }
def ReachNoFewerCallsWrongFalsely : Prop := reachNoFewerCallsRow.holds Tryz.pinned (OpenSpec.ofChange reachNoFewerCallsWrong)

/-- 'provenderlaw6.ReachFindMatchesSpec': WHATEVER THE INPUT: true; the input reads as it did. -/
def reachFindMatchesSpecSpec : ChangeSpec := { name := "reachFindMatchesSpec", fn := fun _ => fun
  | [d1, d2, d3, d4] => { results := [.lit (.bool true)], args := [d1, d2, d3, d4] }
  | _ => none }
def reachFindMatchesSpecRow : OpenClaim := { program := "ytpbkggamiipdmaagreat", sum := "cdbe1591723f6746b10efa0d637ebb397397399e0ccdbf462b0abf105636ae04", func := "provender/provenderlaw6.ReachFindMatchesSpec", spec := "reachFindMatchesSpec", unfollowed := true, recurses := true, plainKeys := false, apart := false }
def ReachFindMatchesSpecSaid : Prop := reachFindMatchesSpecRow.holds Tryz.pinned (OpenSpec.ofChange reachFindMatchesSpecSpec)

/-- ITS FALSE NEIGHBOUR: 'it returns false'. Refute it at one input. -/
def reachFindMatchesSpecWrong : ChangeSpec := { name := "reachFindMatchesSpec", fn := fun _ => fun
  | [d1, d2, d3, d4] => { results := [.lit (.bool false)], args := [d1, d2, d3, d4] }
  | _ => none }
def ReachFindMatchesSpecWrongFalsely : Prop := reachFindMatchesSpecRow.holds Tryz.pinned (OpenSpec.ofChange reachFindMatchesSpecWrong)

/-- 'provenderlaw6.ReachCutMatchesSpec': WHATEVER THE INPUT: true; the input reads as it did. -/
def reachCutMatchesSpecSpec : ChangeSpec := { name := "reachCutMatchesSpec", fn := fun _ => fun
  | [d1, d2, d3] => { results := [.lit (.bool true)], args := [d1, d2, d3] }
  | _ => none }
def reachCutMatchesSpecRow : OpenClaim := { program := "ytpbkggamiipdmaagreat", sum := "cdbe1591723f6746b10efa0d637ebb397397399e0ccdbf462b0abf105636ae04", func := "provender/provenderlaw6.ReachCutMatchesSpec", spec := "reachCutMatchesSpec", unfollowed := true, recurses := true, plainKeys := false, apart := false }
def ReachCutMatchesSpecSaid : Prop := reachCutMatchesSpecRow.holds Tryz.pinned (OpenSpec.ofChange reachCutMatchesSpecSpec)

/-- ITS FALSE NEIGHBOUR: 'it returns false'. Refute it at one input. -/
def reachCutMatchesSpecWrong : ChangeSpec := { name := "reachCutMatchesSpec", fn := fun _ => fun
  | [d1, d2, d3] => { results := [.lit (.bool false)], args := [d1, d2, d3] }
  | _ => none }
def ReachCutMatchesSpecWrongFalsely : Prop := reachCutMatchesSpecRow.holds Tryz.pinned (OpenSpec.ofChange reachCutMatchesSpecWrong)

/-- 'provenderlaw6.ReachBentWitnessesFail': WHATEVER THE INPUT: true; the input reads as it did. -/
def reachBentWitnessesFailSpec : ChangeSpec := { name := "reachBentWitnessesFail", fn := fun _ => fun
  | [d1, d2, d3, d4, d5, d6] => { results := [.lit (.bool true)], args := [d1, d2, d3, d4, d5, d6] }
  | _ => none }
def reachBentWitnessesFailRow : OpenClaim := { program := "ytpbkggamiipdmaagreat", sum := "cdbe1591723f6746b10efa0d637ebb397397399e0ccdbf462b0abf105636ae04", func := "provender/provenderlaw6.ReachBentWitnessesFail", spec := "reachBentWitnessesFail", unfollowed := true, recurses := true, plainKeys := false, apart := false }
def ReachBentWitnessesFailSaid : Prop := reachBentWitnessesFailRow.holds Tryz.pinned (OpenSpec.ofChange reachBentWitnessesFailSpec)

/-- ITS FALSE NEIGHBOUR: 'it returns false'. Refute it at one input. -/
def reachBentWitnessesFailWrong : ChangeSpec := { name := "reachBentWitnessesFail", fn := fun _ => fun
  | [d1, d2, d3, d4, d5, d6] => { results := [.lit (.bool false)], args := [d1, d2, d3, d4, d5, d6] }
  | _ => none }
def ReachBentWitnessesFailWrongFalsely : Prop := reachBentWitnessesFailRow.holds Tryz.pinned (OpenSpec.ofChange reachBentWitnessesFailWrong)

/- THE SECOND FORM. 'bulk': how many values and letters a reading holds, each counted each time it is reached (what is shared counts as often as it is met; a slice's spare places count too). A statement '..UptoSaid' is the law's where the arguments, and the package variables that the reading takes, are together of bulk at most 1048576: NARROWER than '..Said'. Prove '..Said' where nothing that the law and all that it calls make is longer than what came in: it says more and counts as full. Else prove '..UptoSaid'. A law counts once. -/
mutual
def uptoBulk {H : Type} : DataW H → Nat
  | .lit (.string bytes) => bytes.length + 1
  | .lit _ => 1
  | .nil => 1
  | .ptr d => uptoBulk d + 1
  | .slice elems spare => uptoBulkAll elems + uptoBulkAll spare + 1
  | .agg parts => uptoBulkAll parts + 1
  | .iface _ d => uptoBulk d + 1
  | .map entries => uptoBulkEntries entries + 1
  | .held _ => 1
def uptoBulkAll {H : Type} : List (DataW H) → Nat
  | [] => 0
  | d :: r => uptoBulk d + uptoBulkAll r
def uptoBulkEntries {H : Type} : List (Lit × DataW H) → Nat
  | [] => 0
  | x :: r => uptoBulkEntry x + uptoBulkEntries r
def uptoBulkEntry {H : Type} : Lit × DataW H → Nat
  | (.string bytes, d) => bytes.length + uptoBulk d + 1
  | (_, d) => uptoBulk d + 1
 end
def uptoSmall : (H : Type) → List (DataW H) → Bool := fun _ ds => decide (uptoBulkAll ds ≤ 1048576)
def OpenSpec.upto (s : _root_.Go.ChangeSpec) : _root_.Go.OpenSpec := { _root_.Go.OpenSpec.ofChange s with cond := some uptoSmall }

/-- 'provenderlaw6.ReachWithoutMatchesSpec', WHERE WHAT IT READS IS OF BULK AT MOST 1048576: true; the input reads as it did. -/
def reachWithoutMatchesSpecUptoRow : OpenClaim := { program := "ytpbkggamiipdmaagreat", sum := "cdbe1591723f6746b10efa0d637ebb397397399e0ccdbf462b0abf105636ae04", func := "provender/provenderlaw6.ReachWithoutMatchesSpec", spec := "reachWithoutMatchesSpec", unfollowed := true, recurses := true, plainKeys := false, apart := false, narrowed := true }
def ReachWithoutMatchesSpecUptoSaid : Prop := reachWithoutMatchesSpecUptoRow.holds Tryz.pinned (OpenSpec.upto reachWithoutMatchesSpecSpec)

/-- 'provenderlaw6.ReachJoinMatchesSpec', WHERE WHAT IT READS IS OF BULK AT MOST 1048576: true; the input reads as it did. -/
def reachJoinMatchesSpecUptoRow : OpenClaim := { program := "ytpbkggamiipdmaagreat", sum := "cdbe1591723f6746b10efa0d637ebb397397399e0ccdbf462b0abf105636ae04", func := "provender/provenderlaw6.ReachJoinMatchesSpec", spec := "reachJoinMatchesSpec", unfollowed := true, recurses := true, plainKeys := false, apart := false, narrowed := true }
def ReachJoinMatchesSpecUptoSaid : Prop := reachJoinMatchesSpecUptoRow.holds Tryz.pinned (OpenSpec.upto reachJoinMatchesSpecSpec)

/-- 'provenderlaw6.ReachSummariesMatchSpec', WHERE WHAT IT READS IS OF BULK AT MOST 1048576: true; the input reads as it did. -/
def reachSummariesMatchSpecUptoRow : OpenClaim := { program := "ytpbkggamiipdmaagreat", sum := "cdbe1591723f6746b10efa0d637ebb397397399e0ccdbf462b0abf105636ae04", func := "provender/provenderlaw6.ReachSummariesMatchSpec", spec := "reachSummariesMatchSpec", unfollowed := true, recurses := true, plainKeys := false, apart := false, narrowed := true }
def ReachSummariesMatchSpecUptoSaid : Prop := reachSummariesMatchSpecUptoRow.holds Tryz.pinned (OpenSpec.upto reachSummariesMatchSpecSpec)

/-- 'provenderlaw6.ReachSummariesCompose', WHERE WHAT IT READS IS OF BULK AT MOST 1048576: true; the input reads as it did. -/
def reachSummariesComposeUptoRow : OpenClaim := { program := "ytpbkggamiipdmaagreat", sum := "cdbe1591723f6746b10efa0d637ebb397397399e0ccdbf462b0abf105636ae04", func := "provender/provenderlaw6.ReachSummariesCompose", spec := "reachSummariesCompose", unfollowed := true, recurses := true, plainKeys := false, apart := false, narrowed := true }
def ReachSummariesComposeUptoSaid : Prop := reachSummariesComposeUptoRow.holds Tryz.pinned (OpenSpec.upto reachSummariesComposeSpec)

/-- 'provenderlaw6.ReachNoFewerCalls', WHERE WHAT IT READS IS OF BULK AT MOST 1048576: true; the input reads as it did. -/
def reachNoFewerCallsUptoRow : OpenClaim := { program := "ytpbkggamiipdmaagreat", sum := "cdbe1591723f6746b10efa0d637ebb397397399e0ccdbf462b0abf105636ae04", func := "provender/provenderlaw6.ReachNoFewerCalls", spec := "reachNoFewerCalls", unfollowed := true, recurses := true, plainKeys := false, apart := false, narrowed := true }
def ReachNoFewerCallsUptoSaid : Prop := reachNoFewerCallsUptoRow.holds Tryz.pinned (OpenSpec.upto reachNoFewerCallsSpec)

/-- 'provenderlaw6.ReachFindMatchesSpec', WHERE WHAT IT READS IS OF BULK AT MOST 1048576: true; the input reads as it did. -/
def reachFindMatchesSpecUptoRow : OpenClaim := { program := "ytpbkggamiipdmaagreat", sum := "cdbe1591723f6746b10efa0d637ebb397397399e0ccdbf462b0abf105636ae04", func := "provender/provenderlaw6.ReachFindMatchesSpec", spec := "reachFindMatchesSpec", unfollowed := true, recurses := true, plainKeys := false, apart := false, narrowed := true }
def ReachFindMatchesSpecUptoSaid : Prop := reachFindMatchesSpecUptoRow.holds Tryz.pinned (OpenSpec.upto reachFindMatchesSpecSpec)

/-- 'provenderlaw6.ReachCutMatchesSpec', WHERE WHAT IT READS IS OF BULK AT MOST 1048576: true; the input reads as it did. -/
def reachCutMatchesSpecUptoRow : OpenClaim := { program := "ytpbkggamiipdmaagreat", sum := "cdbe1591723f6746b10efa0d637ebb397397399e0ccdbf462b0abf105636ae04", func := "provender/provenderlaw6.ReachCutMatchesSpec", spec := "reachCutMatchesSpec", unfollowed := true, recurses := true, plainKeys := false, apart := false, narrowed := true }
def ReachCutMatchesSpecUptoSaid : Prop := reachCutMatchesSpecUptoRow.holds Tryz.pinned (OpenSpec.upto reachCutMatchesSpecSpec)

/-- 'provenderlaw6.ReachBentWitnessesFail', WHERE WHAT IT READS IS OF BULK AT MOST 1048576: true; the input reads as it did. -/
def reachBentWitnessesFailUptoRow : OpenClaim := { program := "ytpbkggamiipdmaagreat", sum := "cdbe1591723f6746b10efa0d637ebb397397399e0ccdbf462b0abf105636ae04", func := "provender/provenderlaw6.ReachBentWitnessesFail", spec := "reachBentWitnessesFail", unfollowed := true, recurses := true, plainKeys := false, apart := false, narrowed := true }
def ReachBentWitnessesFailUptoSaid : Prop := reachBentWitnessesFailUptoRow.holds Tryz.pinned (OpenSpec.upto reachBentWitnessesFailSpec)

end Rows
end Go.Proofs.YtpbkggamiipdmaaGreat
