/-
  No cell of these rows narrows 'for every input' (looked for: loops, veiled, ifaces, maps, wideKeys, modest, calm, conditions, laid).
  DERIVED. THE GIVEN ROWS OF THIS SEAT. 12 by the template 'for every input the law returns true; each argument reads behind the call as it read before'; 0 by the template 'total and deterministic' (their statements: YtkciogeafbbggaaTotals.lean).
  GIVEN WITH THE SEED: the statements are not yours to turn. If you find one false, say at which input.
  Laid BY PROGRAM, IN A SANDBOX (cutbox-rows.mjs): the forced cells as the released guide's own fill.sh prints them over the translation 9b89c8b0ff4e8ffa… (all of the seat's roots in one cut). By AI agents, Wed Nov 11 2026. No macro, syntax, notation, axiom, sorry.
-/
import Derived.Test.YtkciogeafbbggaaChecked
import GoSem.Claim
import GoSem.ClaimJoined
import GoSem.ClaimMapViews
import Derived.JoinedTies
import Derived.KernelRfl
namespace Go.Proofs.Ytkciogeafbbggaa
/- THE CELL 'sum', in the pinned program and in every row, IS THE sha256 OF THE DUMP (.gsa) THAT YtkciogeafbbggaaProg.lean LOADS. Nothing in Lean hashes anything: it is a label: what it is worth is what the hold of that sum in a sandbox is worth. -/
noncomputable def Try.pinned : Pinned := { name := "ytkciogeafbbggaa", sum := "9b89c8b0ff4e8ffaf3161eee46b73db595ebf5ee38dc0ec7133c0da5dcd95842", checked := Try.checked }
namespace Rows
def none {H : Type} : Left H := { results := [], args := [] }

/-- 'provenderlaw11.HistoryDaysMatchSpec': WHATEVER THE INPUT: true; the input reads as it did. -/
def historyDaysMatchSpecSpec : ChangeSpec := { name := "historyDaysMatchSpec", fn := fun _ => fun
  | [d1, d2, d3, d4] => { results := [.lit (.bool true)], args := [d1, d2, d3, d4] }
  | _ => none }
def historyDaysMatchSpecRow : OpenClaim := { program := "ytkciogeafbbggaa", sum := "9b89c8b0ff4e8ffaf3161eee46b73db595ebf5ee38dc0ec7133c0da5dcd95842", func := "provender/provenderlaw11.HistoryDaysMatchSpec", spec := "historyDaysMatchSpec", unfollowed := true, recurses := true, plainKeys := false, apart := false }
def HistoryDaysMatchSpecSaid : Prop := historyDaysMatchSpecRow.holds Try.pinned (OpenSpec.ofChange historyDaysMatchSpecSpec)

/-- ITS FALSE NEIGHBOUR: 'it returns false'. Refute it at one input. -/
def historyDaysMatchSpecWrong : ChangeSpec := { name := "historyDaysMatchSpec", fn := fun _ => fun
  | [d1, d2, d3, d4] => { results := [.lit (.bool false)], args := [d1, d2, d3, d4] }
  | _ => none }
def HistoryDaysMatchSpecWrongFalsely : Prop := historyDaysMatchSpecRow.holds Try.pinned (OpenSpec.ofChange historyDaysMatchSpecWrong)

/-- 'provenderlaw11.HistoryAddIsLeast': WHATEVER THE INPUT: true; the input reads as it did. -/
def historyAddIsLeastSpec : ChangeSpec := { name := "historyAddIsLeast", fn := fun _ => fun
  | [d1, d2, d3, d4] => { results := [.lit (.bool true)], args := [d1, d2, d3, d4] }
  | _ => none }
def historyAddIsLeastRow : OpenClaim := { program := "ytkciogeafbbggaa", sum := "9b89c8b0ff4e8ffaf3161eee46b73db595ebf5ee38dc0ec7133c0da5dcd95842", func := "provender/provenderlaw11.HistoryAddIsLeast", spec := "historyAddIsLeast", unfollowed := true, recurses := true, plainKeys := false, apart := false }
def HistoryAddIsLeastSaid : Prop := historyAddIsLeastRow.holds Try.pinned (OpenSpec.ofChange historyAddIsLeastSpec)

/-- ITS FALSE NEIGHBOUR: 'it returns false'. Refute it at one input. -/
def historyAddIsLeastWrong : ChangeSpec := { name := "historyAddIsLeast", fn := fun _ => fun
  | [d1, d2, d3, d4] => { results := [.lit (.bool false)], args := [d1, d2, d3, d4] }
  | _ => none }
def HistoryAddIsLeastWrongFalsely : Prop := historyAddIsLeastRow.holds Try.pinned (OpenSpec.ofChange historyAddIsLeastWrong)

/-- 'provenderlaw11.HistoryDueMatchesSpec': WHATEVER THE INPUT: true; the input reads as it did. -/
def historyDueMatchesSpecSpec : ChangeSpec := { name := "historyDueMatchesSpec", fn := fun _ => fun
  | [d1, d2, d3] => { results := [.lit (.bool true)], args := [d1, d2, d3] }
  | _ => none }
def historyDueMatchesSpecRow : OpenClaim := { program := "ytkciogeafbbggaa", sum := "9b89c8b0ff4e8ffaf3161eee46b73db595ebf5ee38dc0ec7133c0da5dcd95842", func := "provender/provenderlaw11.HistoryDueMatchesSpec", spec := "historyDueMatchesSpec", unfollowed := true, recurses := true, plainKeys := false, apart := false }
def HistoryDueMatchesSpecSaid : Prop := historyDueMatchesSpecRow.holds Try.pinned (OpenSpec.ofChange historyDueMatchesSpecSpec)

/-- ITS FALSE NEIGHBOUR: 'it returns false'. Refute it at one input. -/
def historyDueMatchesSpecWrong : ChangeSpec := { name := "historyDueMatchesSpec", fn := fun _ => fun
  | [d1, d2, d3] => { results := [.lit (.bool false)], args := [d1, d2, d3] }
  | _ => none }
def HistoryDueMatchesSpecWrongFalsely : Prop := historyDueMatchesSpecRow.holds Try.pinned (OpenSpec.ofChange historyDueMatchesSpecWrong)

/-- 'provenderlaw11.HistoryCompareMatchesSpec': WHATEVER THE INPUT: true; the input reads as it did. -/
def historyCompareMatchesSpecSpec : ChangeSpec := { name := "historyCompareMatchesSpec", fn := fun _ => fun
  | [d1, d2] => { results := [.lit (.bool true)], args := [d1, d2] }
  | _ => none }
def historyCompareMatchesSpecRow : OpenClaim := { program := "ytkciogeafbbggaa", sum := "9b89c8b0ff4e8ffaf3161eee46b73db595ebf5ee38dc0ec7133c0da5dcd95842", func := "provender/provenderlaw11.HistoryCompareMatchesSpec", spec := "historyCompareMatchesSpec", unfollowed := true, recurses := true, plainKeys := false, apart := false }
def HistoryCompareMatchesSpecSaid : Prop := historyCompareMatchesSpecRow.holds Try.pinned (OpenSpec.ofChange historyCompareMatchesSpecSpec)

/-- ITS FALSE NEIGHBOUR: 'it returns false'. Refute it at one input. -/
def historyCompareMatchesSpecWrong : ChangeSpec := { name := "historyCompareMatchesSpec", fn := fun _ => fun
  | [d1, d2] => { results := [.lit (.bool false)], args := [d1, d2] }
  | _ => none }
def HistoryCompareMatchesSpecWrongFalsely : Prop := historyCompareMatchesSpecRow.holds Try.pinned (OpenSpec.ofChange historyCompareMatchesSpecWrong)

/-- 'provenderlaw11.HistoryCheckMatchesSpec': WHATEVER THE INPUT: true; the input reads as it did. -/
def historyCheckMatchesSpecSpec : ChangeSpec := { name := "historyCheckMatchesSpec", fn := fun _ => fun
  | [d1, d2] => { results := [.lit (.bool true)], args := [d1, d2] }
  | _ => none }
def historyCheckMatchesSpecRow : OpenClaim := { program := "ytkciogeafbbggaa", sum := "9b89c8b0ff4e8ffaf3161eee46b73db595ebf5ee38dc0ec7133c0da5dcd95842", func := "provender/provenderlaw11.HistoryCheckMatchesSpec", spec := "historyCheckMatchesSpec", plainKeys := false, apart := false }
def HistoryCheckMatchesSpecSaid : Prop := historyCheckMatchesSpecRow.holds Try.pinned (OpenSpec.ofChange historyCheckMatchesSpecSpec)

/-- ITS FALSE NEIGHBOUR: 'it returns false'. Refute it at one input. -/
def historyCheckMatchesSpecWrong : ChangeSpec := { name := "historyCheckMatchesSpec", fn := fun _ => fun
  | [d1, d2] => { results := [.lit (.bool false)], args := [d1, d2] }
  | _ => none }
def HistoryCheckMatchesSpecWrongFalsely : Prop := historyCheckMatchesSpecRow.holds Try.pinned (OpenSpec.ofChange historyCheckMatchesSpecWrong)

/-- 'provenderlaw11.HistoryWindowsMatchSpec': WHATEVER THE INPUT: true; the input reads as it did. -/
def historyWindowsMatchSpecSpec : ChangeSpec := { name := "historyWindowsMatchSpec", fn := fun _ => fun
  | [d] => { results := [.lit (.bool true)], args := [d] }
  | _ => none }
def historyWindowsMatchSpecRow : OpenClaim := { program := "ytkciogeafbbggaa", sum := "9b89c8b0ff4e8ffaf3161eee46b73db595ebf5ee38dc0ec7133c0da5dcd95842", func := "provender/provenderlaw11.HistoryWindowsMatchSpec", spec := "historyWindowsMatchSpec", unfollowed := true, recurses := true, plainKeys := false, apart := false }
def HistoryWindowsMatchSpecSaid : Prop := historyWindowsMatchSpecRow.holds Try.pinned (OpenSpec.ofChange historyWindowsMatchSpecSpec)

/-- ITS FALSE NEIGHBOUR: 'it returns false'. Refute it at one input. -/
def historyWindowsMatchSpecWrong : ChangeSpec := { name := "historyWindowsMatchSpec", fn := fun _ => fun
  | [d] => { results := [.lit (.bool false)], args := [d] }
  | _ => none }
def HistoryWindowsMatchSpecWrongFalsely : Prop := historyWindowsMatchSpecRow.holds Try.pinned (OpenSpec.ofChange historyWindowsMatchSpecWrong)

/-- 'provenderlaw11.HistoryWhyMatchesSpec': WHATEVER THE INPUT: true; the input reads as it did. -/
def historyWhyMatchesSpecSpec : ChangeSpec := { name := "historyWhyMatchesSpec", fn := fun _ => fun
  | [d1, d2] => { results := [.lit (.bool true)], args := [d1, d2] }
  | _ => none }
def historyWhyMatchesSpecRow : OpenClaim := { program := "ytkciogeafbbggaa", sum := "9b89c8b0ff4e8ffaf3161eee46b73db595ebf5ee38dc0ec7133c0da5dcd95842", func := "provender/provenderlaw11.HistoryWhyMatchesSpec", spec := "historyWhyMatchesSpec", unfollowed := true, recurses := true, plainKeys := false, apart := false }
def HistoryWhyMatchesSpecSaid : Prop := historyWhyMatchesSpecRow.holds Try.pinned (OpenSpec.ofChange historyWhyMatchesSpecSpec)

/-- ITS FALSE NEIGHBOUR: 'it returns false'. Refute it at one input. -/
def historyWhyMatchesSpecWrong : ChangeSpec := { name := "historyWhyMatchesSpec", fn := fun _ => fun
  | [d1, d2] => { results := [.lit (.bool false)], args := [d1, d2] }
  | _ => none }
def HistoryWhyMatchesSpecWrongFalsely : Prop := historyWhyMatchesSpecRow.holds Try.pinned (OpenSpec.ofChange historyWhyMatchesSpecWrong)

/-- 'provenderlaw11.HistoryWindowsAreOpenDays': WHATEVER THE INPUT: true; the input reads as it did. -/
def historyWindowsAreOpenDaysSpec : ChangeSpec := { name := "historyWindowsAreOpenDays", fn := fun _ => fun
  | [d1, d2] => { results := [.lit (.bool true)], args := [d1, d2] }
  | _ => none }
def historyWindowsAreOpenDaysRow : OpenClaim := { program := "ytkciogeafbbggaa", sum := "9b89c8b0ff4e8ffaf3161eee46b73db595ebf5ee38dc0ec7133c0da5dcd95842", func := "provender/provenderlaw11.HistoryWindowsAreOpenDays", spec := "historyWindowsAreOpenDays", unfollowed := true, recurses := true, plainKeys := false, apart := false }
def HistoryWindowsAreOpenDaysSaid : Prop := historyWindowsAreOpenDaysRow.holds Try.pinned (OpenSpec.ofChange historyWindowsAreOpenDaysSpec)

/-- ITS FALSE NEIGHBOUR: 'it returns false'. Refute it at one input. -/
def historyWindowsAreOpenDaysWrong : ChangeSpec := { name := "historyWindowsAreOpenDays", fn := fun _ => fun
  | [d1, d2] => { results := [.lit (.bool false)], args := [d1, d2] }
  | _ => none }
def HistoryWindowsAreOpenDaysWrongFalsely : Prop := historyWindowsAreOpenDaysRow.holds Try.pinned (OpenSpec.ofChange historyWindowsAreOpenDaysWrong)

/-- 'provenderlaw11.HistoryCutsMatchSpec': WHATEVER THE INPUT: true; the input reads as it did. -/
def historyCutsMatchSpecSpec : ChangeSpec := { name := "historyCutsMatchSpec", fn := fun _ => fun
  | [d1, d2, d3] => { results := [.lit (.bool true)], args := [d1, d2, d3] }
  | _ => none }
def historyCutsMatchSpecRow : OpenClaim := { program := "ytkciogeafbbggaa", sum := "9b89c8b0ff4e8ffaf3161eee46b73db595ebf5ee38dc0ec7133c0da5dcd95842", func := "provender/provenderlaw11.HistoryCutsMatchSpec", spec := "historyCutsMatchSpec", unfollowed := true, recurses := true, plainKeys := false, apart := false }
def HistoryCutsMatchSpecSaid : Prop := historyCutsMatchSpecRow.holds Try.pinned (OpenSpec.ofChange historyCutsMatchSpecSpec)

/-- ITS FALSE NEIGHBOUR: 'it returns false'. Refute it at one input. -/
def historyCutsMatchSpecWrong : ChangeSpec := { name := "historyCutsMatchSpec", fn := fun _ => fun
  | [d1, d2, d3] => { results := [.lit (.bool false)], args := [d1, d2, d3] }
  | _ => none }
def HistoryCutsMatchSpecWrongFalsely : Prop := historyCutsMatchSpecRow.holds Try.pinned (OpenSpec.ofChange historyCutsMatchSpecWrong)

/-- 'provenderlaw11.HistoryCutsJoin': WHATEVER THE INPUT: true; the input reads as it did. -/
def historyCutsJoinSpec : ChangeSpec := { name := "historyCutsJoin", fn := fun _ => fun
  | [d1, d2] => { results := [.lit (.bool true)], args := [d1, d2] }
  | _ => none }
def historyCutsJoinRow : OpenClaim := { program := "ytkciogeafbbggaa", sum := "9b89c8b0ff4e8ffaf3161eee46b73db595ebf5ee38dc0ec7133c0da5dcd95842", func := "provender/provenderlaw11.HistoryCutsJoin", spec := "historyCutsJoin", unfollowed := true, recurses := true, plainKeys := false, apart := false }
def HistoryCutsJoinSaid : Prop := historyCutsJoinRow.holds Try.pinned (OpenSpec.ofChange historyCutsJoinSpec)

/-- ITS FALSE NEIGHBOUR: 'it returns false'. Refute it at one input. -/
def historyCutsJoinWrong : ChangeSpec := { name := "historyCutsJoin", fn := fun _ => fun
  | [d1, d2] => { results := [.lit (.bool false)], args := [d1, d2] }
  | _ => none }
def HistoryCutsJoinWrongFalsely : Prop := historyCutsJoinRow.holds Try.pinned (OpenSpec.ofChange historyCutsJoinWrong)

/-- 'provenderlaw11.HistoryOverdueMatchesSpec': WHATEVER THE INPUT: true; the input reads as it did. -/
def historyOverdueMatchesSpecSpec : ChangeSpec := { name := "historyOverdueMatchesSpec", fn := fun _ => fun
  | [d1, d2, d3, d4] => { results := [.lit (.bool true)], args := [d1, d2, d3, d4] }
  | _ => none }
def historyOverdueMatchesSpecRow : OpenClaim := { program := "ytkciogeafbbggaa", sum := "9b89c8b0ff4e8ffaf3161eee46b73db595ebf5ee38dc0ec7133c0da5dcd95842", func := "provender/provenderlaw11.HistoryOverdueMatchesSpec", spec := "historyOverdueMatchesSpec", inPlace := ["slices.overlaps[int]"], unfollowed := true, recurses := true, plainKeys := false, apart := false }
def HistoryOverdueMatchesSpecSaid : Prop := historyOverdueMatchesSpecRow.holds Try.pinned (OpenSpec.ofChange historyOverdueMatchesSpecSpec)

/-- ITS FALSE NEIGHBOUR: 'it returns false'. Refute it at one input. -/
def historyOverdueMatchesSpecWrong : ChangeSpec := { name := "historyOverdueMatchesSpec", fn := fun _ => fun
  | [d1, d2, d3, d4] => { results := [.lit (.bool false)], args := [d1, d2, d3, d4] }
  | _ => none }
def HistoryOverdueMatchesSpecWrongFalsely : Prop := historyOverdueMatchesSpecRow.holds Try.pinned (OpenSpec.ofChange historyOverdueMatchesSpecWrong)

/-- 'provenderlaw11.HistoryNumbersMatchSpec': WHATEVER THE INPUT: true; the input reads as it did. -/
def historyNumbersMatchSpecSpec : ChangeSpec := { name := "historyNumbersMatchSpec", fn := fun _ => fun
  | [d1, d2, d3, d4, d5, d6] => { results := [.lit (.bool true)], args := [d1, d2, d3, d4, d5, d6] }
  | _ => none }
def historyNumbersMatchSpecRow : OpenClaim := { program := "ytkciogeafbbggaa", sum := "9b89c8b0ff4e8ffaf3161eee46b73db595ebf5ee38dc0ec7133c0da5dcd95842", func := "provender/provenderlaw11.HistoryNumbersMatchSpec", spec := "historyNumbersMatchSpec", unfollowed := true, recurses := true, plainKeys := false, apart := false }
def HistoryNumbersMatchSpecSaid : Prop := historyNumbersMatchSpecRow.holds Try.pinned (OpenSpec.ofChange historyNumbersMatchSpecSpec)

/-- ITS FALSE NEIGHBOUR: 'it returns false'. Refute it at one input. -/
def historyNumbersMatchSpecWrong : ChangeSpec := { name := "historyNumbersMatchSpec", fn := fun _ => fun
  | [d1, d2, d3, d4, d5, d6] => { results := [.lit (.bool false)], args := [d1, d2, d3, d4, d5, d6] }
  | _ => none }
def HistoryNumbersMatchSpecWrongFalsely : Prop := historyNumbersMatchSpecRow.holds Try.pinned (OpenSpec.ofChange historyNumbersMatchSpecWrong)

/- THE SECOND FORM. 'bulk': how many values and letters a reading holds, each counted each time it is reached (what is shared counts as often as it is met; a slice's spare places count too). A statement '..UptoSaid' is the law's where the arguments, and the package variables that the reading takes, are together of bulk at most 1048576: NARROWER than '..Said'. Prove '..Said' where nothing that the law and all that it calls make is longer than what came in: it says more and counts as full. Else prove '..UptoSaid'. A law counts once. -/
mutual
def uptoBulk {H : Type} : DataW H → Nat
  | .lit (.string bytes) => bytes.length + 1
  | .lit _ => 1
  | .nil => 1
  | .ptr d => uptoBulk d + 1
  | .slice elems spare => uptoBulkAll elems + uptoBulkAll spare + 1
  | .agg parts => uptoBulkAll parts + 1
  | .iface _ d => uptoBulk d + 1
  | .map entries => uptoBulkEntries entries + 1
  | .held _ => 1
def uptoBulkAll {H : Type} : List (DataW H) → Nat
  | [] => 0
  | d :: r => uptoBulk d + uptoBulkAll r
def uptoBulkEntries {H : Type} : List (Lit × DataW H) → Nat
  | [] => 0
  | x :: r => uptoBulkEntry x + uptoBulkEntries r
def uptoBulkEntry {H : Type} : Lit × DataW H → Nat
  | (.string bytes, d) => bytes.length + uptoBulk d + 1
  | (_, d) => uptoBulk d + 1
 end
def uptoSmall : (H : Type) → List (DataW H) → Bool := fun _ ds => decide (uptoBulkAll ds ≤ 1048576)
def OpenSpec.upto (s : _root_.Go.ChangeSpec) : _root_.Go.OpenSpec := { _root_.Go.OpenSpec.ofChange s with cond := some uptoSmall }

/-- 'provenderlaw11.HistoryDaysMatchSpec', WHERE WHAT IT READS IS OF BULK AT MOST 1048576: true; the input reads as it did. -/
def historyDaysMatchSpecUptoRow : OpenClaim := { program := "ytkciogeafbbggaa", sum := "9b89c8b0ff4e8ffaf3161eee46b73db595ebf5ee38dc0ec7133c0da5dcd95842", func := "provender/provenderlaw11.HistoryDaysMatchSpec", spec := "historyDaysMatchSpec", unfollowed := true, recurses := true, plainKeys := false, apart := false, narrowed := true }
def HistoryDaysMatchSpecUptoSaid : Prop := historyDaysMatchSpecUptoRow.holds Try.pinned (OpenSpec.upto historyDaysMatchSpecSpec)

/-- 'provenderlaw11.HistoryAddIsLeast', WHERE WHAT IT READS IS OF BULK AT MOST 1048576: true; the input reads as it did. -/
def historyAddIsLeastUptoRow : OpenClaim := { program := "ytkciogeafbbggaa", sum := "9b89c8b0ff4e8ffaf3161eee46b73db595ebf5ee38dc0ec7133c0da5dcd95842", func := "provender/provenderlaw11.HistoryAddIsLeast", spec := "historyAddIsLeast", unfollowed := true, recurses := true, plainKeys := false, apart := false, narrowed := true }
def HistoryAddIsLeastUptoSaid : Prop := historyAddIsLeastUptoRow.holds Try.pinned (OpenSpec.upto historyAddIsLeastSpec)

/-- 'provenderlaw11.HistoryDueMatchesSpec', WHERE WHAT IT READS IS OF BULK AT MOST 1048576: true; the input reads as it did. -/
def historyDueMatchesSpecUptoRow : OpenClaim := { program := "ytkciogeafbbggaa", sum := "9b89c8b0ff4e8ffaf3161eee46b73db595ebf5ee38dc0ec7133c0da5dcd95842", func := "provender/provenderlaw11.HistoryDueMatchesSpec", spec := "historyDueMatchesSpec", unfollowed := true, recurses := true, plainKeys := false, apart := false, narrowed := true }
def HistoryDueMatchesSpecUptoSaid : Prop := historyDueMatchesSpecUptoRow.holds Try.pinned (OpenSpec.upto historyDueMatchesSpecSpec)

/-- 'provenderlaw11.HistoryCompareMatchesSpec', WHERE WHAT IT READS IS OF BULK AT MOST 1048576: true; the input reads as it did. -/
def historyCompareMatchesSpecUptoRow : OpenClaim := { program := "ytkciogeafbbggaa", sum := "9b89c8b0ff4e8ffaf3161eee46b73db595ebf5ee38dc0ec7133c0da5dcd95842", func := "provender/provenderlaw11.HistoryCompareMatchesSpec", spec := "historyCompareMatchesSpec", unfollowed := true, recurses := true, plainKeys := false, apart := false, narrowed := true }
def HistoryCompareMatchesSpecUptoSaid : Prop := historyCompareMatchesSpecUptoRow.holds Try.pinned (OpenSpec.upto historyCompareMatchesSpecSpec)

/-- 'provenderlaw11.HistoryCheckMatchesSpec', WHERE WHAT IT READS IS OF BULK AT MOST 1048576: true; the input reads as it did. -/
def historyCheckMatchesSpecUptoRow : OpenClaim := { program := "ytkciogeafbbggaa", sum := "9b89c8b0ff4e8ffaf3161eee46b73db595ebf5ee38dc0ec7133c0da5dcd95842", func := "provender/provenderlaw11.HistoryCheckMatchesSpec", spec := "historyCheckMatchesSpec", plainKeys := false, apart := false, narrowed := true }
def HistoryCheckMatchesSpecUptoSaid : Prop := historyCheckMatchesSpecUptoRow.holds Try.pinned (OpenSpec.upto historyCheckMatchesSpecSpec)

/-- 'provenderlaw11.HistoryWindowsMatchSpec', WHERE WHAT IT READS IS OF BULK AT MOST 1048576: true; the input reads as it did. -/
def historyWindowsMatchSpecUptoRow : OpenClaim := { program := "ytkciogeafbbggaa", sum := "9b89c8b0ff4e8ffaf3161eee46b73db595ebf5ee38dc0ec7133c0da5dcd95842", func := "provender/provenderlaw11.HistoryWindowsMatchSpec", spec := "historyWindowsMatchSpec", unfollowed := true, recurses := true, plainKeys := false, apart := false, narrowed := true }
def HistoryWindowsMatchSpecUptoSaid : Prop := historyWindowsMatchSpecUptoRow.holds Try.pinned (OpenSpec.upto historyWindowsMatchSpecSpec)

/-- 'provenderlaw11.HistoryWhyMatchesSpec', WHERE WHAT IT READS IS OF BULK AT MOST 1048576: true; the input reads as it did. -/
def historyWhyMatchesSpecUptoRow : OpenClaim := { program := "ytkciogeafbbggaa", sum := "9b89c8b0ff4e8ffaf3161eee46b73db595ebf5ee38dc0ec7133c0da5dcd95842", func := "provender/provenderlaw11.HistoryWhyMatchesSpec", spec := "historyWhyMatchesSpec", unfollowed := true, recurses := true, plainKeys := false, apart := false, narrowed := true }
def HistoryWhyMatchesSpecUptoSaid : Prop := historyWhyMatchesSpecUptoRow.holds Try.pinned (OpenSpec.upto historyWhyMatchesSpecSpec)

/-- 'provenderlaw11.HistoryWindowsAreOpenDays', WHERE WHAT IT READS IS OF BULK AT MOST 1048576: true; the input reads as it did. -/
def historyWindowsAreOpenDaysUptoRow : OpenClaim := { program := "ytkciogeafbbggaa", sum := "9b89c8b0ff4e8ffaf3161eee46b73db595ebf5ee38dc0ec7133c0da5dcd95842", func := "provender/provenderlaw11.HistoryWindowsAreOpenDays", spec := "historyWindowsAreOpenDays", unfollowed := true, recurses := true, plainKeys := false, apart := false, narrowed := true }
def HistoryWindowsAreOpenDaysUptoSaid : Prop := historyWindowsAreOpenDaysUptoRow.holds Try.pinned (OpenSpec.upto historyWindowsAreOpenDaysSpec)

/-- 'provenderlaw11.HistoryCutsMatchSpec', WHERE WHAT IT READS IS OF BULK AT MOST 1048576: true; the input reads as it did. -/
def historyCutsMatchSpecUptoRow : OpenClaim := { program := "ytkciogeafbbggaa", sum := "9b89c8b0ff4e8ffaf3161eee46b73db595ebf5ee38dc0ec7133c0da5dcd95842", func := "provender/provenderlaw11.HistoryCutsMatchSpec", spec := "historyCutsMatchSpec", unfollowed := true, recurses := true, plainKeys := false, apart := false, narrowed := true }
def HistoryCutsMatchSpecUptoSaid : Prop := historyCutsMatchSpecUptoRow.holds Try.pinned (OpenSpec.upto historyCutsMatchSpecSpec)

/-- 'provenderlaw11.HistoryCutsJoin', WHERE WHAT IT READS IS OF BULK AT MOST 1048576: true; the input reads as it did. -/
def historyCutsJoinUptoRow : OpenClaim := { program := "ytkciogeafbbggaa", sum := "9b89c8b0ff4e8ffaf3161eee46b73db595ebf5ee38dc0ec7133c0da5dcd95842", func := "provender/provenderlaw11.HistoryCutsJoin", spec := "historyCutsJoin", unfollowed := true, recurses := true, plainKeys := false, apart := false, narrowed := true }
def HistoryCutsJoinUptoSaid : Prop := historyCutsJoinUptoRow.holds Try.pinned (OpenSpec.upto historyCutsJoinSpec)

/-- 'provenderlaw11.HistoryOverdueMatchesSpec', WHERE WHAT IT READS IS OF BULK AT MOST 1048576: true; the input reads as it did. -/
def historyOverdueMatchesSpecUptoRow : OpenClaim := { program := "ytkciogeafbbggaa", sum := "9b89c8b0ff4e8ffaf3161eee46b73db595ebf5ee38dc0ec7133c0da5dcd95842", func := "provender/provenderlaw11.HistoryOverdueMatchesSpec", spec := "historyOverdueMatchesSpec", inPlace := ["slices.overlaps[int]"], unfollowed := true, recurses := true, plainKeys := false, apart := false, narrowed := true }
def HistoryOverdueMatchesSpecUptoSaid : Prop := historyOverdueMatchesSpecUptoRow.holds Try.pinned (OpenSpec.upto historyOverdueMatchesSpecSpec)

/-- 'provenderlaw11.HistoryNumbersMatchSpec', WHERE WHAT IT READS IS OF BULK AT MOST 1048576: true; the input reads as it did. -/
def historyNumbersMatchSpecUptoRow : OpenClaim := { program := "ytkciogeafbbggaa", sum := "9b89c8b0ff4e8ffaf3161eee46b73db595ebf5ee38dc0ec7133c0da5dcd95842", func := "provender/provenderlaw11.HistoryNumbersMatchSpec", spec := "historyNumbersMatchSpec", unfollowed := true, recurses := true, plainKeys := false, apart := false, narrowed := true }
def HistoryNumbersMatchSpecUptoSaid : Prop := historyNumbersMatchSpecUptoRow.holds Try.pinned (OpenSpec.upto historyNumbersMatchSpecSpec)

end Rows
end Go.Proofs.Ytkciogeafbbggaa
