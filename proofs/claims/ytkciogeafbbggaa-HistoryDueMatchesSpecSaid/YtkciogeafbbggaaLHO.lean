/- Part of the proof: HO. -/
import Derived.Test.YtkciogeafbbggaaLHT
import Derived.Test.YtkciogeafbbggaaPvK
import Derived.KernelRfl
namespace Go.Proofs.Ytkciogeafbbggaa
open Go Go.Pv
set_option linter.unusedVariables false
set_option maxRecDepth 100000
theorem opens_3 : Opens Try.prog 3 (fun x => [V.con (.int .i64 x)]) (fun x : Int => 1) (fun x : Int => ((IntKind.i64).min ≤ x ∧ x ≤ (IntKind.i64).max)) := opens_int (show Try.prog.underlying 3 = some (.int .i64) by kernel_rfl)
theorem opens_22 : Opens Try.prog 22 (fun l => [V.lst 1 (l.map encI_i64)]) (fun x : (List Int) => ((x.map (fun x : Int => 1)).sum + 1)) (fun x : (List Int) => ((∀ a, a ∈ x → (fun x : Int => ((IntKind.i64).min ≤ x ∧ x ≤ (IntKind.i64).max)) a) ∧ x.length ≤ maxLen)) := opens_slice (show Try.prog.underlying 22 = some (.slice 3) by kernel_rfl) (by kernel_rfl) (by decide) opens_3
def szTCalendar (x : TCalendar) : Nat := ((x.Free.map (fun x : Int => 1)).sum + 1) + (((x.Holidays.map (fun x : Int => 1)).sum + 1) + 0) + 1
def okTCalendar (x : TCalendar) : Prop := ((∀ a, a ∈ x.Free → (fun x : Int => ((IntKind.i64).min ≤ x ∧ x ≤ (IntKind.i64).max)) a) ∧ x.Free.length ≤ maxLen) ∧ (((∀ a, a ∈ x.Holidays → (fun x : Int => ((IntKind.i64).min ≤ x ∧ x ≤ (IntKind.i64).max)) a) ∧ x.Holidays.length ≤ maxLen) ∧ True)
theorem opens_24 : Opens Try.prog 24 encTCalendar szTCalendar okTCalendar := opens_map (opens_struct (fs := [(22, 0, 1), (22, 1, 1)]) (by kernel_rfl) (by kernel_rfl) (fopens_cons opens_22 (fopens_cons opens_22 fopens_nil))) (fun p => TCalendar.mk p.1 p.2.1) (fun _ => rfl) (fun _ => rfl) (fun _ h => h)
theorem opensV_24 : OpensV Try.prog 24 (fun x => V.agg (encTCalendar x)) szTCalendar okTCalendar := opensV_agg (fs := [(22, 0, 1), (22, 1, 1)]) (by kernel_rfl) opens_24
def szTTerm (x : TTerm) : Nat := 1 + (1 + 0) + 1
def okTTerm (x : TTerm) : Prop := ((IntKind.i64).min ≤ x.Severity ∧ x.Severity ≤ (IntKind.i64).max) ∧ (((IntKind.i64).min ≤ x.Days ∧ x.Days ≤ (IntKind.i64).max) ∧ True)
theorem opens_113 : Opens Try.prog 113 encTTerm szTTerm okTTerm := opens_map (opens_struct (fs := [(3, 0, 1), (3, 1, 1)]) (by kernel_rfl) (by kernel_rfl) (fopens_cons opens_3 (fopens_cons opens_3 fopens_nil))) (fun p => TTerm.mk p.1 p.2.1) (fun _ => rfl) (fun _ => rfl) (fun _ h => h)
theorem opens_33 : Opens Try.prog 33 (fun l => [V.lst 2 (l.map encTTerm)]) (fun x : (List TTerm) => ((x.map (fun x : TTerm => (szTTerm x))).sum + 1)) (fun x : (List TTerm) => ((∀ a, a ∈ x → (fun x : TTerm => (okTTerm x)) a) ∧ x.length ≤ maxLen)) := opens_slice (show Try.prog.underlying 33 = some (.slice 113) by kernel_rfl) (by kernel_rfl) (by decide) opens_113
theorem opensV_33 : OpensV Try.prog 33 (fun l => V.lst 2 (l.map encTTerm)) (fun x : (List TTerm) => ((x.map (fun x : TTerm => (szTTerm x))).sum + 1)) (fun x : (List TTerm) => ((∀ a, a ∈ x → (fun x : TTerm => (okTTerm x)) a) ∧ x.length ≤ maxLen)) := opensV_cell (by kernel_rfl) opens_33
theorem opens_9 : Opens Try.prog 9 (fun x => [sV x]) (fun x : (List UInt8) => (x.length + 1)) (fun x : (List UInt8) => (x.length ≤ maxLen)) := opens_string (show Try.prog.underlying 9 = some (.string) by kernel_rfl)
theorem opens_4 : Opens Try.prog 4 (fun x => [bV x]) (fun x : Bool => 1) (fun x : Bool => True) := opens_bool (show Try.prog.underlying 4 = some (.bool) by kernel_rfl)
def szTWindow (x : TWindow) : Nat := (x.Advisory.length + 1) + ((x.Component.length + 1) + (1 + (1 + (1 + (1 + 0))))) + 1
def okTWindow (x : TWindow) : Prop := (x.Advisory.length ≤ maxLen) ∧ ((x.Component.length ≤ maxLen) ∧ (((IntKind.i64).min ≤ x.Severity ∧ x.Severity ≤ (IntKind.i64).max) ∧ (((IntKind.i64).min ≤ x.From ∧ x.From ≤ (IntKind.i64).max) ∧ (((IntKind.i64).min ≤ x.To ∧ x.To ≤ (IntKind.i64).max) ∧ (True ∧ True)))))
theorem opens_35 : Opens Try.prog 35 encTWindow szTWindow okTWindow := opens_map (opens_struct (fs := [(9, 0, 1), (9, 1, 1), (3, 2, 1), (3, 3, 1), (3, 4, 1), (4, 5, 1)]) (by kernel_rfl) (by kernel_rfl) (fopens_cons opens_9 (fopens_cons opens_9 (fopens_cons opens_3 (fopens_cons opens_3 (fopens_cons opens_3 (fopens_cons opens_4 fopens_nil))))))) (fun p => TWindow.mk p.1 p.2.1 p.2.2.1 p.2.2.2.1 p.2.2.2.2.1 p.2.2.2.2.2.1) (fun _ => rfl) (fun _ => rfl) (fun _ h => h)
theorem opensV_35 : OpensV Try.prog 35 (fun x => V.agg (encTWindow x)) szTWindow okTWindow := opensV_agg (fs := [(9, 0, 1), (9, 1, 1), (3, 2, 1), (3, 3, 1), (3, 4, 1), (4, 5, 1)]) (by kernel_rfl) opens_35
end Go.Proofs.Ytkciogeafbbggaa
