/- Part of the proof: HO. -/
import Derived.Test.YtkciogeafbbggaaLHT
import Derived.Test.YtkciogeafbbggaaPvK
import Derived.KernelRfl
namespace Go.Proofs.Ytkciogeafbbggaa
open Go Go.Pv
set_option linter.unusedVariables false
set_option maxRecDepth 100000
theorem opens_3 : Opens Try.prog 3 (fun x => [V.con (.int .i64 x)]) (fun x : Int => 1) (fun x : Int => ((IntKind.i64).min ≤ x ∧ x ≤ (IntKind.i64).max)) := opens_int (show Try.prog.underlying 3 = some (.int .i64) by kernel_rfl)
theorem opens_22 : Opens Try.prog 22 (fun l => [V.lst 1 (l.map encI_i64)]) (fun x : (List Int) => ((x.map (fun x : Int => 1)).sum + 1)) (fun x : (List Int) => ((∀ a, a ∈ x → (fun x : Int => ((IntKind.i64).min ≤ x ∧ x ≤ (IntKind.i64).max)) a) ∧ x.length ≤ maxLen)) := opens_slice (show Try.prog.underlying 22 = some (.slice 3) by kernel_rfl) (by kernel_rfl) (by decide) opens_3
def szTCalendar (x : TCalendar) : Nat := ((x.Free.map (fun x : Int => 1)).sum + 1) + (((x.Holidays.map (fun x : Int => 1)).sum + 1) + 0) + 1
def okTCalendar (x : TCalendar) : Prop := ((∀ a, a ∈ x.Free → (fun x : Int => ((IntKind.i64).min ≤ x ∧ x ≤ (IntKind.i64).max)) a) ∧ x.Free.length ≤ maxLen) ∧ (((∀ a, a ∈ x.Holidays → (fun x : Int => ((IntKind.i64).min ≤ x ∧ x ≤ (IntKind.i64).max)) a) ∧ x.Holidays.length ≤ maxLen) ∧ True)
theorem opens_24 : Opens Try.prog 24 encTCalendar szTCalendar okTCalendar := opens_map (opens_struct (fs := [(22, 0, 1), (22, 1, 1)]) (by kernel_rfl) (by kernel_rfl) (fopens_cons opens_22 (fopens_cons opens_22 fopens_nil))) (fun p => TCalendar.mk p.1 p.2.1) (fun _ => rfl) (fun _ => rfl) (fun _ h => h)
theorem opensV_24 : OpensV Try.prog 24 (fun x => V.agg (encTCalendar x)) szTCalendar okTCalendar := opensV_agg (fs := [(22, 0, 1), (22, 1, 1)]) (by kernel_rfl) opens_24
theorem opensV_3 : OpensV Try.prog 3 (fun x => V.con (.int .i64 x)) (fun x : Int => 1) (fun x : Int => ((IntKind.i64).min ≤ x ∧ x ≤ (IntKind.i64).max)) := opensV_cell (by kernel_rfl) opens_3
end Go.Proofs.Ytkciogeafbbggaa
