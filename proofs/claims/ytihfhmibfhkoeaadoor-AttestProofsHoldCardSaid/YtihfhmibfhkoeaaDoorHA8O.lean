/- Part of the proof: A8O. -/
import Derived.Test.YtihfhmibfhkoeaaDoorHA8T
import Derived.Test.YtihfhmibfhkoeaaDoorHPvK
import Derived.KernelRfl
namespace Go.Proofs.YtihfhmibfhkoeaaDoor
open Go Go.Pv
set_option linter.unusedVariables false
set_option maxRecDepth 100000
theorem opens_9 : Opens Tryd.prog 9 (fun x => [sV x]) (fun x : (List UInt8) => (x.length + 1)) (fun x : (List UInt8) => (x.length ≤ 140737488351232)) := opens_stringW (show Tryd.prog.underlying 9 = some (.string) by kernel_rfl)
theorem opens_42 : Opens Tryd.prog 42 (fun l => [V.lst 1 (l.map encS)]) (fun x : (List (List UInt8)) => ((x.map (fun x : (List UInt8) => (x.length + 1))).sum + 1)) (fun x : (List (List UInt8)) => ((∀ a, a ∈ x → (fun x : (List UInt8) => (x.length ≤ 140737488351232)) a) ∧ x.length ≤ maxLen)) := opens_slice (show Tryd.prog.underlying 42 = some (.slice 9) by kernel_rfl) (by kernel_rfl) (by decide) opens_9
theorem opensV_42 : OpensV Tryd.prog 42 (fun l => V.lst 1 (l.map encS)) (fun x : (List (List UInt8)) => ((x.map (fun x : (List UInt8) => (x.length + 1))).sum + 1)) (fun x : (List (List UInt8)) => ((∀ a, a ∈ x → (fun x : (List UInt8) => (x.length ≤ 140737488351232)) a) ∧ x.length ≤ maxLen)) := opensV_cell (by kernel_rfl) opens_42
theorem opens_3 : Opens Tryd.prog 3 (fun x => [V.con (.int .i64 x)]) (fun x : Int => 1) (fun x : Int => ((IntKind.i64).min ≤ x ∧ x ≤ (IntKind.i64).max)) := opens_int (show Tryd.prog.underlying 3 = some (.int .i64) by kernel_rfl)
theorem opensV_3 : OpensV Tryd.prog 3 (fun x => V.con (.int .i64 x)) (fun x : Int => 1) (fun x : Int => ((IntKind.i64).min ≤ x ∧ x ≤ (IntKind.i64).max)) := opensV_cell (by kernel_rfl) opens_3
end Go.Proofs.YtihfhmibfhkoeaaDoor
