/- Part of the proof: ATO. -/
import Derived.Test.YtiphmdpaajjdeaaGreatDoorGATT
import Derived.Test.YtiphmdpaajjdeaaGreatDoorGPvK
import Derived.KernelRfl
namespace Go.Proofs.YtiphmdpaajjdeaaGreatDoor
open Go Go.Pv
set_option linter.unusedVariables false
set_option maxRecDepth 100000
theorem opens_9 : Opens Tryz.prog 9 (fun x => [sV x]) (fun x : (List UInt8) => (x.length + 1)) (fun x : (List UInt8) => (x.length ≤ 140737488351232)) := opens_stringW (show Tryz.prog.underlying 9 = some (.string) by kernel_rfl)
theorem opens_50 : Opens Tryz.prog 50 (fun l => [V.lst 1 (l.map encS)]) (fun x : (List (List UInt8)) => ((x.map (fun x : (List UInt8) => (x.length + 1))).sum + 1)) (fun x : (List (List UInt8)) => ((∀ a, a ∈ x → (fun x : (List UInt8) => (x.length ≤ 140737488351232)) a) ∧ x.length ≤ maxLen)) := opens_slice (show Tryz.prog.underlying 50 = some (.slice 9) by kernel_rfl) (by kernel_rfl) (by decide) opens_9
theorem opensV_50 : OpensV Tryz.prog 50 (fun l => V.lst 1 (l.map encS)) (fun x : (List (List UInt8)) => ((x.map (fun x : (List UInt8) => (x.length + 1))).sum + 1)) (fun x : (List (List UInt8)) => ((∀ a, a ∈ x → (fun x : (List UInt8) => (x.length ≤ 140737488351232)) a) ∧ x.length ≤ maxLen)) := opensV_cell (by kernel_rfl) opens_50
theorem opens_3 : Opens Tryz.prog 3 (fun x => [V.con (.int .i64 x)]) (fun x : Int => 1) (fun x : Int => ((IntKind.i64).min ≤ x ∧ x ≤ (IntKind.i64).max)) := opens_int (show Tryz.prog.underlying 3 = some (.int .i64) by kernel_rfl)
theorem opensV_3 : OpensV Tryz.prog 3 (fun x => V.con (.int .i64 x)) (fun x : Int => 1) (fun x : Int => ((IntKind.i64).min ≤ x ∧ x ≤ (IntKind.i64).max)) := opensV_cell (by kernel_rfl) opens_3
theorem opensV_9 : OpensV Tryz.prog 9 (fun x => sV x) (fun x : (List UInt8) => (x.length + 1)) (fun x : (List UInt8) => (x.length ≤ 140737488351232)) := opensV_cell (by kernel_rfl) opens_9
end Go.Proofs.YtiphmdpaajjdeaaGreatDoor
