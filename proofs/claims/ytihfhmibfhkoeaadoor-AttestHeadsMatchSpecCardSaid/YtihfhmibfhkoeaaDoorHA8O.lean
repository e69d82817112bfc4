/- Part of the proof: A8O. -/
import Derived.Test.YtihfhmibfhkoeaaDoorHA8T
import Derived.Test.YtihfhmibfhkoeaaDoorHPvK
import Derived.KernelRfl
namespace Go.Proofs.YtihfhmibfhkoeaaDoor
open Go Go.Pv
set_option linter.unusedVariables false
set_option maxRecDepth 100000
theorem opens_9 : Opens Tryd.prog 9 (fun x => [sV x]) (fun x : (List UInt8) => (x.length + 1)) (fun x : (List UInt8) => (x.length ≤ 140737488351232)) := opens_stringW (show Tryd.prog.underlying 9 = some (.string) by kernel_rfl)
theorem opensV_9 : OpensV Tryd.prog 9 (fun x => sV x) (fun x : (List UInt8) => (x.length + 1)) (fun x : (List UInt8) => (x.length ≤ 140737488351232)) := opensV_cell (by kernel_rfl) opens_9
theorem opens_3 : Opens Tryd.prog 3 (fun x => [V.con (.int .i64 x)]) (fun x : Int => 1) (fun x : Int => ((IntKind.i64).min ≤ x ∧ x ≤ (IntKind.i64).max)) := opens_int (show Tryd.prog.underlying 3 = some (.int .i64) by kernel_rfl)
theorem opensV_3 : OpensV Tryd.prog 3 (fun x => V.con (.int .i64 x)) (fun x : Int => 1) (fun x : Int => ((IntKind.i64).min ≤ x ∧ x ≤ (IntKind.i64).max)) := opensV_cell (by kernel_rfl) opens_3
def szTKey (x : TKey) : Nat := (x.Name.length + 1) + ((x.Secret.length + 1) + ((x.Public.length + 1) + 0)) + 1
def okTKey (x : TKey) : Prop := (x.Name.length ≤ 140737488351232) ∧ ((x.Secret.length ≤ 140737488351232) ∧ ((x.Public.length ≤ 140737488351232) ∧ True))
theorem opens_23 : Opens Tryd.prog 23 encTKey szTKey okTKey := opens_map (opens_struct (fs := [(9, 0, 1), (9, 1, 1), (9, 2, 1)]) (by kernel_rfl) (by kernel_rfl) (fopens_cons opens_9 (fopens_cons opens_9 (fopens_cons opens_9 fopens_nil)))) (fun p => TKey.mk p.1 p.2.1 p.2.2.1) (fun _ => rfl) (fun _ => rfl) (fun _ h => h)
theorem opensV_23 : OpensV Tryd.prog 23 (fun x => V.agg (encTKey x)) szTKey okTKey := opensV_agg (fs := [(9, 0, 1), (9, 1, 1), (9, 2, 1)]) (by kernel_rfl) opens_23
def szTSignature (x : TSignature) : Nat := (x.Key.length + 1) + ((x.Text.length + 1) + 0) + 1
def okTSignature (x : TSignature) : Prop := (x.Key.length ≤ 140737488351232) ∧ ((x.Text.length ≤ 140737488351232) ∧ True)
theorem opens_25 : Opens Tryd.prog 25 encTSignature szTSignature okTSignature := opens_map (opens_struct (fs := [(9, 0, 1), (9, 1, 1)]) (by kernel_rfl) (by kernel_rfl) (fopens_cons opens_9 (fopens_cons opens_9 fopens_nil))) (fun p => TSignature.mk p.1 p.2.1) (fun _ => rfl) (fun _ => rfl) (fun _ h => h)
def szTHead (x : THead) : Nat := 1 + ((x.Root.length + 1) + ((szTSignature x.Signature) + 0)) + 1
def okTHead (x : THead) : Prop := ((IntKind.i64).min ≤ x.Size ∧ x.Size ≤ (IntKind.i64).max) ∧ ((x.Root.length ≤ 140737488351232) ∧ ((okTSignature x.Signature) ∧ True))
theorem opens_37 : Opens Tryd.prog 37 encTHead szTHead okTHead := opens_map (opens_struct (fs := [(3, 0, 1), (9, 1, 1), (25, 2, 2)]) (by kernel_rfl) (by kernel_rfl) (fopens_cons opens_3 (fopens_cons opens_9 (fopens_cons opens_25 fopens_nil)))) (fun p => THead.mk p.1 p.2.1 p.2.2.1) (fun _ => rfl) (fun _ => rfl) (fun _ h => h)
theorem opensV_37 : OpensV Tryd.prog 37 (fun x => V.agg (encTHead x)) szTHead okTHead := opensV_agg (fs := [(3, 0, 1), (9, 1, 1), (25, 2, 2)]) (by kernel_rfl) opens_37
end Go.Proofs.YtihfhmibfhkoeaaDoor
