/- Part of the proof: A8O. -/
import Derived.Test.YtihfhmibfhkoeaaDoorSA8T
import Derived.Test.YtihfhmibfhkoeaaDoorSPvK
import Derived.KernelRfl
namespace Go.Proofs.YtihfhmibfhkoeaaDoor
open Go Go.Pv
set_option linter.unusedVariables false
set_option maxRecDepth 100000
theorem opens_9 : Opens Tryd.prog 9 (fun x => [sV x]) (fun x : (List UInt8) => (x.length + 1)) (fun x : (List UInt8) => (x.length ≤ 140737488351232)) := opens_stringW (show Tryd.prog.underlying 9 = some (.string) by kernel_rfl)
theorem opensV_9 : OpensV Tryd.prog 9 (fun x => sV x) (fun x : (List UInt8) => (x.length + 1)) (fun x : (List UInt8) => (x.length ≤ 140737488351232)) := opensV_cell (by kernel_rfl) opens_9
def szTKey (x : TKey) : Nat := (x.Name.length + 1) + ((x.Secret.length + 1) + ((x.Public.length + 1) + 0)) + 1
def okTKey (x : TKey) : Prop := (x.Name.length ≤ 140737488351232) ∧ ((x.Secret.length ≤ 140737488351232) ∧ ((x.Public.length ≤ 140737488351232) ∧ True))
theorem opens_23 : Opens Tryd.prog 23 encTKey szTKey okTKey := opens_map (opens_struct (fs := [(9, 0, 1), (9, 1, 1), (9, 2, 1)]) (by kernel_rfl) (by kernel_rfl) (fopens_cons opens_9 (fopens_cons opens_9 (fopens_cons opens_9 fopens_nil)))) (fun p => TKey.mk p.1 p.2.1 p.2.2.1) (fun _ => rfl) (fun _ => rfl) (fun _ h => h)
theorem opensV_23 : OpensV Tryd.prog 23 (fun x => V.agg (encTKey x)) szTKey okTKey := opensV_agg (fs := [(9, 0, 1), (9, 1, 1), (9, 2, 1)]) (by kernel_rfl) opens_23
end Go.Proofs.YtihfhmibfhkoeaaDoor
