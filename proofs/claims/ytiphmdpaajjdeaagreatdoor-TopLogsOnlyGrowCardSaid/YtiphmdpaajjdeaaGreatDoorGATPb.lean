/- Part of the proof: ATPb. -/
import Derived.Test.YtiphmdpaajjdeaaGreatDoorGATO
import Derived.Test.YtiphmdpaajjdeaaGreatDoorGATP
namespace Go.Proofs.YtiphmdpaajjdeaaGreatDoor
open Go Go.Pv
theorem plain_4 (a1 : List (List UInt8)) (a2 : Int) (a3 : List UInt8) (a4 a5 : Int) (_ : (∀ a, a ∈ a1 → (fun x : (List UInt8) => (x.length ≤ 140737488351232)) a) ∧ a1.length ≤ maxLen) (_ : (IntKind.i64).min ≤ a2 ∧ a2 ≤ (IntKind.i64).max) (_ : a3.length ≤ 140737488351232) (_ : (IntKind.i64).min ≤ a4 ∧ a4 ≤ (IntKind.i64).max) (_ : (IntKind.i64).min ≤ a5 ∧ a5 ≤ (IntKind.i64).max) : ∃ F, M4 F a1 a2 a3 a4 a5 = some true := pl_4 a1 a2 a3 a4 a5
end Go.Proofs.YtiphmdpaajjdeaaGreatDoor
