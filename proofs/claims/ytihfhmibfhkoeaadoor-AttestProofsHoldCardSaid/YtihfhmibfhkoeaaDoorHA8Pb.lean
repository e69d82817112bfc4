/- Part of the proof: A8Pb. -/
import Derived.Test.YtihfhmibfhkoeaaDoorHA8O
import Derived.Test.YtihfhmibfhkoeaaDoorHA8S
namespace Go.Proofs.YtihfhmibfhkoeaaDoor
open Go Go.Pv
set_option linter.unusedVariables false
theorem maxLen_is {n : Nat} (h : n ≤ 140737488351232) : n ≤ maxLen := by unfold maxLen; omega
theorem plain_10 (a2 : List (List UInt8)) (a3 a4 a5 : Int) (h2 : (∀ a, a ∈ a2 → (fun x : (List UInt8) => (x.length ≤ 140737488351232)) a) ∧ a2.length ≤ maxLen)
    (_ : (IntKind.i64).min ≤ a3 ∧ a3 ≤ (IntKind.i64).max) (_ : (IntKind.i64).min ≤ a4 ∧ a4 ≤ (IntKind.i64).max) (_ : (IntKind.i64).min ≤ a5 ∧ a5 ≤ (IntKind.i64).max) : ∃ F, M10 F a2 a3 a4 a5 = some true :=
  pl_10 a2 a3 a4 a5 (fun x hx => maxLen_is (h2.1 x hx))
end Go.Proofs.YtihfhmibfhkoeaaDoor
