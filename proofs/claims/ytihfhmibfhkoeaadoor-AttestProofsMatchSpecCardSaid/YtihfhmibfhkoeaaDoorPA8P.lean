/- Part of the proof: A8P. -/
import Derived.Test.YtihfhmibfhkoeaaDoorPA8O
import Derived.Test.YtihfhmibfhkoeaaDoorPA8H
import Derived.Test.YtihfhmibfhkoeaaDoorPA8I
namespace Go.Proofs.YtihfhmibfhkoeaaDoor
open Go Go.Pv
set_option linter.unusedVariables false
theorem maxLen_of {n : Nat} (h : n ≤ 140737488351232) : n ≤ maxLen := by unfold maxLen; omega
theorem plain_6 (a1 a2 a3 : List UInt8) (a4 a5 a6 : Int) (a7 : List (List UInt8)) (h1 : a1.length ≤ 140737488351232) (h2 : a2.length ≤ 140737488351232) (h3 : a3.length ≤ 140737488351232) (_ : (IntKind.i64).min ≤ a4 ∧ a4 ≤ (IntKind.i64).max) (_ : (IntKind.i64).min ≤ a5 ∧ a5 ≤ (IntKind.i64).max) (_ : (IntKind.i64).min ≤ a6 ∧ a6 ≤ (IntKind.i64).max)
    (h7 : (∀ a, a ∈ a7 → (fun x : (List UInt8) => (x.length ≤ 140737488351232)) a) ∧ a7.length ≤ maxLen) : ∃ F, M6 F a1 a2 a3 a4 a5 a6 a7 = some true :=
  pl_6 a1 a2 a3 a4 a5 a6 a7 (maxLen_of h1) (maxLen_of h2) (maxLen_of h3) (fun x hx => maxLen_of (h7.1 x hx))
end Go.Proofs.YtihfhmibfhkoeaaDoor
