/- Part of the proof: A8P. -/
import Derived.Test.YtihfhmibfhkoeaaDoorHA8O
import Derived.Test.YtihfhmibfhkoeaaDoorHA8H
import Derived.Test.YtihfhmibfhkoeaaDoorHA8I
namespace Go.Proofs.YtihfhmibfhkoeaaDoor
open Go Go.Pv
set_option linter.unusedVariables false
theorem maxLen_of {n : Nat} (h : n ≤ 140737488351232) : n ≤ maxLen := by unfold maxLen; omega
theorem plain_5 (a1 : TKey) (a2 : Int) (a3 : List UInt8) (a4 : THead) (h1 : okTKey a1) (_ : (IntKind.i64).min ≤ a2 ∧ a2 ≤ (IntKind.i64).max) (h3 : a3.length ≤ 140737488351232) (h4 : okTHead a4) : ∃ F, M5 F a1 a2 a3 a4 = some true :=
  pl_5 a1 a2 a3 a4 (maxLen_of h1.1) (by have := h1.2.1; unfold maxLen; omega) (maxLen_of h1.2.2.1) (maxLen_of h3) (maxLen_of h4.2.1)
end Go.Proofs.YtihfhmibfhkoeaaDoor
