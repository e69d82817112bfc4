/- Part of the proof: A8P. -/
import Derived.Test.YtihfhmibfhkoeaaDoorSA8O
import Derived.Test.YtihfhmibfhkoeaaDoorSA8L
namespace Go.Proofs.YtihfhmibfhkoeaaDoor
open Go Go.Pv
theorem maxLen_of {n : Nat} (h : n ≤ 140737488351232) : n ≤ maxLen := by unfold maxLen; omega
theorem plain_4 (a1 a2 a3 a4 : List UInt8) (a5 : TKey) (h1 : a1.length ≤ 140737488351232) (_ : a2.length ≤ 140737488351232) (_ : a3.length ≤ 140737488351232) (_ : a4.length ≤ 140737488351232) (h5 : okTKey a5) : ∃ F, M4 F a1 a2 a3 a4 a5 = some true :=
  pl_4 a1 a2 a3 a4 a5 (maxLen_of h1) (maxLen_of h5.1) (maxLen_of h5.2.2.1)
end Go.Proofs.YtihfhmibfhkoeaaDoor
