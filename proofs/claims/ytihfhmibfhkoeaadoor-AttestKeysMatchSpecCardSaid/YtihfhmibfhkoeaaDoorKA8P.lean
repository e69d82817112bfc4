/- Part of the proof: A8P. -/
import Derived.Test.YtihfhmibfhkoeaaDoorKA8O
import Derived.Test.YtihfhmibfhkoeaaDoorKA8L
namespace Go.Proofs.YtihfhmibfhkoeaaDoor
open Go Go.Pv
theorem maxLen_of {n : Nat} (h : n ≤ 140737488351232) : n ≤ maxLen := by unfold maxLen; omega
theorem plain_3 (a1 a2 : List UInt8) (a3 : TKey) (a4 : List UInt8) (a5 : TSignature) (h1 : a1.length ≤ 140737488351232) (_ : a2.length ≤ 140737488351232) (h3 : okTKey a3) (_ : a4.length ≤ 140737488351232) (_ : okTSignature a5) : ∃ F, M3 F a1 a2 a3 a4 a5 = some true :=
  pl_3 a1 a2 a3 a4 a5 (maxLen_of h1) (maxLen_of h3.1) (maxLen_of h3.2.2.1) (by have := h3.2.1; unfold maxLen; omega)
end Go.Proofs.YtihfhmibfhkoeaaDoor
