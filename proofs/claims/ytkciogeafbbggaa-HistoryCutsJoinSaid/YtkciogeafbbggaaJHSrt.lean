/- Part of the proof: HSrt. -/
import Derived.Test.YtkciogeafbbggaaJHOpn
import Derived.Test.YtkciogeafbbggaaJPvY
namespace Go.Proofs.Ytkciogeafbbggaa
open Go Go.Pv
set_option linter.unusedVariables false
theorem bl_wk {a b c : List UInt8} (h : Op.bytesLess a b = false) (g : Op.bytesLess b c = false) : Op.bytesLess a c = false := by
  rcases bl_tri a b with h1 | h1 | h1
  · rw [h1] at h; simp at h
  · subst h1; exact g
  · rcases bl_tri b c with g1 | g1 | g1
    · rw [g1] at g; simp at g
    · subst g1; exact bl_asymm h1
    · exact bl_asymm (bl_trans g1 h1)
end Go.Proofs.Ytkciogeafbbggaa
