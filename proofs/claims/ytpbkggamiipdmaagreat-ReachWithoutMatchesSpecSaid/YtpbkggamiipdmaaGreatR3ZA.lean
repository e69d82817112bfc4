/- Part of the proof: ZA. -/
import Derived.Test.YtpbkggamiipdmaaGreatR3PvZ
import Derived.Laws.BytesArg
import Derived.Stop.BytesEq
import Derived.Lib.Repeat
import Derived.Lib.LaidTab
import Derived.Lib.ItoaNum
import Derived.Shelf.Strconv.Itoa3
namespace Go.Pv
open Go
section
variable {K : Ctx} {Q : Post} {S : St} {ops : Array Oper} {rest : List Oper} {ty : TypeId} {pos : String} {after : Array Edge} {g : Option (Nat × Bool)}
theorem binS_shl {k k' : IntKind} {a b : Int} (h : 0 ≤ b) : binS .shl (.int k a) (.int k' b) = some (.int k (k.wrap (a * 2 ^ (min b.toNat k.bits)))) := by
  unfold binS
  simp only
  rw [if_neg (by omega)]
end
section
variable {K : Ctx} {Q : Post} {S : St} {ops : Array Oper} {rest : List Oper} {ty : TypeId} {pos : String} {after : Array Edge} {g : Option (Nat × Bool)}
end
end Go.Pv
