/- The framework of walks over abstract values (own text), part Z. -/
import Derived.Test.YtkciogeafbbggaaOPvV
import Derived.Test.YtkciogeafbbggaaOPvN
import Derived.Shelf.Sort.Plain
import Derived.Laws.MakeOwn
import Derived.Shelf.Slices.In.SortNone
import Derived.Below
import Derived.Laws.AppendOwn
namespace Go.Pv
open Go Go.RowKit
theorem Mut.heap {P : Program} {f : FuncId} {args : List V} {k k' : Nat} {hp hp' hp'' : Heap} {d : V} (h : Mut P f args k hp d k' hp') (he : ∀ q, hget hp'' q = hget hp' q) : Mut P f args k hp d k' hp'' := by
  intro m β w vs a1 a2 a3 a4 a5 a6
  refine (h m β w vs a1 a2 a3 a4 a5 a6).mono ?_
  rintro e w' ⟨v, m', β', e1, e2, A⟩
  refine ⟨v, m', β', e1, e2, ⟨A.le, A.imm, A.old, A.size, A.same, fun id => by rw [he]; exact A.own id, fun id b cap hl => A.priv id b cap (by rwa [he] at hl), fun id id' b c c' hl hl' => A.inj id id' b c c' (by rwa [he] at hl) (by rwa [he] at hl'), A.nx, A.pin⟩⟩
section
variable {K : Ctx} {Q : Post} {S : St}
variable {ops : Array Oper} {rest : List Oper} {ty : TypeId} {pos : String} {after : Array Edge} {g : Option (Nat × Bool)}
end
end Go.Pv
