/- The framework of walks over abstract values (own text), part Z. -/
import Derived.Test.YtihfhmibfhkoeaaDoorHPvV
import Derived.Test.YtihfhmibfhkoeaaDoorHPvN
import Derived.Shelf.Sort.Plain
import Derived.Laws.MakeOwn
import Derived.Shelf.Slices.In.SortNone
import Derived.Below
import Derived.Laws.AppendOwn
namespace Go.Pv
open Go Go.RowKit
theorem grew_below {m : Mem} {w w' : World} (hm : ∀ (b : Nat) o, m b = some o → w.heap[b]? = some o) (h : Below w.heap.size w w') : Grew m m w w' :=
  ⟨Mem.le_refl _, fun b o hb => by rw [h.block b (lt_of_some (hm b o hb))]; exact hm b o hb, fun _ _ => rfl, h.block, h.size, ⟨h.os, h.tape, h.output⟩⟩
theorem irels_con {m : Mem} {vs : Array Value} : ∀ {l : List Value}, IRels m (l.map V.con) vs → vs = l.toArray := by
  intro l h
  apply Array.ext
  · have := h.len; simp at this ⊢; omega
  · intro i h1 h2
    have := h.at' i (.con (l[i]'(by simpa using h2))) vs[i] (by simp [List.getElem?_eq_getElem (show i < l.length by simpa using h2)]) (by simp [h1])
    generalize vs[i] = x at this ⊢
    cases this
    simp
/-- A function of the library that is handed values and returns one; what was there stays. -/
theorem pure_below {gl : Gl} {P : Program} {f : FuncId} {l : List Value} {d : V} {v : Value} (h : ∀ w, Calls P f l.toArray w fun e w' => e = .returned v ∧ Below w.heap.size w w') (hd : ∀ m, IRel m d v) : PureG gl P f (l.map V.con) d := by
  intro m w vs himm _ hargs
  obtain rfl := irels_con hargs
  refine (h w).mono ?_
  rintro e w' ⟨rfl, hb⟩
  exact ⟨v, m, rfl, hd m, grew_below himm hb⟩
theorem MutG.heap {gl : Gl} {P : Program} {f : FuncId} {args : List V} {k k' : Nat} {hp hp' hp'' : Heap} {d : V} (h : MutG gl P f args k hp d k' hp') (he : ∀ q, hget hp'' q = hget hp' q) : MutG gl P f args k hp d k' hp'' := by
  intro m β w vs a1 a2 a3 a4 a5 a6 a7
  refine (h m β w vs a1 a2 a3 a4 a5 a6 a7).mono ?_
  rintro e w' ⟨v, m', β', e1, e2, A⟩
  refine ⟨v, m', β', e1, e2, ⟨A.le, A.imm, A.old, A.size, A.same, fun id => by rw [he]; exact A.own id, fun id b cap hl => A.priv id b cap (by rwa [he] at hl), fun id id' b c c' hl hl' => A.inj id id' b c c' (by rwa [he] at hl) (by rwa [he] at hl'), A.nx, A.pin⟩⟩
section
variable {K : Ctx} {Q : Post} {S : St}
variable {ops : Array Oper} {rest : List Oper} {ty : TypeId} {pos : String} {after : Array Edge} {g : Option (Nat × Bool)}
end
end Go.Pv
