/- The framework of walks over abstract values (own text), part M. -/
import Derived.Test.YtihfhmibfhkoeaaDoorHPvL
namespace Go.Pv
open Go
section
variable {K : Ctx} {Q : Post} {S S' : St} {ops : Array Oper} {rest : List Oper} {op : Op} {ty : TypeId} {pos : String} {after : Array Edge} {g : Option (Nat × Bool)}
variable {m : Mem} {β : Locs} {w : World} {a : Act}
theorem bytes_beq (a b : ByteArray) : (a == b) = decide (a = b) := by
  obtain ⟨a⟩ := a
  obtain ⟨b⟩ := b
  show (a == b) = _
  by_cases h : a = b
  · subst h; simp
  · simp [h]
theorem aops_makeMap {d : Nat} {T : TypeId} (hw : Wants ops S ⟨some d, .makeMap T none, ty, pos, after, g⟩ true) (hN : Nat.blt d K.N = true)
    (kk : AOps K ops rest Q ⟨(d, .map S.nx) :: S.env, (S.nx, .map []) :: S.hp, S.nx + 1⟩) : AOps K ops (⟨some d, .makeMap T none, ty, pos, after, g⟩ :: rest) Q S := by
  refine aops_runs hw (fun m β w a r => ?_) kk
  obtain ⟨β', hle, hnx, r2⟩ := r.alloc (.map #[] 0) (.map []) 0 _ rfl (fun β' hle => ⟨#[], 0, by simp, rfl, by simp⟩)
  refine ⟨.map (some w.heap.size), { w with heap := w.heap.push (.map #[] 0) }, m, β', .inl ?_, Rel.put r2 hN (.map hnx)⟩
  simp only [execOp, Option.map_none]
  rw [Sem.run_bind]
  rfl
theorem VRel.conAgg {vs : List Value} {x : Value} (h : VRel m β (.agg (vs.map .con)) x) : x = .agg vs.toArray := by
  have key : ∀ us : Array Value, (vs.map V.con).length = us.size → (∀ (i : Nat) (c : V) (v : Value), (vs.map V.con)[i]? = some c → us[i]? = some v → VRel m β c v) → us = vs.toArray := by
    intro us hl hh
    apply Array.ext'
    apply List.ext_getElem?
    intro i
    simp only [List.length_map] at hl
    cases hv : vs[i]? with
    | none =>
      have : vs.length ≤ i := List.getElem?_eq_none_iff.1 hv
      rw [List.getElem?_eq_none (by simp; omega)]
    | some v =>
      have hi := (List.getElem?_eq_some_iff.1 hv).1
      have hu : us[i]? = some (us[i]'(by omega)) := Array.getElem?_eq_getElem (by omega)
      have := (hh i (.con v) _ (by simp [hv]) hu).of_con
      rw [Array.getElem?_toList, hu, this]
  cases h with
  | imm h => cases h with | agg hl hh => rw [key _ hl fun i c v a b => .imm (hh i c v a b)]
  | agg hl hh => rw [key _ hl hh]
/-- A key that is known. -/
inductive KeyIs (K : Ctx) (S : St) (y : Operand) : Value → Prop
  | con {kv : Value} (h : evl K S y = .con kv) : KeyIs K S y kv
  | agg (xs : List Value) (h : evl K S y = .agg (xs.map .con)) : KeyIs K S y (.agg xs.toArray)
theorem KeyIs.read {y : Operand} {kv : Value} (h : KeyIs K S y kv) (r : Rel K m β w a S) : a.eval y = kv := by
  cases h with
  | con h => exact r.con h
  | agg xs h =>
    have := r.reads y
    rw [h] at this
    exact this.conAgg
/-- The entries of a map that is known. -/
inductive MapIs (S : St) : V → List (Value × V) → Prop
  | own {id : Nat} {es : List (Value × V)} (h : hget S.hp id = .map es) : MapIs S (.map id) es
  | imm {es : List (Value × V)} : MapIs S (.imap es) es
theorem MapIs.read {x : V} {es : List (Value × V)} (h : MapIs S x es) (r : Rel K m β w a S) {v : Value} (hv : VRel m β x v) :
    ∃ b ents clock, v = .map (some b) ∧ w.heap[b]? = some (.map ents clock) ∧ es.length = ents.size ∧ ∀ (i : Nat) (p : Value × V) (e : MapEntry), es[i]? = some p → ents[i]? = some e → e.key = p.1 ∧ VRel m β p.2 e.val := by
  cases h with
  | @own id _ ho =>
    cases hv with
    | imm h => cases h
    | @map _ b cap hb =>
      have := r.own id
      rw [hb, ho] at this
      obtain ⟨ents, clock, h1, h2, h3⟩ := this
      exact ⟨b, ents, clock, rfl, h1, h2, h3⟩
  | imm =>
    cases hv with
    | imm h => cases h with
      | imap hm hl hk h => exact ⟨_, _, _, rfl, r.imm _ _ hm, hl, fun i p e a b => ⟨hk i p e a b, .imm (h i p e a b)⟩⟩
end
end Go.Pv
