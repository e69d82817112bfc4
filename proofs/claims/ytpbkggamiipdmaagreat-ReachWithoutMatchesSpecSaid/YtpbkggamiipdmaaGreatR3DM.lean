/- Part of the proof: DM. -/
import Derived.Test.YtpbkggamiipdmaaGreatR3DQ
namespace Go.Pv
open Go
section
variable {K : Ctx} {Q : Post} {S : St}
variable {m : Mem} {β : Locs} {w : World} {a : Act}
variable {ops : Array Oper} {rest : List Oper} {ty : TypeId} {pos : String} {after : Array Edge} {g : Option (Nat × Bool)}
theorem map_loc (r : Rel K m β w a S) {id : Nat} {es : List (Value × V)} (ho : hget S.hp id = .map es) : ∃ b cap, β id = some (some (b, cap)) := by
  have hown := r.own id
  rw [ho] at hown
  match hh : β id, hown with
  | none, hown => simp [ObOk] at hown
  | some none, hown => simp [ObOk] at hown
  | some (some (b, cap)), _ => exact ⟨b, cap, rfl⟩
/-- The first entry with a key: its number, and its value; or none. -/
inductive LookT (x : Value) (nx e k : Nat) : List (Value × V) → List (Value × V) → List (List V) → Prop
  | nil : LookT x nx e k [] [] []
  | here {rws : List (List V)} {es : List (Value × V)} : LookT x nx e k ((x, .dsl e k rws) :: es) ((x, .own nx rws.length) :: es) rws
  | there {q : Value} {v : V} {es es' : List (Value × V)} {rws : List (List V)} (h : q ≠ x) (h' : LookT x nx e k es es' rws) : LookT x nx e k ((q, v) :: es) ((q, v) :: es') rws
theorem LookT.cases {x : Value} {nx e k : Nat} {es es' : List (Value × V)} {rws : List (List V)} (h : LookT x nx e k es es' rws) :
    (es' = es ∧ rws = [] ∧ ∀ p, p ∈ es → p.1 ≠ x) ∨ ∃ i, es[i]? = some (x, .dsl e k rws) ∧ es' = es.set i (x, .own nx rws.length) ∧ Look x es' (some (.own nx rws.length)) := by
  induction h with
  | nil => exact .inl ⟨rfl, rfl, by simp⟩
  | here => exact .inr ⟨0, rfl, rfl, .here⟩
  | @there q v es es' rws h h' ih =>
    rcases ih with ⟨h1, h2, h3⟩ | ⟨i, h1, h2, h3⟩
    · refine .inl ⟨by rw [h1], h2, fun p hp => ?_⟩
      rcases List.mem_cons.1 hp with e | e
      · rw [e]; exact h
      · exact h3 p e
    · exact .inr ⟨i + 1, by simpa using h1, by rw [h2]; rfl, .there h h3⟩
end
end Go.Pv
namespace Go.Pv
open Go
section
variable {K : Ctx} {Q : Post} {S : St}
variable {m : Mem} {β : Locs} {w : World} {a : Act}
variable {ops : Array Oper} {rest : List Oper} {ty : TypeId} {pos : String} {after : Array Edge} {g : Option (Nat × Bool)}
theorem Puts.other {x : Value} {v : V} {es es3 : List (Value × V)} (h : Puts x v es es3) (v' : V) : ∃ es2 i, Puts x v' es es2 ∧ es2[i]? = some (x, v') ∧ es3 = es2.set i (x, v) := by
  induction h with
  | nil => exact ⟨[(x, v')], 0, .nil, rfl, rfl⟩
  | @here v0 es => exact ⟨(x, v') :: es, 0, .here, rfl, rfl⟩
  | @there k v0 es es3 h h' ih =>
    obtain ⟨es2, i, h1, h2, h3⟩ := ih
    exact ⟨(k, v0) :: es2, i + 1, .there h h1, by simpa using h2, by rw [h3]; rfl⟩
theorem ghost_congr {S' : St} (he : ∀ t, get S'.env t = get S.env t) (hh : ∀ t, hget S'.hp t = hget S.hp t) (hn : S'.nx = S.nx) : Ghost K S S' := fun m β _ _ r => ⟨m, β, r.congr he hh hn⟩
variable {κ α : Type} [DecidableEq κ]
/-- Entries in which the value by a key is the object nx, for a time. -/
def holeM (E : κ × List α → Value × V) (nx : Nat) (k0 : κ) : List (κ × List α) → List (Value × V)
  | [] => []
  | p :: xs => if p.1 = k0 then ((E p).1, .own nx p.2.length) :: xs.map E else E p :: holeM E nx k0 xs
theorem lookT_enc (E : κ × List α → Value × V) (kf : κ → Value) (enc : α → List V) (e k nx : Nat) (hE : ∀ p, E p = (kf p.1, .dsl e k (p.2.map enc))) (hk : ∀ a b, kf a = kf b → a = b) (k0 : κ) :
    ∀ xs : List (κ × List α), LookT (kf k0) nx e k (xs.map E) (holeM E nx k0 xs) (((mget xs k0).getD []).map enc)
  | [] => .nil
  | p :: xs => by
    obtain ⟨q, l⟩ := p
    simp only [List.map_cons, holeM, mget, hE]
    by_cases h : q = k0
    · subst h
      simp only [if_pos]
      have : l.length = (l.map enc).length := by simp
      rw [this]; exact .here
    · rw [if_neg h, if_neg h]
      exact .there (fun e => h (hk _ _ e)) (lookT_enc E kf enc e k nx hE hk k0 xs)
theorem puts_hole (E : κ × List α → Value × V) (kf : κ → Value) (enc : α → List V) (e k nx : Nat) (hE : ∀ p, E p = (kf p.1, .dsl e k (p.2.map enc))) (hk : ∀ a b, kf a = kf b → a = b) (k0 : κ) (l' : List α) :
    ∀ xs : List (κ × List α), Puts (kf k0) (.dsl e k (l'.map enc)) (holeM E nx k0 xs) ((mput xs k0 l').map E)
  | [] => by simp only [holeM, mput, List.map_cons, List.map_nil, hE]; exact .nil
  | p :: xs => by
    obtain ⟨q, l⟩ := p
    simp only [holeM, mput]
    by_cases h : q = k0
    · subst h
      simp only [if_pos, hE, List.map_cons]; exact .here
    · rw [if_neg h, if_neg h]
      simp only [hE, List.map_cons]
      exact .there (fun e => h (hk _ _ e)) (by have := puts_hole E kf enc e k nx hE hk k0 l' xs; simpa only [hE] using this)
end
end Go.Pv
