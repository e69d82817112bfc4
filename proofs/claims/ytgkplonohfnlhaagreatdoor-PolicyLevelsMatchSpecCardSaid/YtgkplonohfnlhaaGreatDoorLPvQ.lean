/- Part of the proof: DP, DQ, DM, DN, DO, DR, ZC, L3T, K, L3O, L3M, Q. -/
import Derived.Test.YtgkplonohfnlhaaGreatDoorLLM
import Derived.Test.YtgkplonohfnlhaaGreatDoorLZA
import Derived.Maps.RangeRun
import Derived.Lib.SlicesCompact
import Derived.Test.YtgkplonohfnlhaaGreatDoorProg
import Derived.KernelRfl
import Derived.Test.YtgkplonohfnlhaaGreatDoorLPvU
import Derived.WideKeyArgs
import Derived.Deep.Slices
import Derived.ProofKit
import Derived.OpenShut
import Derived.JoinedCond
namespace Go.Pv
open Go
set_option linter.unusedVariables false
set_option linter.unusedSimpArgs false
section
variable {K : Ctx} {S : St}
variable {m : Mem} {β : Locs} {w : World} {a : Act}
/-- Blocks to which an object alone leads become an object of their own. -/
theorem Rel.take (r : Rel K m β w a S) {id : Nat} (hl0 : hget S.hp id ≠ .dead) (hnid : id ≠ S.nx) (Bc Bn : Nat → Prop) (loc : Option (Nat × Cap)) (ob' ob2 : Ob) (hsub : ∀ x, Bc x → β.hid id x) (hBn : ∀ x, Bn x → Bc x)
    (hloc : ∀ b' c', loc = some (b', c') → Bc b' ∧ ¬ Bn b') (hobj : ∀ β' : Locs, ObOk m β' w Bn (some loc) ob2)
    (hob : ∀ β' : Locs, β.le β' → β' S.nx = some loc → ObOk m β' w (fun x => β.hid id x ∧ ¬ Bc x) (β id) ob') :
    ∃ m' β', Rel K m' β' w a ⟨S.env, (id, ob') :: (S.nx, ob2) :: S.hp, S.nx + 1⟩ := by
  let β' : Locs := ⟨fun q => if q = S.nx then some loc else β q, fun q => if q = S.nx then Bn else if q = id then (fun x => β.hid id x ∧ ¬ Bc x) else β.hid q⟩
  have en : β' S.nx = some loc := by show (if _ then _ else _) = _; rw [if_pos rfl]
  have eo : ∀ q, q ≠ S.nx → β' q = β q := fun q h => by show (if _ then _ else _) = _; rw [if_neg h]
  have hn : β'.hid S.nx = Bn := by show (if _ then _ else _) = _; rw [if_pos rfl]
  have hid' : β'.hid id = fun x => β.hid id x ∧ ¬ Bc x := by show (if _ then _ else if _ then _ else _) = _; rw [if_neg hnid, if_pos rfl]
  have hoth : ∀ q, q ≠ S.nx → q ≠ id → β'.hid q = β.hid q := fun q h1 h2 => by show (if _ then _ else if _ then _ else _) = _; rw [if_neg h1, if_neg h2]
  have hle : β.le β' := by
    intro q l h
    rw [eo q]
    · exact h
    · intro e; rw [e, r.nx _ (Nat.le_refl _)] at h; simp at h
  have hg : ∀ q, hget ((id, ob') :: (S.nx, ob2) :: S.hp) q = if id = q then ob' else if S.nx = q then ob2 else hget S.hp q := fun q => by rw [hget_put, hget_put]
  have live : ∀ q, q ≠ S.nx → hget ((id, ob') :: (S.nx, ob2) :: S.hp) q ≠ .dead → hget S.hp q ≠ .dead := by
    intro q hq h
    rw [hg] at h
    split at h
    · rename_i e; rw [← e]; exact hl0
    · rw [if_neg (Ne.symm hq)] at h; exact h
  -- the hidden blocks of the new state, seen in the old one
  have hh : ∀ q x, hget ((id, ob') :: (S.nx, ob2) :: S.hp) q ≠ .dead → β'.hid q x → (q = S.nx ∧ Bn x) ∨ (q ≠ S.nx ∧ hget S.hp q ≠ .dead ∧ β.hid q x ∧ (q = id → ¬ Bc x)) := by
    intro q x hl hx
    by_cases e1 : q = S.nx
    · subst e1; rw [hn] at hx; exact .inl ⟨rfl, hx⟩
    · refine .inr ⟨e1, live q e1 hl, ?_⟩
      by_cases e2 : q = id
      · subst e2; rw [hid'] at hx; exact ⟨hx.1, fun _ => hx.2⟩
      · rw [hoth q e1 e2] at hx; exact ⟨hx, fun h => absurd h e2⟩
  refine ⟨m, β', r.imm, r.ext, r.mold, r.frame, r.size, r.same, r.tn, r.df, fun t => (r.env t).mono (Mem.le_refl _) hle, fun q => ?_, fun q b1 c1 hl hb1 => ?_, fun q q' b1 c1 c2 hl hl' hb1 hb2 => ?_, fun q x hl hx => ?_, fun q hq => ?_, fun q hq => ?_⟩
  · rw [hg]
    split
    · rename_i h; subst h
      show ObOk m β' w (β'.hid id) (β' id) _
      rw [hid', eo id hnid]; exact hob β' hle en
    · split
      · rename_i h; subst h
        show ObOk m β' w (β'.hid S.nx) (β' S.nx) _
        rw [hn, en]; exact hobj β'
      · rename_i h1 h2
        show ObOk m β' w (β'.hid q) (β' q) _
        rw [hoth q (Ne.symm h2) (Ne.symm h1), eo q (Ne.symm h2)]
        exact ObOk.mono (Mem.le_refl _) hle (fun _ _ h => h) (fun _ _ => rfl) (r.own q)
  · by_cases e1 : q = S.nx
    · subst e1; rw [en] at hb1
      simp only [Option.some.injEq] at hb1
      have h := r.hid id b1 hl0 (hsub _ (hloc b1 c1 hb1).1)
      exact ⟨h.m, h.old⟩
    · rw [eo q e1] at hb1; exact r.priv q b1 c1 (live q e1 hl) hb1
  · have key : ∀ q c, q ≠ S.nx → hget S.hp q ≠ .dead → β q = some (some (b1, c)) → ∀ c', loc = some (b1, c') → False := by
      intro q c _ hl hbq c' hc
      exact (r.hid id b1 hl0 (hsub _ (hloc b1 c' hc).1)).ne q b1 c hl hbq rfl
    by_cases e1 : q = S.nx <;> by_cases e2 : q' = S.nx
    · rw [e1, e2]
    · exfalso; subst e1
      rw [en] at hb1; rw [eo q' e2] at hb2
      simp only [Option.some.injEq] at hb1
      exact key q' c2 e2 (live q' e2 hl') hb2 c1 hb1
    · exfalso; subst e2
      rw [en] at hb2; rw [eo q e1] at hb1
      simp only [Option.some.injEq] at hb2
      exact key q c1 e1 (live q e1 hl) hb1 c2 hb2
    · rw [eo q e1] at hb1; rw [eo q' e2] at hb2
      exact r.inj q q' b1 c1 c2 (live q e1 hl) (live q' e2 hl') hb1 hb2
  · -- a hidden block
    have hx0 := hh q x hl hx
    have hidx : ∃ q0, hget S.hp q0 ≠ .dead ∧ β.hid q0 x ∧ (q = S.nx → q0 = id ∧ Bc x) ∧ (q ≠ S.nx → q0 = q) := by
      rcases hx0 with ⟨e1, h1⟩ | ⟨e1, h1, h2, h3⟩
      · exact ⟨id, hl0, hsub x (hBn x h1), fun _ => ⟨rfl, hBn x h1⟩, fun h => absurd e1 h⟩
      · exact ⟨q, h1, h2, fun h => absurd h e1, fun _ => rfl⟩
    obtain ⟨q0, g1, g2, g3, g4⟩ := hidx
    have hr := r.hid q0 x g1 g2
    refine ⟨hr.lt, hr.m, hr.old, fun p b1 c1 hl1 hb1 => ?_, fun p hl1 hx1 => ?_⟩
    · by_cases e2 : p = S.nx
      · subst e2
        rw [en] at hb1
        simp only [Option.some.injEq] at hb1
        intro e; subst e
        obtain ⟨k1, k2⟩ := hloc _ c1 hb1
        rcases hx0 with ⟨e1, h1⟩ | ⟨e1, h1, h2, h3⟩
        · exact k2 h1
        · have := (r.hid q _ h1 h2).un id hl0 (hsub _ k1)
          exact h3 this.symm k1
      · rw [eo p e2] at hb1
        exact hr.ne p b1 c1 (live p e2 hl1) hb1
    · rcases hh p x hl1 hx1 with ⟨e2, h2⟩ | ⟨e2, h2, h3, h4⟩
      · rcases hx0 with ⟨e1, h1⟩ | ⟨e1, h1, h2', h3'⟩
        · rw [e1, e2]
        · exfalso
          have := (r.hid q _ h1 h2').un id hl0 (hsub _ (hBn x h2))
          exact h3' this.symm (hBn x h2)
      · rcases hx0 with ⟨e1, h1⟩ | ⟨e1, h1, h2', h3'⟩
        · exfalso
          have := (r.hid id _ hl0 (hsub _ (hBn x h1))).un p h2 h3
          exact h4 this (hBn x h1)
        · exact (r.hid q _ h1 h2').un p h2 h3
  · have hq : S.nx + 1 ≤ q := hq
    rw [eo q (by omega)]; exact r.nx q (by omega)
  · obtain ⟨p1, p2⟩ := r.pin q hq
    exact ⟨Nat.lt_succ_of_lt p1, by rw [eo q (Nat.ne_of_lt p1)]; exact p2⟩
end
end Go.Pv


namespace Go.Pv
open Go
set_option linter.unusedVariables false
set_option linter.unusedSimpArgs false
section
variable {K : Ctx} {Q : Post} {S : St}
variable {m : Mem} {β : Locs} {w : World} {a : Act}
variable {ops : Array Oper} {rest : List Oper} {ty : TypeId} {pos : String} {after : Array Edge} {g : Option (Nat × Bool)}
/-- The first entry with a key: its number, and its value; or none. -/
inductive LookT (x : Value) (nx e k : Nat) : List (Value × V) → List (Value × V) → List (List V) → Prop
  | nil : LookT x nx e k [] [] []
  | here {rws : List (List V)} {es : List (Value × V)} : LookT x nx e k ((x, .dsl e k rws) :: es) ((x, .own nx rws.length) :: es) rws
  | there {q : Value} {v : V} {es es' : List (Value × V)} {rws : List (List V)} (h : q ≠ x) (h' : LookT x nx e k es es' rws) : LookT x nx e k ((q, v) :: es) ((q, v) :: es') rws
theorem LookT.cases {x : Value} {nx e k : Nat} {es es' : List (Value × V)} {rws : List (List V)} (h : LookT x nx e k es es' rws) :
    (es' = es ∧ rws = [] ∧ ∀ p, p ∈ es → p.1 ≠ x) ∨ ∃ i, es[i]? = some (x, .dsl e k rws) ∧ es' = es.set i (x, .own nx rws.length) ∧ Look x es' (some (.own nx rws.length)) := by
  induction h with
  | nil => exact .inl ⟨rfl, rfl, by simp⟩
  | here => exact .inr ⟨0, rfl, rfl, .here⟩
  | @there q v es es' rws h h' ih =>
    rcases ih with ⟨h1, h2, h3⟩ | ⟨i, h1, h2, h3⟩
    · refine .inl ⟨by rw [h1], h2, fun p hp => ?_⟩
      rcases List.mem_cons.1 hp with e | e
      · rw [e]; exact h
      · exact h3 p e
    · exact .inr ⟨i + 1, by simpa using h1, by rw [h2]; rfl, .there h h3⟩
end
end Go.Pv
namespace Go.Pv
open Go
section
variable {K : Ctx} {Q : Post} {S : St}
variable {m : Mem} {β : Locs} {w : World} {a : Act}
variable {ops : Array Oper} {rest : List Oper} {ty : TypeId} {pos : String} {after : Array Edge} {g : Option (Nat × Bool)}
theorem Puts.other {x : Value} {v : V} {es es3 : List (Value × V)} (h : Puts x v es es3) (v' : V) : ∃ es2 i, Puts x v' es es2 ∧ es2[i]? = some (x, v') ∧ es3 = es2.set i (x, v) := by
  induction h with
  | nil => exact ⟨[(x, v')], 0, .nil, rfl, rfl⟩
  | @here v0 es => exact ⟨(x, v') :: es, 0, .here, rfl, rfl⟩
  | @there k v0 es es3 h h' ih =>
    obtain ⟨es2, i, h1, h2, h3⟩ := ih
    exact ⟨(k, v0) :: es2, i + 1, .there h h1, by simpa using h2, by rw [h3]; rfl⟩
variable {κ α : Type} [DecidableEq κ]
end
end Go.Pv


namespace Go.Pv
open Go
section
variable {K : Ctx} {Q : Post} {S : St}
variable {m : Mem} {β : Locs} {w : World} {a : Act}
variable {ops : Array Oper} {rest : List Oper} {ty : TypeId} {pos : String} {after : Array Edge} {g : Option (Nat × Bool)}
/-- The value by a key that is there is another one now. -/
inductive LookD (x : Value) (d o : V) : List (Value × V) → List (Value × V) → Prop
  | here {es : List (Value × V)} : LookD x d o ((x, d) :: es) ((x, o) :: es)
  | there {q : Value} {v : V} {es es' : List (Value × V)} (h : q ≠ x) (h' : LookD x d o es es') : LookD x d o ((q, v) :: es) ((q, v) :: es')
theorem LookD.at {x : Value} {d o : V} {es es' : List (Value × V)} (h : LookD x d o es es') : ∃ i, es[i]? = some (x, d) ∧ es' = es.set i (x, o) ∧ Look x es' (some o) := by
  induction h with
  | here => exact ⟨0, rfl, rfl, .here⟩
  | @there q v es es' h h' ih =>
    obtain ⟨i, h1, h2, h3⟩ := ih
    exact ⟨i + 1, by simpa using h1, by rw [h2]; rfl, .there h h3⟩
end
variable {κ α β γ : Type} [DecidableEq κ]
section
variable {K : Ctx} {Q : Post} {S : St}
end
section
variable {K : Ctx} {Q : Post} {S : St} {s : List It}
variable {ops : Array Oper} {l : List Oper}
end
section
variable {K : Ctx} {Q : Post} {S : St}
variable {ops : Array Oper} {rest : List Oper} {ty : TypeId} {pos : String} {after : Array Edge} {g : Option (Nat × Bool)}
inductive Zs : List V → List Value → Prop
  | nil : Zs [] []
  | con {v : Value} {cs : List V} {vs : List Value} (h : Zs cs vs) : Zs (.con v :: cs) (v :: vs)
  | sl {k : Nat} {cs : List V} {vs : List Value} (h : Zs cs vs) : Zs (.lst k [] :: cs) (.slice none 0 0 :: vs)
theorem Zs.ok {cs : List V} {vs : List Value} (h : Zs cs vs) (m : Mem) : cs.length = vs.length ∧ ∀ (i : Nat) c v, cs[i]? = some c → vs[i]? = some v → IRel m c v := by
  induction h with
  | nil => exact ⟨rfl, by simp⟩
  | con h ih =>
    refine ⟨by simp [ih.1], fun i c v a b => ?_⟩
    cases i with
    | zero => simp at a b; subst a; subst b; exact .con _
    | succ i => exact ih.2 i c v (by simpa using a) (by simpa using b)
  | sl h ih =>
    refine ⟨by simp [ih.1], fun i c v a b => ?_⟩
    cases i with
    | zero => simp at a b; subst a; subst b; exact .nil _ _ _
    | succ i => exact ih.2 i c v (by simpa using a) (by simpa using b)
end
end Go.Pv

namespace Go.Pv
open Go
set_option linter.unusedVariables false
set_option linter.unusedSimpArgs false
open Go.ChangeMaps (setBlock)
section
variable {K : Ctx} {Q : Post} {S : St}
variable {m : Mem} {β : Locs} {w : World} {a : Act}
variable {ops : Array Oper} {rest : List Oper} {ty : TypeId} {pos : String} {after : Array Edge} {g : Option (Nat × Bool)}
end
inductive EnvFz (Y : Hy) (env : Env) : Env → Prop
  | refl : EnvFz Y env env
  | put {e : Env} {t : Nat} {v v0 : V} (ht : get env t = v0) (hv : Sub Y v v0) (h : EnvFz Y env e) : EnvFz Y env ((t, v) :: e)
theorem EnvFz.get {Y : Hy} {env e : Env} (hk : ∀ v, Sub Y v v) (h : EnvFz Y env e) (t : Nat) : Sub Y (get e t) (get env t) := by
  induction h with
  | refl => exact hk _
  | put ht hv _ ih =>
    rw [get_put]
    split
    · rename_i he; subst he; rw [ht]; exact hv
    · exact ih
inductive HpFz (Y : Hy) (hp : Heap) : Heap → Prop
  | refl : HpFz Y hp hp
  | put {e : Heap} {t : Nat} {v v0 : Ob} (ht : hget hp t = v0) (hv : ObSub Y v v0) (h : HpFz Y hp e) : HpFz Y hp ((t, v) :: e)
theorem HpFz.get {Y : Hy} {hp e : Heap} (hk : ∀ v, ObSub Y v v) (h : HpFz Y hp e) (t : Nat) : ObSub Y (hget e t) (hget hp t) := by
  induction h with
  | refl => exact hk _
  | put ht hv _ ih =>
    rw [hget_put]
    split
    · rename_i he; subst he; rw [ht]; exact hv
    · exact ih
section
variable {K : Ctx} {S : St}
end
/-- What a loop over a map goes by: what is left, and how much at most. -/
def RM {α : Type} (n : Nat) (l : List α) (P : Prop) : Prop := l.length < n ∧ P
theorem RM.zero {α : Type} {l : List α} {P : Prop} {X : Prop} (h : RM 0 l P) : X := absurd h.1 (Nat.not_lt_zero _)
theorem RM.start {α : Type} {l : List α} {P : Prop} (h : P) : RM (l.length + 1) l P := ⟨Nat.lt_succ_self _, h⟩
theorem RM.step {α : Type} {l l' : List α} {n : Nat} {P P' : Prop} (h : RM (n + 1) l P) (hq : l'.length < l.length) (h' : P') : RM n l' P' := ⟨by have := h.1; omega, h'⟩
section
variable {K : Ctx} {Q : Post} {S : St} {s : List It}
variable {ops : Array Oper} {rest : List Oper} {ty : TypeId} {pos : String} {after : Array Edge} {g : Option (Nat × Bool)}
end
end Go.Pv


namespace Go.Proofs.YtgkplonohfnlhaaGreatDoor
open Go Go.Pv
set_option linter.unusedVariables false
set_option maxRecDepth 100000
theorem mixed : Tryz.prog.follows .mixedOrders = true := by kernel_rfl
structure TDecision where
  Fact : Int
  Rule : Int
  Waiver : Int
  Level : Int
  deriving DecidableEq
def encTDecision (x : TDecision) : List V := [(iV x.Fact), (iV x.Rule), (iV x.Waiver), (iV x.Level)]
theorem imms_encTDecision (x : TDecision) : Imms (encTDecision x) := (.cons (Imm.con _) (.cons (Imm.con _) (.cons (Imm.con _) (.cons (Imm.con _) .nil))))
theorem one_encTDecision (x : TDecision) : (encTDecision x).all oneV = true := rfl
instance : EI encTDecision := ⟨imms_encTDecision, one_encTDecision⟩
@[simp] theorem len_encTDecision (x : TDecision) : (encTDecision x).length = 4 := rfl
theorem tIsSl22 : tySlice Tryz.prog 22 = true := by kernel_rfl
theorem tSl22 : tySl Tryz.prog 22 4 = true := by kernel_rfl
theorem tA29 : tyA Tryz.prog 29 4 = true := by kernel_rfl
theorem tZ29 : zeroCells Tryz.prog 29 = some [.int .i64 0, .int .i64 0, .int .i64 0, .int .i64 0] := by kernel_rfl
theorem tS29 : tyS Tryz.prog 29 4 = true := by kernel_rfl
theorem tF29_3 : tyF Tryz.prog 29 3 3 = true := by kernel_rfl
theorem tC3 : tyC Tryz.prog 3 = true := by kernel_rfl
theorem fOk4 : fnOk Tryz.prog 4 = true := by kernel_rfl
theorem fOk7 : fnOk Tryz.prog 7 = true := by kernel_rfl
theorem fOk5 : fnOk Tryz.prog 5 = true := by kernel_rfl
theorem fOk6 : fnOk Tryz.prog 6 = true := by kernel_rfl
def tt : TT := [(3, [.C]), (4, [.Fn]), (5, [.Fn]), (6, [.Fn]), (7, [.Fn]), (22, [.Sn, .Sl 4]), (29, [.A 4, .Z 4 [.int .i64 0, .int .i64 0, .int .i64 0, .int .i64 0], .S 4, .F 3 3])]
theorem ok : TTok Tryz.prog tt := tt_all ⟨⟨tC3, trivial⟩, ⟨fOk4, trivial⟩, ⟨fOk5, trivial⟩, ⟨fOk6, trivial⟩, ⟨fOk7, trivial⟩, ⟨tIsSl22, tSl22, trivial⟩, ⟨tA29, ⟨tZ29, rfl⟩, tS29, tF29_3, trivial⟩, trivial⟩
instance {N : Nat} {w : World} {m : Mem} {o : Nat → Prop} {p : Nat} {l : Nat → Option (Option (Nat × Cap))} {g : Gl} {h : GlOk g m} : TC ⟨Tryz.prog, N, w, m, o, p, l, g, h⟩ tt := ⟨ok⟩
end Go.Proofs.YtgkplonohfnlhaaGreatDoor

namespace Go.Pv
open Go Go.ChangeShapes Go.WideShapes
mutual
def bulk {H : Type} : DataW H → Nat
  | .lit (.string bytes) => bytes.length + 1
  | .lit _ => 1
  | .nil => 1
  | .ptr d => bulk d + 1
  | .slice elems spare => bulkAll elems + bulkAll spare + 1
  | .agg parts => bulkAll parts + 1
  | .iface _ d => bulk d + 1
  | .map entries => bulkEnts entries + 1
  | .held _ => 1
def bulkAll {H : Type} : List (DataW H) → Nat
  | [] => 0
  | d :: r => bulk d + bulkAll r
def bulkEnts {H : Type} : List (Lit × DataW H) → Nat
  | [] => 0
  | x :: r => bulkEnt x + bulkEnts r
def bulkEnt {H : Type} : Lit × DataW H → Nat
  | (.string bytes, d) => bytes.length + bulk d + 1
  | (_, d) => bulk d + 1
end
def memOf (w : World) : Mem := fun b => w.heap[b]?
def IRelL (m : Mem) (ds : List V) (cs : List Value) : Prop :=
  ds.length = cs.length ∧ ∀ (i : Nat) (c : V) (v : Value), ds[i]? = some c → cs[i]? = some v → IRel m c v
theorem IRelL.one {m : Mem} {d : V} {c : Value} (h : IRel m d c) : IRelL m [d] [c] :=
  ⟨rfl, fun i d' c' hd hc => by
    match i with
    | 0 => simp at hd hc; subst hd; subst hc; exact h
    | _ + 1 => simp at hd⟩
theorem IRelL.app {m : Mem} {a b : List V} {x y : List Value} (h : IRelL m a x) (h' : IRelL m b y) : IRelL m (a ++ b) (x ++ y) := by
  refine ⟨by simp [h.1, h'.1], fun i c v hc hv => ?_⟩
  by_cases hi : i < a.length
  · rw [List.getElem?_append_left hi] at hc
    rw [List.getElem?_append_left (by rw [← h.1]; exact hi)] at hv
    exact h.2 i c v hc hv
  · rw [List.getElem?_append_right (by omega)] at hc
    rw [List.getElem?_append_right (by rw [← h.1]; omega), ← h.1] at hv
    exact h'.2 _ c v hc hv
section
variable {P : Program} {t e : TypeId} {α β : Type}
/-- What a reading weighs lies within the machine. -/
def wOk {H : Type} (P : Program) (t : TypeId) (d : DataW H) : Prop := (d.weights P t).all (· ≤ reachBytes) = true
def wOks {H : Type} (P : Program) (ts : List TypeId) (ds : List (DataW H)) : Prop := (DataW.weightsEach P ts ds).all (· ≤ reachBytes) = true
theorem wOks_cons {H : Type} {P : Program} {t : TypeId} {ts : List TypeId} {d : DataW H} {ds : List (DataW H)} (h : wOks P (t :: ts) (d :: ds)) : wOk P t d ∧ wOks P ts ds := by
  unfold wOks wOk at *
  rw [DataW.weightsEach, List.all_append, Bool.and_eq_true] at h
  exact h
theorem wAll {H : Type} {P : Program} {e : TypeId} : ∀ (l : List (DataW H)), (DataW.weightsAll P e l).all (· ≤ reachBytes) = true → ∀ d, d ∈ l → wOk P e d
  | [], _, d, hd => by simp at hd
  | x :: l, h, d, hd => by
    rw [DataW.weightsAll, List.all_append, Bool.and_eq_true] at h
    rcases List.mem_cons.1 hd with rfl | hd
    · exact h.1
    · exact wAll l h.2 d hd
/-- A reading gives a value of Lean's. -/
def Opens (P : Program) (t : TypeId) (e : α → List V) (sz : α → Nat) (ok : α → Prop) : Prop :=
  ∀ {H : Type} (enc : TypeId × Value → H) (w : World) (fuel : Nat) (cs : List Value) (x : DataW H × List MemPlace),
    DataW.trod enc P w 0 (fun _ => true) true fuel t cs = some x → wOk P t x.1 → ∃ a : α, IRelL (memOf w) (e a) cs ∧ sz a ≤ bulk x.1 ∧ ok a
theorem opens_int {k : IntKind} (ht : P.underlying t = some (.int k)) : Opens P t (fun n : Int => [V.con (.int k n)]) (fun _ => 1) (fun n => k.min ≤ n ∧ n ≤ k.max) := by
  intro H enc w fuel cs x h hw
  obtain ⟨n, rfl, rfl, hw'⟩ := DataW.trod_int ht h
  simp only [Lit.wf, Bool.and_eq_true, decide_eq_true_eq] at hw'
  exact ⟨n, IRelL.one (.con _), by simp [bulk], hw'⟩
theorem list_of {p : Nat → α → Prop} : ∀ {n : Nat}, (∀ i, i < n → ∃ a, p i a) → ∃ l : List α, l.length = n ∧ ∀ i a, l[i]? = some a → p i a
  | 0, _ => ⟨[], rfl, by simp⟩
  | n + 1, h => by
    obtain ⟨l, hl, hp⟩ := list_of (n := n) fun i hi => h i (by omega)
    obtain ⟨a, ha⟩ := h n (by omega)
    refine ⟨l ++ [a], by simp [hl], fun i b hb => ?_⟩
    by_cases hi : i < l.length
    · rw [List.getElem?_append_left hi] at hb; exact hp i b hb
    · rw [List.getElem?_append_right (by omega)] at hb
      have : i - l.length = 0 := by
        have := (List.getElem?_eq_some_iff.1 hb).1
        simp at this; omega
      rw [this] at hb
      simp at hb
      subst hb
      rw [show i = n by omega]; exact ha
theorem bulkAll_map {H : Type} {n : Nat} (D : Nat → DataW H) : bulkAll ((List.range n).map D) = ((List.range n).map fun i => bulk (D i)).sum := by
  generalize List.range n = l
  induction l with
  | nil => rfl
  | cons a l ih => simp [bulkAll, ih]
theorem sum_le {l : List α} {sz : α → Nat} {g : Nat → Nat} (h : ∀ i a, l[i]? = some a → sz a ≤ g i) : (l.map sz).sum ≤ ((List.range l.length).map g).sum := by
  induction l generalizing g with
  | nil => simp
  | cons a l ih =>
    rw [List.length_cons, List.range_succ_eq_map]
    simp only [List.map_cons, List.sum_cons, List.map_map]
    have h0 := h 0 a rfl
    have h1 := ih (g := g ∘ Nat.succ) fun i b hb => h (i + 1) b (by simpa using hb)
    exact Nat.add_le_add h0 h1
theorem opens_slice {k : Nat} {ee : α → List V} {sz : α → Nat} {ok : α → Prop} (ht : P.underlying t = some (.slice e)) (hk : P.cellsOf e = k) (h0 : 0 < k) (he : Opens P e ee sz ok) :
    Opens P t (fun l : List α => [V.lst k (l.map ee)]) (fun l => (l.map sz).sum + 1) (fun l => (∀ a, a ∈ l → ok a) ∧ l.length ≤ maxLen) := by
  intro H enc w fuel cs x h hw
  rcases Deep.open_slice ht h with ⟨rfl, rfl⟩ | ⟨a, len, cap, m, n, D, Pl, rfl, _, hlc, hcm, hm, rfl, hel⟩
  · exact ⟨[], IRelL.one (.nil _ _ _), by simp [bulk], by simp⟩
  · simp only [if_true] at hm
    subst hm
    obtain ⟨l, hl, hp⟩ := list_of (n := len) (p := fun i (b : α) => sz b ≤ bulk (D i) ∧ ok b ∧ ∃ cs', w.cells? 0 (a.add (i * P.cellsOf e)) (P.cellsOf e) = some cs' ∧ IRelL (memOf w) (ee b) cs') (by
      intro i hi
      obtain ⟨cs', hc, hd⟩ := hel i (by omega)
      obtain ⟨b, h1, h2, h3⟩ := he _ _ _ _ _ hd (by
        unfold wOk at hw
        rw [DataW.weights] at hw
        simp only [ht, List.all_cons, List.all_append, Bool.and_eq_true] at hw
        exact wAll _ hw.2.1 _ (List.mem_map.2 ⟨i, List.mem_range.2 hi, rfl⟩))
      exact ⟨b, h2, h3, cs', hc, h1⟩)
    refine ⟨l, IRelL.one ?_, ?_, fun b hb => ?_, by omega⟩
    · by_cases hz : len = 0
      · subst hz
        have : l = [] := List.length_eq_zero_iff.1 hl
        subst this
        exact .nil _ _ _
      · have hcell : ∀ i j b, l[i]? = some b → j < k → ∃ v, w.cell? ((a.add (i * k)).add j) = some v ∧ (∃ c, (ee b)[j]? = some c) ∧ ∀ c, (ee b)[j]? = some c → IRel (memOf w) c v := by
          intro i j b hb hj
          obtain ⟨_, _, cs', hc, hr⟩ := hp i b hb
          rw [hk] at hc
          obtain ⟨_, hn, hcs⟩ := World.cells?_some hc
          have hj' : j < cs'.length := by omega
          have hv : cs'[j]? = some cs'[j] := List.getElem?_eq_getElem hj'
          have hj2 : j < (ee b).length := by rw [hr.1]; exact hj'
          exact ⟨cs'[j], (hcs j hj).trans hv, ⟨(ee b)[j], List.getElem?_eq_getElem hj2⟩, fun c hcc => hr.2 j c _ hcc hv⟩
        have hlen : ∀ b, b ∈ l → (ee b).length = k := by
          intro b hb
          obtain ⟨i, hi⟩ := List.mem_iff_getElem?.1 hb
          obtain ⟨_, _, cs', hc, hr⟩ := hp i b hi
          rw [hk] at hc
          rw [hr.1, (World.cells?_some hc).2.1]
        have hb0 : ∃ b, l[0]? = some b := ⟨l[0]'(by omega), List.getElem?_eq_getElem _⟩
        obtain ⟨b0, hb0⟩ := hb0
        obtain ⟨v0, hv0, _⟩ := hcell 0 0 b0 hb0 h0
        have hadd0 : (a.add (0 * k)).add 0 = a := by simp [Addr.add]
        rw [hadd0] at hv0
        unfold World.cell? at hv0
        split at hv0
        case h_2 => simp at hv0
        rename_i arr T fr hblk
        have hsp : a.spot = none := by
          cases hs : a.spot with
          | none => rfl
          | some s => simp [hs] at hv0
        have hget : ∀ i j b, l[i]? = some b → j < k → ∃ v, arr[a.off + (i * k + j)]? = some v ∧ (∃ c, (ee b)[j]? = some c) ∧ ∀ c, (ee b)[j]? = some c → IRel (memOf w) c v := by
          intro i j b hb hj
          obtain ⟨v, hv, hc⟩ := hcell i j b hb hj
          rw [Deep.add_add] at hv
          unfold World.cell? at hv
          have hbk : (a.add (i * k + j)).block = a.block := by unfold Addr.add; split <;> rfl
          have hso : (a.add (i * k + j)).spot = none := by unfold Addr.add; split <;> simp [hsp]
          have hof : (a.add (i * k + j)).off = a.off + (i * k + j) := by unfold Addr.add; split <;> simp [*]
          rw [hbk, hblk] at hv
          simp only [hso, hof] at hv
          exact ⟨v, by simpa using hv, hc⟩
        refine IRel.lst (arr := arr) (T := T) (fr := fr) (fun i => (arr[a.off + i]?).getD undef) hblk hsp (by simpa using hl) hlc (by omega) ?_ ?_ ?_
        · intro row hrow
          obtain ⟨b, hb, rfl⟩ := List.mem_map.1 hrow
          exact hlen b hb
        · intro i hi
          rw [List.length_map] at hi
          have hq : i / k < l.length := Nat.div_lt_of_lt_mul (by rw [Nat.mul_comm]; exact hi)
          obtain ⟨v, hv, _⟩ := hget (i / k) (i % k) l[i / k] (List.getElem?_eq_getElem hq) (Nat.mod_lt _ h0)
          have : i / k * k + i % k = i := by rw [Nat.mul_comm]; exact Nat.div_add_mod i k
          rw [this] at hv
          simp [hv]
        · intro i j row c hrow hc
          rw [List.getElem?_map, Option.map_eq_some_iff] at hrow
          obtain ⟨b, hb, rfl⟩ := hrow
          have hj : j < k := by
            have := (List.getElem?_eq_some_iff.1 hc).1
            rw [hlen b (List.mem_iff_getElem?.2 ⟨i, hb⟩)] at this
            exact this
          obtain ⟨v, hv, _, hcr⟩ := hget i j b hb hj
          simp only [hv, Option.getD_some]
          exact hcr c hc
    · simp only [bulk]
      rw [bulkAll_map]
      have := sum_le (l := l) (sz := sz) (g := fun i => bulk (D i)) fun i b hb => (hp i b hb).1
      rw [hl] at this
      omega
    · obtain ⟨i, hi⟩ := List.mem_iff_getElem?.1 hb
      exact (hp i b hi).2.1
/-- The fields of a struct, one after the other, from a cell on. -/
def FOpens (P : Program) (N : Nat) (fs : List (TypeId × Nat × Nat)) (off : Nat) (e : α → List V) (sz : α → Nat) (ok : α → Prop) : Prop :=
  ∀ {H : Type} (enc : TypeId × Value → H) (w : World) (n : Nat) (cs : List Value) (xs : List (DataW H × List MemPlace)), cs.length = N → xs.length = fs.length →
    (∀ (i : Nat) (f : TypeId × Nat × Nat), fs[i]? = some f → DataW.trod enc P w 0 (fun _ => true) true n f.1 ((cs.drop f.2.1).take f.2.2) = xs[i]?) →
    wOks P (fs.map (·.1)) (xs.map (·.1)) → ∃ a : α, IRelL (memOf w) (e a) (cs.drop off) ∧ sz a ≤ bulkAll (xs.map (·.1)) ∧ ok a
theorem fopens_nil {N : Nat} : FOpens P N [] N (fun _ : Unit => []) (fun _ => 0) (fun _ => True) := by
  intro H enc w n cs xs hN hx _ _
  refine ⟨(), ?_, by simp, trivial⟩
  rw [← hN]
  simp [IRelL]
theorem fopens_cons {N k off : Nat} {ft : TypeId} {fs : List (TypeId × Nat × Nat)} {ea : α → List V} {eb : β → List V} {sa : α → Nat} {sb : β → Nat} {oa : α → Prop} {ob : β → Prop}
    (h : Opens P ft ea sa oa) (hr : FOpens P N fs (off + k) eb sb ob) : FOpens P N ((ft, off, k) :: fs) off (fun p : α × β => ea p.1 ++ eb p.2) (fun p => sa p.1 + sb p.2) (fun p => oa p.1 ∧ ob p.2) := by
  intro H enc w n cs xs hN hx hf hw
  match xs, hx with
  | x :: xs, hx =>
    have h1 := hf 0 _ rfl
    simp only [List.getElem?_cons_zero] at h1
    have hw' := wOks_cons hw
    obtain ⟨a, ha, hs, ho⟩ := h enc w n _ x h1 hw'.1
    have hb' := hr enc w n cs xs hN (by simpa using hx) fun i f hi => by
      have := hf (i + 1) f (by simpa using hi)
      simpa using this
    obtain ⟨b, hb, hs', ho'⟩ := hb' hw'.2
    refine ⟨(a, b), ?_, by simp only [List.map_cons, bulkAll]; omega, ho, ho'⟩
    have := ha.app hb
    rw [show (cs.drop off).take k ++ cs.drop (off + k) = cs.drop off by rw [← List.drop_drop]; exact List.take_append_drop _ _] at this
    exact this
def fieldsOf (P : Program) (t : TypeId) : Option (List (TypeId × Nat × Nat)) :=
  match P.underlying t with
  | some (.struct fs) => some (fs.toList.map fun f => (f.type, f.offset, P.cellsOf f.type))
  | _ => none
theorem opens_struct {N : Nat} {fs : List (TypeId × Nat × Nat)} {e : α → List V} {sz : α → Nat} {ok : α → Prop} (ht : fieldsOf P t = some fs) (hN : P.cellsOf t = N) (h : FOpens P N fs 0 e sz ok) :
    Opens P t e (fun a => sz a + 1) ok := by
  intro H enc w fuel cs x hx hw
  unfold fieldsOf at ht
  split at ht
  case h_2 => simp at ht
  rename_i gs hu
  simp only [Option.some.injEq] at ht
  subst ht
  obtain ⟨xs, n, _, rfl, hl, hxl, hf⟩ := DataW.trod_struct hu hx
  have ha' := h enc w n cs xs (hl.trans hN) (by simpa using hxl) fun i f hi => by
    rw [List.getElem?_map, Option.map_eq_some_iff] at hi
    obtain ⟨g, hg, rfl⟩ := hi
    exact hf i g (by simpa using hg)
  obtain ⟨a, h1, h2, h3⟩ := ha' (by
    unfold wOk at hw
    rw [DataW.weights] at hw
    simp only [hu] at hw
    unfold wOks
    rw [List.map_map]
    exact hw)
  exact ⟨a, by simpa using h1, by simp only [bulk]; omega, h3⟩
theorem opens_map {ea : α → List V} {eb : β → List V} {sa : α → Nat} {sb : β → Nat} {oa : α → Prop} {ob : β → Prop} (h : Opens P t ea sa oa) (g : α → β)
    (he : ∀ a, eb (g a) = ea a) (hs : ∀ a, sb (g a) = sa a) (ho : ∀ a, oa a → ob (g a)) : Opens P t eb sb ob := by
  intro H enc w fuel cs x hx hw
  obtain ⟨a, h1, h2, h3⟩ := h enc w fuel cs x hx hw
  exact ⟨g a, by rw [he]; exact h1, by rw [hs]; exact h2, ho a h3⟩
def OpensV (P : Program) (t : TypeId) (e : α → V) (sz : α → Nat) (ok : α → Prop) : Prop :=
  ∀ {H : Type} (enc : TypeId × Value → H) (w : World) (base : Nat) (v : Value) (d : DataW H) (p : List MemPlace),
    Value.okWide P w .any base t v → DataW.Trod enc P w 0 (fun _ => true) true t v d p → wOk P t d → ∃ a : α, IRel (memOf w) (e a) v ∧ sz a ≤ bulk d ∧ ok a
def cellKind (P : Program) (t : TypeId) : Bool :=
  match P.underlying t with
  | some (.int _) | some .bool | some .string | some (.slice _) => true
  | _ => false
theorem opensV_cell {e : α → V} {sz : α → Nat} {ok : α → Prop} (ht : cellKind P t = true) (h : Opens P t (fun a => [e a]) sz ok) : OpensV P t e sz ok := by
  intro H enc w base v d p hv ⟨n, hd⟩ hw
  obtain ⟨a, h1, h2, h3⟩ := h enc w n _ _ hd hw
  have hna : ∀ cs, v ≠ .agg cs := by
    rintro cs rfl
    unfold cellKind at ht
    unfold Value.okWide at hv
    split at ht <;> rename_i hu <;> first | exact absurd ht (by decide) | (simp only [hu, Cell.okWide, Cell.ok] at hv)
  have hc : v.cells.toList = [v] := by cases v <;> first | rfl | exact absurd rfl (hna _)
  rw [hc] at h1
  exact ⟨a, h1.2 0 _ _ rfl rfl, h2, h3⟩
theorem sameAt_of {w w' : World} (h : ∀ b, b < w.heap.size → w'.heap[b]? = w.heap[b]?) {p : MemPlace} (hp : p.block < w.heap.size) : w.sameAt w' p := by
  cases p with
  | cell b o => simp only [World.sameAt, World.cell?]; rw [h b hp]
  | map b => exact h b hp
theorem trodAll_stays {H : Type} {enc : TypeId × Value → H} (hl : laidOutB P = true) {w w' : World} {sp : Nat → Bool} (hh : ∀ b, b < w.heap.size → w'.heap[b]? = w.heap[b]?)
    (hs : ∀ b, b < w.heap.size → sp b = true) : ∀ {ts : List TypeId} {vs : List Value} {ds : List (DataW H)} {ps : List MemPlace},
    (ts.all fun t => P.readableRec t && decide (t < P.types.size)) = true → DataW.TrodAll enc P w 0 (fun _ => true) true ts vs ds ps → (∀ p ∈ ps, p.block < w.heap.size) → DataW.TrodAll enc P w' 0 sp true ts vs ds ps
  | [], [], [], _, _, h, _ => h
  | t :: ts, v :: vs, d :: ds, _, hr, ⟨p, q, h1, h2, e⟩, hlt => by
    subst e
    simp only [List.all_cons, Bool.and_eq_true, decide_eq_true_eq] at hr
    exact ⟨p, q, WideElems.Trod_stays hl hr.1.1 hr.1.2 h1 (fun x hx => sameAt_of hh (hlt x (List.mem_append_left _ hx))) (fun x hx => hs _ (hlt x (List.mem_append_left _ hx))),
      trodAll_stays hl hh hs (by simpa using hr.2) h2 (fun x hx => hlt x (List.mem_append_right _ hx)), rfl⟩
theorem kept_of {w w' : World} (hs : Same w w') (hh : ∀ b, b < w.heap.size → w'.heap[b]? = w.heap[b]?) (may : MemPlace → Prop) : w.keptBut w' may := by
  refine ⟨hs.os, hs.output, fun i hi => ?_⟩
  rw [hh i hi]
  split <;> first | exact ⟨rfl, rfl, rfl, fun _ _ => rfl⟩ | exact .inr ⟨rfl, rfl⟩ | rfl | skip
  all_goals simp_all
/-- A law's call: true, and what was there as it was. -/
theorem law_post {H : Type} {enc : TypeId × Value → H} {f : Func} {s : ChangeSpec} {apart fresh handsOn : Bool} {w w' : World} {args : Array Value} {v : Value} {ds gs : List (DataW H)} {before : List MemPlace} {m m' : Mem} {tb : TypeId}
    (hl : laidOutB P = true) (hts : (f.params.toList.all fun t => P.readableRec t && decide (t < P.types.size)) = true) (hv : s.vars = []) (hfn : ∀ gs', gs' = [] → s.fn H (ds ++ gs') = { results := [.lit (.bool true)], args := ds })
    (hres : f.resultTypes = #[tb]) (hb : P.underlying tb = some .bool) (hW : DataW.Whole enc P f.params.toList s.vars apart w args.toList ds gs before) (h : IRel m' (bV true) v) (hg : Grew m m' w w') :
    s.post enc P f apart fresh handsOn false w args v w' := by
  have hW0 := hW
  obtain ⟨p, q, hA, hV, rfl, hfz, hnd⟩ := hW0
  cases h
  rw [hv] at hV
  cases gs with
  | cons _ _ => simp [DataW.TrodVars] at hV
  | nil =>
  have hq : q = [] := hV
  subst hq
  refine ⟨ds, [], p ++ [], [], p, [], hW, ?_, ?_, ?_, kept_of hg.same hg.heap _, fun h => by simp at h⟩
  · rw [hfn _ rfl, hres]
    exact trodAll_cons_mk (RowKit.shut_bool hb _) trodAll_mk0
  · rw [hfn _ rfl]
    exact trodAll_stays hl hg.heap (fun b hb => by simpa using hb) hts hA (DataW.TrodAll.lt hA)
  · rw [hv, hfn _ rfl]
    rfl
theorem args_nil {H : Type} {enc : TypeId × Value → H} {w : World} {args : Array Value} {f : Func} {s : ChangeSpec} {apart : Bool} {ds gs : List (DataW H)} {before : List MemPlace}
    (hW : DataW.Whole enc P f.params.toList s.vars apart w args.toList ds gs before) : ∃ p, DataW.TrodAll enc P w 0 (fun _ => true) true f.params.toList args.toList ds p := by
  obtain ⟨p, q, hA, _⟩ := hW
  exact ⟨p, hA⟩
end
def factsA (P : Program) (f : FuncId) (fn : Func) (s : ChangeSpec) (c : OpenClaim) : Bool :=
  c.wf (OpenSpec.ofChange s) && laidOutB P && mapsRowed P &&
  fn.params.all (P.readableRec ·) && namedTie P c.named s.vars &&
  (c.stops == []) && (P.stops == []) && (c.knobs == []) && (P.stopKnobs == []) &&
  (c.inPlace == P.inPlace f) && (c.unfollowed == P.unfollowed f) && (c.recurses == P.recurses f) && (c.named == P.varsNamed f) &&
  (c.maps == (fn.params.toList ++ s.plain.varTypes P).any (P.mapsRec ·)) && (c.ifaces == (fn.params.toList ++ s.plain.varTypes P).any (P.ifacesRec ·)) && (c.mapsOut == P.mapsAmong fn.resultTypes.toList) &&
  (c.loops == (fn.params.toList ++ s.plain.varTypes P).any (P.loopsFrom ·)) && (c.wideKeys == (fn.params.toList ++ s.plain.varTypes P ++ fn.resultTypes.toList).any (P.wideKeysFrom ·)) &&
  s.vars.all (P.varReadable ·) && fn.resultTypes.all (fun t => P.readableRec t && decide (t < P.types.size)) && (c.ifacesOut == fn.resultTypes.toList.any (P.ifacesRec ·)) && (c.loopsOut == fn.resultTypes.toList.any (P.loopsFrom ·)) && (c.plainKeys == P.plainKeys) && c.shortTexts.isNone && P.stopsHeard
def factsB (P : Program) (c : OpenClaim) : Bool := P.mayEnter && (c.lifted == P.liftsFinal) && (P.make == some c.make)
def factsC (P : Program) (fn : Func) (s : ChangeSpec) (c : OpenClaim) : Bool :=
  (c.kinds == (if c.domain.isEmpty then [] else fn.params.toList.map fun t => match P.underlying t with | some (.int k) => some k | _ => none)) && (c.pinned == c.pinnedBy) &&
  (c.veiled == (fn.params.toList ++ s.plain.varTypes P ++ fn.resultTypes.toList).any (P.veiledRec ·)) && c.veiledFits P fn.params.toList (fn.params.toList ++ s.plain.varTypes P ++ fn.resultTypes.toList)
theorem facts_join {P : Program} {f : FuncId} {fn : Func} {s : ChangeSpec} {c : OpenClaim} (h1 : factsA P f fn s c = true) (h2 : factsB P c = true) (h3 : factsC P fn s c = true) : joinedFacts P f fn s c = true := by
  unfold factsA at h1
  unfold factsB at h2
  unfold factsC at h3
  have e : ∀ a b c d b1 b2 b3 c1 c2 c3 : Bool, a = true → (b1 && b2 && b3) = true → (b && c && d && c1) = true → (a && b1 && b2 && b3 && b && c && d && c1) = true := by
    intro a b c d b1 b2 b3 c1 c2 c3 h h' h''
    simp only [Bool.and_eq_true] at *
    simp_all
  exact e _ _ _ _ _ _ _ _ true true h1 h2 h3
end Go.Pv

namespace Go.Proofs.YtgkplonohfnlhaaGreatDoor
open Go Go.Pv
set_option linter.unusedVariables false
set_option maxRecDepth 100000
theorem opens_3 : Opens Tryz.prog 3 (fun x => [V.con (.int .i64 x)]) (fun x : Int => 1) (fun x : Int => ((IntKind.i64).min ≤ x ∧ x ≤ (IntKind.i64).max)) := opens_int (show Tryz.prog.underlying 3 = some (.int .i64) by kernel_rfl)
def szTDecision (x : TDecision) : Nat := 1 + (1 + (1 + (1 + 0))) + 1
def okTDecision (x : TDecision) : Prop := ((IntKind.i64).min ≤ x.Fact ∧ x.Fact ≤ (IntKind.i64).max) ∧ (((IntKind.i64).min ≤ x.Rule ∧ x.Rule ≤ (IntKind.i64).max) ∧ (((IntKind.i64).min ≤ x.Waiver ∧ x.Waiver ≤ (IntKind.i64).max) ∧ (((IntKind.i64).min ≤ x.Level ∧ x.Level ≤ (IntKind.i64).max) ∧ True)))
theorem opens_29 : Opens Tryz.prog 29 encTDecision szTDecision okTDecision := opens_map (opens_struct (fs := [(3, 0, 1), (3, 1, 1), (3, 2, 1), (3, 3, 1)]) (by kernel_rfl) (by kernel_rfl) (fopens_cons opens_3 (fopens_cons opens_3 (fopens_cons opens_3 (fopens_cons opens_3 fopens_nil))))) (fun p => TDecision.mk p.1 p.2.1 p.2.2.1 p.2.2.2.1) (fun _ => rfl) (fun _ => rfl) (fun _ h => h)
theorem opens_22 : Opens Tryz.prog 22 (fun l => [V.lst 4 (l.map encTDecision)]) (fun x : (List TDecision) => ((x.map (fun x : TDecision => (szTDecision x))).sum + 1)) (fun x : (List TDecision) => ((∀ a, a ∈ x → (fun x : TDecision => (okTDecision x)) a) ∧ x.length ≤ maxLen)) := opens_slice (show Tryz.prog.underlying 22 = some (.slice 29) by kernel_rfl) (by kernel_rfl) (by decide) opens_29
theorem opensV_22 : OpensV Tryz.prog 22 (fun l => V.lst 4 (l.map encTDecision)) (fun x : (List TDecision) => ((x.map (fun x : TDecision => (szTDecision x))).sum + 1)) (fun x : (List TDecision) => ((∀ a, a ∈ x → (fun x : TDecision => (okTDecision x)) a) ∧ x.length ≤ maxLen)) := opensV_cell (by kernel_rfl) opens_22
end Go.Proofs.YtgkplonohfnlhaaGreatDoor

namespace Go.Proofs.YtgkplonohfnlhaaGreatDoor
open Go Go.Pv
set_option linter.unusedVariables false
set_option maxRecDepth 100000
noncomputable section
def M4_L1 (F : Nat) (k2 : Int → Option (Int × Int)) : List TDecision → Int → Option (Int × Int)
  | [], n6 => k2 n6
  | x9 :: tl1, n6 => if (decide (x9.Level < 1)) = true then some (0, 7)
 else if (decide (x9.Level > 4)) = true then some (0, 7)
 else M4_L1 F k2 tl1 (if x9.Level > n6 then x9.Level else n6)
def M4 (F : Nat) (a1 : (List TDecision)) : Option (Int × Int) :=
  jn (fun (n3 : Int) => some (n3, 0)) (fun k2 => M4_L1 F k2 a1 1)
def M7 (F : Nat) (a1 : Int) (a2 : Int) (a3 : Int) : Option Bool :=
  if (decide (a1 < a2)) = true then some true
  else some (decide (a1 > a3))
def M5_L1 (F : Nat) (a1 : (List TDecision)) (k2 : Int → Option (Int × Int)) : List TDecision → Int → Int → Option (Int × Int)
  | [], n7, n6 => k2 n6
  | x9 :: tl1, n7, n6 => (M7 F x9.Level 1 4).bind fun y11 => if y11 = true then some (0, 7)
 else (idx a1 n7).bind fun x14 => M5_L1 F a1 k2 tl1 (n7 + 1) (if x14.Level > n6 then x14.Level else n6)
def M5 (F : Nat) (a1 : (List TDecision)) : Option (Int × Int) :=
  jn (fun (n3 : Int) => some (n3, 0)) (fun k2 => M5_L1 F a1 k2 a1 0 1)
def M6 (F : Nat) : Option Bool := some true
def M3 (F : Nat) (a1 : (List TDecision)) : Option Bool :=
  (M4 F a1).bind fun y2 => (M5 F a1).bind fun y4 => if ((y2.1) == (y4.1)) = true then if ((y2.2) == (y4.2)) = true then (M6 F).bind fun y8 => some y8
  else some false
  else some false
end
end Go.Proofs.YtgkplonohfnlhaaGreatDoor

namespace Go.Pv
open Go
theorem jn_def {α β : Type} (k : α) (b : α → β) : jn k b = b k := rfl
theorem idx_nat {α : Type} {xs : List α} {j : Nat} (h : j < xs.length) : idx xs (j : Int) = some xs[j] := by
  simp [idx, h]
end Go.Pv
