/- Part of the proof: M, O, P. -/
import Derived.Test.YtkeeppclihjlhaaGreatDoorRPvL
import Derived.Orders
import Derived.Laws.StructEq
import Derived.Laws.Strings
import Derived.Lib.Strings
namespace Go.Pv
open Go
section
variable {K : Ctx} {Q : Post} {S S' : St} {ops : Array Oper} {rest : List Oper} {op : Op} {ty : TypeId} {pos : String} {after : Array Edge} {g : Option (Nat × Bool)}
variable {m : Mem} {β : Locs} {w : World} {a : Act}
structure KeyT (P : Program) (T : TypeId) (good : Value → Prop) : Prop where
 check : ∀ (b : Bool) (w : World) (v : Value), good v → (Instr.checkKey b 10000 T v).run P w = .ok () w
 find : ∀ (w : World) (x : Value), good x → ∀ es : List MapEntry, (∀ e, e ∈ es → good e.key) →
  ((Instr.findKey T x es).run P w = .ok none w ∧ ∀ e, e ∈ es → e.key ≠ x) ∨
  ∃ j e, (Instr.findKey T x es).run P w = .ok (some (j, e.val)) w ∧ es[j]? = some e ∧ e.key = x ∧ ∀ i e', i < j → es[i]? = some e' → e'.key ≠ x
 stays : ∀ (w : World) (v : Value), good v → (Instr.keyThatStays v v).run P w = .ok v w
theorem find_now {kind : TypeDesc} {good : Value → Prop} {x : Value} (h : ∀ v, good v → (v = x ∧ Instr.sameNow kind x v = some true) ∨ (v ≠ x ∧ Instr.sameNow kind x v = some false)) :
  ∀ (es : List MapEntry) (n : Nat), (∀ e, e ∈ es → good e.key) →
  (Instr.findNow kind x es n = some none ∧ ∀ e, e ∈ es → e.key ≠ x) ∨
  ∃ j e, Instr.findNow kind x es n = some (some (n + j, e.val)) ∧ es[j]? = some e ∧ e.key = x ∧ ∀ i e', i < j → es[i]? = some e' → e'.key ≠ x
 | [], n, _ => .inl ⟨rfl, by simp⟩
 | e :: es, n, hg => by
  rcases h e.key (hg e (by simp)) with ⟨h1, h2⟩ | ⟨h1, h2⟩
  ·exact .inr ⟨0, e, by simp [Instr.findNow, h2], rfl, h1, by simp⟩
  ·rcases find_now h es (n + 1) (fun e' he' => hg e' (by simp [he'])) with ⟨a1, a2⟩ | ⟨j, e', a1, a2, a3, a4⟩
   ·refine .inl ⟨by simp [Instr.findNow, h2, a1], fun e' he' => ?_⟩
    rcases List.mem_cons.1 he' with rfl | he'
    ·exact h1
    ·exact a2 e' he'
   ·refine .inr ⟨j + 1, e', by simp [Instr.findNow, h2, a1]; omega, by simpa using a2, a3, fun i e'' hi he'' => ?_⟩
    cases i with
    | zero => simp at he''; subst he''; exact h1
    | succ i => exact a4 i e'' (by omega) (by simpa using he'')
theorem keyT_of_now {P : Program} {T : TypeId} {kind : TypeDesc} {good : Value → Prop} (hu : P.underlying T = some kind)
  (hc : ∀ (b : Bool) (w : World) (v : Value), good v → (Instr.checkKey b 10000 T v).run P w = .ok () w)
  (h : ∀ x, good x → ∀ v, good v → (v = x ∧ Instr.sameNow kind x v = some true) ∨ (v ≠ x ∧ Instr.sameNow kind x v = some false))
  (hs : ∀ v, good v → Instr.sameBits 10000 v v = true) : KeyT P T good where
 check := hc
 find := by
  intro w x hx es hes
  rcases find_now (h x hx) es 0 hes with ⟨a1, a2⟩ | ⟨j, e, a1, a2, a3, a4⟩
  ·exact .inl ⟨by simp only [Instr.findKey, Sem.run_bind, run_underlying hu, Result.andThen_ok, a1]; rfl, a2⟩
  ·exact .inr ⟨j, e, by simp only [Instr.findKey, Sem.run_bind, run_underlying hu, Result.andThen_ok, a1, Nat.zero_add]; rfl, a2, a3, a4⟩
 stays := by
  intro w v hv
  simp only [Instr.keyThatStays, hs v hv, if_true]; rfl
def isInt (k : IntKind) (v : Value) : Prop := ∃ n, v = .int k n
def isStr (v : Value) : Prop := ∃ s, v = .string s
theorem keyT_int {P : Program} {T : TypeId} {k : IntKind} (hu : P.underlying T = some (.int k)) : KeyT P T (isInt k) := by
 refine keyT_of_now hu ?_ ?_ ?_
 ·rintro b w v ⟨n, rfl⟩
  have : (10000 : Nat) = 9999 + 1 := rfl
  rw [this, Instr.checkKey]
  simp only [Sem.run_bind, run_underlying hu, Result.andThen_ok]; rfl
 ·rintro x ⟨n, rfl⟩ v ⟨n', rfl⟩
  by_cases h : n = n'
  ·subst h; exact .inl ⟨rfl, by simp [Instr.sameNow]⟩
  ·exact .inr ⟨by intro e; cases e; exact h rfl, by simp [Instr.sameNow, h]⟩
 ·rintro v ⟨n, rfl⟩; simp [Instr.sameBits]
theorem bytes_beq (a b : ByteArray) : (a == b) = decide (a = b) := by
 obtain ⟨a⟩ := a
 obtain ⟨b⟩ := b
 show (a == b) = _
 by_cases h : a = b
 ·subst h; simp
 ·simp [h]
theorem keyT_str {P : Program} {T : TypeId} (hu : P.underlying T = some .string) : KeyT P T isStr := by
 refine keyT_of_now hu ?_ ?_ ?_
 ·rintro b w v ⟨n, rfl⟩
  have : (10000 : Nat) = 9999 + 1 := rfl
  rw [this, Instr.checkKey]
  simp only [Sem.run_bind, run_underlying hu, Result.andThen_ok]; rfl
 ·rintro x ⟨n, rfl⟩ v ⟨n', rfl⟩
  by_cases h : n = n'
  ·subst h; exact .inl ⟨rfl, by simp [Instr.sameNow, bytes_beq]⟩
  ·exact .inr ⟨by intro e; cases e; exact h rfl, by simp [Instr.sameNow, bytes_beq, h]⟩
 ·rintro v ⟨n, rfl⟩; simp [Instr.sameBits, bytes_beq]
inductive Look (x : Value) : List (Value × V) → Option V → Prop
 | nil : Look x [] none
 | here {v : V} {es : List (Value × V)} : Look x ((x, v) :: es) (some v)
 | there {k : Value} {v : V} {es : List (Value × V)} {r : Option V} (h : k ≠ x) (h' : Look x es r) : Look x ((k, v) :: es) r
theorem Look.none_of {x : Value} {es : List (Value × V)} {r : Option V} (h : Look x es r) (hn : ∀ p, p ∈ es → p.1 ≠ x) : r = none := by
 induction h with
 | nil => rfl
 | here => exact absurd rfl (hn _ List.mem_cons_self)
 | there _ _ ih => exact ih fun p hp => hn p (by simp [hp])
theorem Look.some_of {x : Value} {es : List (Value × V)} {r : Option V} (h : Look x es r) : ∀ (j : Nat) (v : V), es[j]? = some (x, v) → (∀ i p, i < j → es[i]? = some p → p.1 ≠ x) → r = some v := by
 induction h with
 | nil => intro j v h; simp at h
 | here =>
  intro j v hj hi
  cases j with
  | zero => simp at hj; rw [hj]
  | succ j => exact absurd rfl (hi 0 _ (by omega) rfl)
 | there h _ ih =>
  intro j v hj hi
  cases j with
  | zero => simp at hj; exact absurd hj.1 h
  | succ j => exact ih j v (by simpa using hj) fun i p hi' hp => hi (i + 1) p (by omega) (by simpa using hp)
inductive Puts (x : Value) (v : V) : List (Value × V) → List (Value × V) → Prop
 | nil : Puts x v [] [(x, v)]
 | here {v' : V} {es : List (Value × V)} : Puts x v ((x, v') :: es) ((x, v) :: es)
 | there {k : Value} {v' : V} {es es' : List (Value × V)} (h : k ≠ x) (h' : Puts x v es es') : Puts x v ((k, v') :: es) ((k, v') :: es')
theorem Puts.none_of {x : Value} {v : V} {es es' : List (Value × V)} (h : Puts x v es es') (hn : ∀ p, p ∈ es → p.1 ≠ x) : es' = es ++ [(x, v)] := by
 induction h with
 | nil => rfl
 | here => exact absurd rfl (hn _ List.mem_cons_self)
 | there _ _ ih => rw [ih fun p hp => hn p (by simp [hp])]; rfl
theorem Puts.some_of {x : Value} {v : V} {es es' : List (Value × V)} (h : Puts x v es es') : ∀ (j : Nat) (v' : V), es[j]? = some (x, v') → (∀ i p, i < j → es[i]? = some p → p.1 ≠ x) → es' = es.set j (x, v) := by
 induction h with
 | nil => intro j v h; simp at h
 | here =>
  intro j v' hj hi
  cases j with
  | zero => rfl
  | succ j => exact absurd rfl (hi 0 _ (by omega) rfl)
 | there h _ ih =>
  intro j v' hj hi
  cases j with
  | zero => simp at hj; exact absurd hj.1 h
  | succ j => rw [ih j v' (by simpa using hj) fun i p hi' hp => hi (i + 1) p (by omega) (by simpa using hp)]; rfl
def tyMap (P : Program) (T k e : TypeId) : Bool := match P.underlying T with | some (.map k' e') => k' == k && e' == e | _ => false
theorem tyMap_inv {P : Program} {T k e : TypeId} (h : tyMap P T k e = true) : P.underlying T = some (.map k e) := by
 unfold tyMap at h
 cases hu : P.underlying T with
 | none => simp [hu] at h
 | some d =>
  rw [hu] at h
  cases d <;> simp only [Bool.false_eq_true] at h
  simp only [Bool.and_eq_true, beq_iff_eq] at h
  obtain ⟨rfl, rfl⟩ := h
  rfl
theorem modify_cons {α : Type} (f : α → α) (e : α) : ∀ (l : List α) (j : Nat), l[j]? = some e → (l.modify j f).Perm (f e :: l.eraseIdx j)
 | [], j, h => by simp at h
 | x :: l, 0, h => by simp at h; subst h; simp
 | x :: l, j + 1, h => by
  simp only [List.modify_succ_cons, List.eraseIdx_cons_succ]
  exact ((modify_cons f e l j (by simpa using h)).cons x).trans (List.Perm.swap _ _ _)
theorem cons_erase {α : Type} (e : α) : ∀ (l : List α) (j : Nat), l[j]? = some e → l.Perm (e :: l.eraseIdx j)
 | [], j, h => by simp at h
 | x :: l, 0, h => by simp at h; subst h; simp
 | x :: l, j + 1, h => by
  simp only [List.eraseIdx_cons_succ]
  exact ((cons_erase e l j (by simpa using h)).cons x).trans (List.Perm.swap _ _ _)
theorem modify_perm {α : Type} (f : α → α) {e : α} {l L : List α} {j k : Nat} (h : l.Perm L) (h1 : l[j]? = some e) (h2 : L[k]? = some e) : (l.modify j f).Perm (L.modify k f) :=
 (modify_cons f e l j h1).trans ((((((cons_erase e l j h1).symm.trans h).trans (cons_erase e L k h2)).cons_inv).cons (f e)).trans (modify_cons f e L k h2).symm)
theorem map_modify {α β : Type} (f : α → α) (g : α → β) : ∀ (l : List α) (k : Nat), (∀ e, l[k]? = some e → g (f e) = g e) → (l.modify k f).map g = l.map g
 | [], k, _ => by simp
 | x :: l, 0, h => by simp [h x rfl]
 | x :: l, k + 1, h => by simp [map_modify f g l k (fun e he => h e (by simpa using he))]
theorem MWf.push {E : Array MapEntry} {clock : Nat} (q : MWf E clock) (k v : Value) (hk : ∀ e, e ∈ E.toList → e.key ≠ k) : MWf (E.push { key := k, val := v, born := clock }) (clock + 1) where
 born := by
  rw [Array.toList_push, List.map_append, List.nodup_append]
  refine ⟨q.born, by simp, fun a ha b hb => ?_⟩
  obtain ⟨e, he, rfl⟩ := List.mem_map.1 ha
  simp at hb; subst hb
  have := q.lt e he; omega
 lt := fun e he => by
  rw [Array.toList_push, List.mem_append] at he
  rcases he with he | he
  ·have := q.lt e he; omega
  ·simp at he; subst he; exact Nat.lt_succ_self _
 key := by
  rw [Array.toList_push, List.map_append, List.nodup_append]
  refine ⟨q.key, by simp, fun a ha b hb => ?_⟩
  obtain ⟨e, he, rfl⟩ := List.mem_map.1 ha
  simp at hb; subst hb
  exact hk e he
theorem MWf.modify {E : Array MapEntry} {clock j : Nat} (q : MWf E clock) (f : MapEntry → MapEntry) (hb : ∀ e, (f e).born = e.born) (hk : ∀ e, E[j]? = some e → (f e).key = e.key) : MWf (E.modify j f) clock := by
 have e1 : (E.modify j f).toList.map (·.born) = E.toList.map (·.born) := by rw [Array.toList_modify]; exact map_modify f _ _ _ (fun e _ => hb e)
 have e2 : (E.modify j f).toList.map (·.key) = E.toList.map (·.key) := by rw [Array.toList_modify]; exact map_modify f _ _ _ (fun e he => hk e (by simpa using he))
 refine ⟨by rw [e1]; exact q.born, fun e he => ?_, by rw [e2]; exact q.key⟩
 have : e.born ∈ (E.modify j f).toList.map (·.born) := List.mem_map.2 ⟨e, he, rfl⟩
 rw [e1] at this
 obtain ⟨e', h1, h2⟩ := List.mem_map.1 this
 rw [← h2]; exact q.lt e' h1
theorem MWf.nil : MWf #[] 0 := ⟨by simp, by simp, by simp⟩
theorem mapAt_nil {o : Option Obj} (h : o = some (.map #[] 0)) : MapAt o #[] 0 := ⟨#[], h, .refl _, .nil⟩
theorem aops_makeMap {d : Nat} {T : TypeId} (hw : Wants ops S ⟨some d, .makeMap T none, ty, pos, after, g⟩ true) (hN : Nat.blt d K.N = true)
  (kk : AOps K ops rest Q ⟨(d, .map S.nx) :: S.env, (S.nx, .map []) :: S.hp, S.nx + 1⟩) : AOps K ops (⟨some d, .makeMap T none, ty, pos, after, g⟩ :: rest) Q S := by
 refine aops_runs hw (fun m β w a r => ?_) kk
 obtain ⟨β', hle, hnx, r2⟩ := r.alloc (.map #[] 0) (.map []) ⟨0, 0⟩ _ rfl (fun β' hle => ⟨#[], 0, fun _ _ => False, mapAt_nil (by simp), rfl, bls_none, by simp⟩)
 refine ⟨.map (some w.heap.size), { w with heap := w.heap.push (.map #[] 0) }, m, β', .inl ?_, Rel.put r2 hN (.map hnx)⟩
 simp only [execOp, Option.map_none]
 rw [Sem.run_bind]
 rfl
theorem VRel.conAgg {vs : List Value} {x : Value} (h : VRel m β (.agg (vs.map .con)) x) : x = .agg vs.toArray := by
 have key : ∀ us : Array Value, (vs.map V.con).length = us.size → (∀ (i : Nat) (c : V) (v : Value), (vs.map V.con)[i]? = some c → us[i]? = some v → VRel m β c v) → us = vs.toArray := by
  intro us hl hh
  apply Array.ext'
  apply List.ext_getElem?
  intro i
  simp only [List.length_map] at hl
  cases hv : vs[i]? with
  | none =>
   have : vs.length ≤ i := List.getElem?_eq_none_iff.1 hv
   rw [List.getElem?_eq_none (by simp; omega)]
  | some v =>
   have hi := (List.getElem?_eq_some_iff.1 hv).1
   have hu : us[i]? = some (us[i]'(by omega)) := Array.getElem?_eq_getElem (by omega)
   have := (hh i (.con v) _ (by simp [hv]) hu).of_con
   rw [Array.getElem?_toList, hu, this]
 cases h with
 | imm h => cases h with | agg hl hh => rw [key _ hl fun i c v a b => .imm (hh i c v a b)]
 | agg hl hh => rw [key _ hl hh]
theorem irel_con (v : Value) : ∀ m : Mem, IRel m (.con v) v := fun _ => .con v
theorem irel_conAgg (xs : List Value) : ∀ m : Mem, IRel m (.agg (xs.map .con)) (.agg xs.toArray) := fun m =>
 .agg (by simp) fun i c v hc hv => by
  rw [List.getElem?_map, Option.map_eq_some_iff] at hc
  obtain ⟨u, hu, rfl⟩ := hc
  have : xs[i]? = some v := by simpa using hv
  rw [hu] at this
  cases this
  exact .con _
inductive KeyIs (K : Ctx) (S : St) (y : Operand) : Value → Prop
 | con {kv : Value} (h : evl K S y = .con kv) : KeyIs K S y kv
 | agg (xs : List Value) (h : evl K S y = .agg (xs.map .con)) : KeyIs K S y (.agg xs.toArray)
theorem KeyIs.read {y : Operand} {kv : Value} (h : KeyIs K S y kv) (r : Rel K m β w a S) : a.eval y = kv := by
 cases h with
 | con h => exact r.con h
 | agg xs h =>
  have := r.reads y
  rw [h] at this
  exact this.conAgg
inductive MapIs (S : St) : V → List (Value × V) → Prop
 | own {id : Nat} {es : List (Value × V)} (h : hget S.hp id = .map es) : MapIs S (.map id) es
 | imm {es : List (Value × V)} : MapIs S (.imap es) es
theorem MapIs.read {x : V} {es : List (Value × V)} (h : MapIs S x es) (r : Rel K m β w a S) {v : Value} (hv : VRel m β x v) :
  ∃ b ents clock, v = .map (some b) ∧ MapAt (w.heap[b]?) ents clock ∧ es.length = ents.size ∧ ∀ (i : Nat) (p : Value × V) (e : MapEntry), es[i]? = some p → ents[i]? = some e → e.key = p.1 ∧ (p.2.deep = false → VRel m β p.2 e.val) := by
 cases h with
 | @own id _ ho =>
  cases hv with
  | imm h => cases h
  | @map _ b cap hb =>
   have := r.own id
   rw [hb, ho] at this
   obtain ⟨ents, clock, bl, h1, h2, _, h3⟩ := this
   exact ⟨b, ents, clock, rfl, h1, h2, fun i p e a b => ⟨(h3 i p e a b).1, fun hd => (h3 i p e a b).2.v hd⟩⟩
 | imm =>
  cases hv with
  | imm h => cases h with
   | imap hm hl hk h => exact ⟨_, _, _, rfl, hm.mono (r.imm _), hl, fun i p e a b => ⟨hk i p e a b, fun _ => .imm (h i p e a b)⟩⟩
theorem found {P : Program} {T : TypeId} {good : Value → Prop} (hK : KeyT P T good) {w : World} {x : Value} (hx : good x) {es : List (Value × V)} {ents E : Array MapEntry} {clock : Nat} (hl : es.length = ents.size)
  (hr : ∀ (i : Nat) (p : Value × V) (e : MapEntry), es[i]? = some p → ents[i]? = some e → e.key = p.1) (hg : ∀ p, p ∈ es → good p.1) (hp : ents.toList.Perm E.toList) (hwf : MWf E clock) :
  ((Instr.findKey T x E.toList).run P w = .ok none w ∧ (∀ p, p ∈ es → p.1 ≠ x) ∧ ∀ e, e ∈ E.toList → e.key ≠ x) ∨
  ∃ (j : Nat) (p : Value × V) (e : MapEntry) (jE : Nat), (Instr.findKey T x E.toList).run P w = .ok (some (jE, e.val)) w ∧ ents[j]? = some e ∧ es[j]? = some p ∧ p.1 = x ∧ (∀ i p', i < j → es[i]? = some p' → p'.1 ≠ x) ∧ E[jE]? = some e := by
 have corr : ∀ (i : Nat) (e : MapEntry), ents[i]? = some e → ∃ p, es[i]? = some p ∧ e.key = p.1 := by
  intro i e he
  have : i < es.length := by rw [hl]; exact (Array.getElem?_eq_some_iff.1 he).1
  exact ⟨es[i], List.getElem?_eq_getElem this, hr i _ e (List.getElem?_eq_getElem this) he⟩
 have corr' : ∀ (i : Nat) p, es[i]? = some p → ∃ e, ents[i]? = some e ∧ e.key = p.1 := by
  intro i p hp
  have : i < ents.size := by rw [← hl]; exact (List.getElem?_eq_some_iff.1 hp).1
  exact ⟨ents[i], Array.getElem?_eq_getElem this, hr i p _ hp (Array.getElem?_eq_getElem this)⟩
 have hge : ∀ e, e ∈ E.toList → good e.key := by
  intro e he
  obtain ⟨i, hi⟩ := List.getElem?_of_mem (hp.mem_iff.2 he)
  obtain ⟨p, h1, h2⟩ := corr i e (by simpa using hi)
  rw [h2]; exact hg p (List.mem_of_getElem? h1)
 rcases hK.find w x hx E.toList hge with ⟨a1, a2⟩ | ⟨jE, e, a1, a2, a3, a4⟩
 ·refine .inl ⟨a1, fun p hq => ?_, a2⟩
  obtain ⟨i, hi⟩ := List.getElem?_of_mem hq
  obtain ⟨e, h1, h2⟩ := corr' i p hi
  rw [← h2]; exact a2 e (hp.mem_iff.1 (List.mem_of_getElem? (by simpa using h1)))
 ·obtain ⟨j, hj⟩ := List.getElem?_of_mem (hp.mem_iff.2 (List.mem_of_getElem? a2))
  have hj : ents[j]? = some e := by simpa using hj
  obtain ⟨p, h1, h2⟩ := corr j e hj
  refine .inr ⟨j, p, e, jE, a1, hj, h1, by rw [← h2]; exact a3, fun i p' hi hp' hpx => ?_, by simpa using a2⟩
  obtain ⟨e', h3, h4⟩ := corr' i p' hp'
  have hn : (ents.toList.map (·.key)).Nodup := (hp.map _).nodup_iff.2 hwf.key
  have e1 : (ents.toList.map (·.key))[i]? = some x := by simp [h3, h4, hpx]
  have e2 : (ents.toList.map (·.key))[j]? = some x := by simp [hj, a3]
  have := (List.getElem?_inj (List.getElem?_eq_some_iff.1 e1).1 hn).1 (e1.trans e2.symm)
  omega
theorem aops_lookup {d : Nat} {T k e : TypeId} {x y : Operand} {good : Value → Prop} {kv zv : Value} {mv : V} {es : List (Value × V)} (res : Option V) (zd dv : V) (hT : tyMap K.P T k e = true) (hK : KeyT K.P k good)
  (hz : (K.P.info? e).bind (·.zero) = some zv) (hzd : ∀ m, IRel m zd zv)
  (hw : Wants ops S ⟨some d, .lookup T x y false, ty, pos, after, g⟩ true) (hx : evl K S x = mv) (hm : MapIs S mv es) (hy : KeyIs K S y kv) (hg : good kv) (hges : ∀ p, p ∈ es → good p.1)
  (hl : Look kv es res) (hd : res.getD zd = dv) (hN : Nat.blt d K.N = true)
  (kk : AOps K ops rest Q (S.put d dv)) (hdd : dv.deep = false := by rfl) : AOps K ops (⟨some d, .lookup T x y false, ty, pos, after, g⟩ :: rest) Q S :=
 aops_val _ hw hN (fun m β w a r => by
  have h := r.reads x
  rw [hx] at h
  obtain ⟨b, ents, clock, e1, ⟨E, e2, eP, eW⟩, e3, e4⟩ := hm.read r h
  have hobj : (getObj b).run K.P w = .ok (.map E clock) w := by simp [getObj, Sem.run, e2]
  have hzr : (zeroValue e).run K.P w = .ok zv w := by
   cases hi : K.P.info? e with
   | none => simp [hi] at hz
   | some i =>
    simp [hi] at hz
    simp only [zeroValue, Sem.run_bind, run_typeInfo w hi, Result.andThen_ok, hz]; rfl
  rcases found hK hg e3 (fun i p e a b => (e4 i p e a b).1) hges eP eW (w := w) with ⟨a1, a2, _⟩ | ⟨j, p, en, jE, a1, a2, a3, a4, a5, aE⟩
  ·refine ⟨zv, ?_, ?_⟩
   ·simp only [execOp, e1, hy.read r]
    refine run_value ?_
    simp only [Instr.lookup, Sem.run_bind, run_underlying (tyMap_inv hT), Result.andThen_ok, hobj, pure, Sem.run, hK.check _ w kv hg, a1, hzr]
    rfl
   ·rw [← hd, hl.none_of a2]; exact .imm (hzd m)
  ·refine ⟨en.val, ?_, ?_⟩
   ·simp only [execOp, e1, hy.read r]
    refine run_value ?_
    simp only [Instr.lookup, Sem.run_bind, run_underlying (tyMap_inv hT), Result.andThen_ok, hobj, pure, Sem.run, hK.check _ w kv hg, a1]
    rfl
   ·have : p = (kv, p.2) := by rw [← a4]
    rw [this] at a3
    have hr := hl.some_of j p.2 a3 a5
    rw [hr] at hd
    have hd : p.2 = dv := hd
    rw [← hd]
    exact (e4 j _ en a3 a2).2 (by rw [← hd] at hdd; exact hdd)) kk
theorem aops_lookup_ok {d : Nat} {T k e : TypeId} {x y : Operand} {good : Value → Prop} {kv zv : Value} {mv : V} {es : List (Value × V)} (res : Option V) (zd dv : V) (hT : tyMap K.P T k e = true) (hK : KeyT K.P k good)
  (hz : (K.P.info? e).bind (·.zero) = some zv) (hzd : ∀ m, IRel m zd zv)
  (hw : Wants ops S ⟨some d, .lookup T x y true, ty, pos, after, g⟩ true) (hx : evl K S x = mv) (hm : MapIs S mv es) (hy : KeyIs K S y kv) (hg : good kv) (hges : ∀ p, p ∈ es → good p.1)
  (hl : Look kv es res) (hd : res.getD zd = dv) (hN : Nat.blt d K.N = true)
  (kk : AOps K ops rest Q (S.put d (.tup [dv, .con (.bool res.isSome)]))) (hdd : dv.deep = false := by rfl) : AOps K ops (⟨some d, .lookup T x y true, ty, pos, after, g⟩ :: rest) Q S :=
 aops_val _ hw hN (fun m β w a r => by
  have h := r.reads x
  rw [hx] at h
  obtain ⟨b, ents, clock, e1, ⟨E, e2, eP, eW⟩, e3, e4⟩ := hm.read r h
  have hobj : (getObj b).run K.P w = .ok (.map E clock) w := by simp [getObj, Sem.run, e2]
  have hzr : (zeroValue e).run K.P w = .ok zv w := by
   cases hi : K.P.info? e with
   | none => simp [hi] at hz
   | some i =>
    simp [hi] at hz
    simp only [zeroValue, Sem.run_bind, run_typeInfo w hi, Result.andThen_ok, hz]; rfl
  have tup : ∀ v b, VRel m β dv v → res.isSome = b → VRel m β (.tup [dv, .con (.bool res.isSome)]) (.tuple #[v, .bool b]) := by
   rintro v b hv rfl
   refine .tup rfl fun i c u hi hu => ?_
   match i with
   | 0 => simp at hi hu; subst hi; subst hu; exact hv
   | 1 => simp at hi hu; subst hi; subst hu; exact .imm (.con _)
   | i + 2 => simp at hi
  rcases found hK hg e3 (fun i p e a b => (e4 i p e a b).1) hges eP eW (w := w) with ⟨a1, a2, _⟩ | ⟨j, p, en, jE, a1, a2, a3, a4, a5, aE⟩
  ·have hres := hl.none_of a2
   refine ⟨.tuple #[zv, .bool false], ?_, tup _ _ (by rw [← hd, hres]; exact .imm (hzd m)) (by rw [hres]; rfl)⟩
   simp only [execOp, e1, hy.read r]
   refine run_value ?_
   simp only [Instr.lookup, Sem.run_bind, run_underlying (tyMap_inv hT), Result.andThen_ok, hobj, pure, Sem.run, hK.check _ w kv hg, a1, hzr]
   rfl
  ·have : p = (kv, p.2) := by rw [← a4]
   rw [this] at a3
   have hres := hl.some_of j p.2 a3 a5
   refine ⟨.tuple #[en.val, .bool true], ?_, tup _ _ (by rw [hres] at hd; have hd : p.2 = dv := hd; rw [← hd]; exact (e4 j _ en a3 a2).2 (by rw [← hd] at hdd; exact hdd)) (by rw [hres]; rfl)⟩
   simp only [execOp, e1, hy.read r]
   refine run_value ?_
   simp only [Instr.lookup, Sem.run_bind, run_underlying (tyMap_inv hT), Result.andThen_ok, hobj, pure, Sem.run, hK.check _ w kv hg, a1]
   rfl) kk
theorem aops_mapPut {T k e : TypeId} {x y z : Operand} {good : Value → Prop} {kv : Value} {id : Nat} {dv : V} {es : List (Value × V)} {op : Op} (hop : op = .mapUpdate T x y z ∨ op = .insert T x y z) (es' : List (Value × V)) (hT : tyMap K.P T k e = true) (hK : KeyT K.P k good)
  (hw : Wants ops S ⟨none, op, ty, pos, after, g⟩ true) (hx : evl K S x = .map id) (ho : hget S.hp id = .map es) (hy : KeyIs K S y kv) (hg : good kv) (hges : ∀ p, p ∈ es → good p.1) (hz : evl K S z = dv)
  (hp : Puts kv dv es es') (kk : AOps K ops rest Q ⟨S.env, (id, .map es') :: S.hp, S.nx⟩) : AOps K ops (⟨none, op, ty, pos, after, g⟩ :: rest) Q S := by
 refine aops_runs hw (fun m β w a r => ?_) kk
 have h := r.reads x
 rw [hx] at h
 have hzv := r.reads z
 rw [hz] at hzv
 generalize hv : a.eval x = v at h
 cases h with
 | imm h => cases h
 | @map _ b cap hb =>
 have h0 := r.own id
 rw [hb, ho] at h0
 obtain ⟨ents, clock, bl, ⟨E, e2, eP, eW⟩, e3, eB, e4⟩ := h0
 have hobj : (getObj b).run K.P w = .ok (.map E clock) w := by simp [getObj, Sem.run, e2]
 have hset : ∀ o, (setObj b o).run K.P w = .ok () { w with heap := w.heap.setIfInBounds b o } := by intro o; simp [setObj, Sem.run, e2]
 have hbl := lt_of_some e2
 have heap' : ∀ o b', b' ≠ b → ({ w with heap := w.heap.setIfInBounds b o } : World).heap[b']? = w.heap[b']? := by
  intro o b' hne; simp only [Array.getElem?_setIfInBounds]; rw [if_neg (Ne.symm hne)]
 have self' : ∀ o, ({ w with heap := w.heap.setIfInBounds b o } : World).heap[b]? = some o := by
  intro o; simp [hbl]
 rcases found hK hg e3 (fun i p e a b => (e4 i p e a b).1) hges eP eW (w := w) with ⟨a1, a2, aK⟩ | ⟨j, p, en, jE, a1, a2, a3, a4, a5, aE⟩
 ·have hes := hp.none_of a2
  refine ⟨undef, { w with heap := w.heap.setIfInBounds b (.map (E.push { key := kv, val := a.eval z, born := clock }) (clock + 1)) }, m, β, .inr ⟨rfl, ?_⟩,
   r.update (by rw [ho]; simp) hb _ (.map es') (heap' _) (by simp) ⟨rfl, rfl, rfl, Nat.le_refl _⟩ (fun hkeep => ⟨ents.push { key := kv, val := a.eval z, born := clock }, _, bl, ⟨_, self' _, by rw [Array.toList_push, Array.toList_push]; exact eP.append_right _, eW.push _ _ aK⟩, by rw [hes]; simp [e3], eB, fun i p e hi he => ?_⟩)⟩
  ·rcases hop with rfl | rfl <;> simp only [execOp, hy.read r] <;> rw [Sem.run_bind]
   all_goals
    have : (Instr.mapUpdate T (a.eval x) kv (a.eval z)).run K.P w = .ok () { w with heap := w.heap.setIfInBounds b (.map (E.push { key := kv, val := a.eval z, born := clock }) (clock + 1)) } := by
     rw [hv]
     simp only [Instr.mapUpdate, Sem.run_bind, run_underlying (tyMap_inv hT), Result.andThen_ok, hobj, hK.check _ w kv hg, a1, hset]
    rw [this]; rfl
  ·rw [hes] at hi
   rw [Array.getElem?_push] at he
   by_cases hlast : i = ents.size
   ·rw [if_pos hlast] at he
    rw [List.getElem?_append_right (by omega), hlast, e3] at hi
    simp at hi he
    subst hi; subst he
    exact ⟨rfl, .inl hzv⟩
   ·rw [if_neg hlast] at he
    have : i < es.length := by rw [e3]; exact (Array.getElem?_eq_some_iff.1 he).1
    rw [List.getElem?_append_left this] at hi
    exact ⟨(e4 i p e hi he).1, (e4 i p e hi he).2.mono (Mem.le_refl _) (Locs.le_refl _) (fun _ h => h) (fun x hx => hkeep x (eB.1 _ x hx))⟩
 ·have hpp : p = (kv, p.2) := by rw [← a4]
  rw [hpp] at a3
  have hes := hp.some_of j p.2 a3 a5
  have hek : en.key = kv := by rw [(e4 j _ en a3 a2).1]
  refine ⟨undef, { w with heap := w.heap.setIfInBounds b (.map (E.modify jE fun e => { e with key := kv, val := a.eval z }) clock) }, m, β, .inr ⟨rfl, ?_⟩,
   r.update (by rw [ho]; simp) hb _ (.map es') (heap' _) (by simp) ⟨rfl, rfl, rfl, Nat.le_refl _⟩ (fun hkeep => ⟨ents.modify j fun e => { e with key := kv, val := a.eval z }, _, bl, ⟨_, self' _, by rw [Array.toList_modify, Array.toList_modify]; exact modify_perm _ eP (by simpa using a2) (by simpa using aE), eW.modify _ (fun _ => rfl) (fun e he => by rw [aE] at he; simp only [Option.some.injEq] at he; subst he; exact hek.symm)⟩, by rw [hes]; simp [e3], eB, fun i p e hi he => ?_⟩)⟩
  ·rcases hop with rfl | rfl <;> simp only [execOp, hy.read r] <;> rw [Sem.run_bind]
   all_goals
    have : (Instr.mapUpdate T (a.eval x) kv (a.eval z)).run K.P w = .ok () { w with heap := w.heap.setIfInBounds b (.map (E.modify jE fun e => { e with key := kv, val := a.eval z }) clock) } := by
     rw [hv]
     simp only [Instr.mapUpdate, Sem.run_bind, run_underlying (tyMap_inv hT), Result.andThen_ok, hobj, hK.check _ w kv hg, a1, aE, Option.map_some, Option.getD_some, hek, hK.stays w kv hg, hset]
    rw [this]; rfl
  ·rw [hes, List.getElem?_set] at hi
   rw [Array.getElem?_modify] at he
   by_cases hji : j = i
   ·subst hji
    rw [if_pos rfl] at he
    rw [if_pos rfl, if_pos (by rw [e3]; exact (Array.getElem?_eq_some_iff.1 a2).1)] at hi
    rw [a2] at he
    simp at hi he
    subst hi; subst he
    exact ⟨rfl, .inl hzv⟩
   ·rw [if_neg hji] at hi he
    exact ⟨(e4 i p e hi he).1, (e4 i p e hi he).2.mono (Mem.le_refl _) (Locs.le_refl _) (fun _ h => h) (fun x hx => hkeep x (eB.1 _ x hx))⟩
theorem aops_mapUpdate {T k e : TypeId} {x y z : Operand} {good : Value → Prop} {kv : Value} {id : Nat} {dv : V} {es : List (Value × V)} (es' : List (Value × V)) (hT : tyMap K.P T k e = true) (hK : KeyT K.P k good)
  (hw : Wants ops S ⟨none, .mapUpdate T x y z, ty, pos, after, g⟩ true) (hx : evl K S x = .map id) (ho : hget S.hp id = .map es) (hy : KeyIs K S y kv) (hg : good kv) (hges : ∀ p, p ∈ es → good p.1) (hz : evl K S z = dv)
  (hp : Puts kv dv es es') (kk : AOps K ops rest Q ⟨S.env, (id, .map es') :: S.hp, S.nx⟩) : AOps K ops (⟨none, .mapUpdate T x y z, ty, pos, after, g⟩ :: rest) Q S := aops_mapPut (.inl rfl) es' hT hK hw hx ho hy hg hges hz hp kk
end
def aget {α : Type} (d : α) : List (Nat × α) → Nat → α
 | [], _ => d
 | (k, v) :: e, t => if k = t then v else aget d e t
theorem get_aget (e : Env) (t : Nat) : get e t = aget .any e t := by
 induction e with
 | nil => rfl
 | cons p e ih => obtain ⟨k, v⟩ := p; rw [get_put, aget, ih]
theorem hget_aget (e : Heap) (t : Nat) : hget e t = aget .dead e t := by
 induction e with
 | nil => rfl
 | cons p e ih => obtain ⟨k, v⟩ := p; rw [hget_put, aget, ih]
def says {α : Type} (t : Nat) (l : List (Nat × α)) : Bool := l.any fun p => Nat.beq p.1 t
theorem aget_append {α : Type} (d : α) (l e : List (Nat × α)) (t : Nat) : aget d (l ++ e) t = if says t l = true then aget d l t else aget d e t := by
 induction l with
 | nil => simp [says]
 | cons p l ih =>
  obtain ⟨k, v⟩ := p
  simp only [List.cons_append, aget]
  by_cases h : k = t
  ·subst h; simp [says]
  ·have hk : Nat.beq k t = false := by cases hb : Nat.beq k t; rfl; exact absurd (Nat.eq_of_beq_eq_true hb) h
   have hs : says t ((k, v) :: l) = says t l := by simp [says, hk]
   rw [if_neg h, if_neg h, ih, hs]
theorem aget_says {α : Type} (d : α) (l e : List (Nat × α)) (t : Nat) (h : says t l = true) : aget d (l ++ e) t = aget d l t := by rw [aget_append, if_pos h]
def runs {α : Type} (p : Nat → Bool) : Nat → List (List (Nat × α)) → List (Nat × α) → List (Nat × α)
 | _, [], e => e
 | i, u :: us, e => runs p (i + 1) us (if p i then u ++ e else e)
theorem runs_base {α : Type} (d : α) (p : Nat → Bool) (t : Nat) : ∀ (us : List (List (Nat × α))) (i : Nat) (e : List (Nat × α)),
  (∀ j u, us[j]? = some u → says t u = true → p (i + j) = false) → aget d (runs p i us e) t = aget d e t
 | [], _, _, _ => rfl
 | u :: us, i, e, h => by
  rw [runs, runs_base d p t us (i + 1) _ (fun j u' hu hs => by have := h (j + 1) u' (by simpa using hu) hs; rw [← this]; congr 1; omega)]
  split
  ·rename_i hp
   rw [aget_append, if_neg]
   intro hs
   have := h 0 u rfl hs
   simp [hp] at this
  ·rfl
theorem runs_congr {α : Type} (d : α) (p q : Nat → Bool) (t : Nat) : ∀ (us : List (List (Nat × α))) (i : Nat) (e e' : List (Nat × α)), aget d e t = aget d e' t →
  (∀ j u, us[j]? = some u → says t u = true → p (i + j) = q (i + j)) → aget d (runs p i us e) t = aget d (runs q i us e') t
 | [], _, _, _, he, _ => he
 | u :: us, i, e, e', he, h => by
  rw [runs, runs]
  refine runs_congr d p q t us (i + 1) _ _ ?_ (fun j u' hu hs => by have := h (j + 1) u' (by simpa using hu) hs; have e1 : i + 1 + j = i + (j + 1) := (by omega); rw [e1]; exact this)
  by_cases hs : says t u = true
  ·have := h 0 u rfl hs
   simp only [Nat.add_zero] at this
   rw [this]
   split
   ·rw [aget_says _ _ _ _ hs, aget_says _ _ _ _ hs]
   ·exact he
  ·have : ∀ e, aget d (if p i then u ++ e else e) t = aget d e t := by
    intro e
    split
    ·rw [aget_append, if_neg hs]
    ·rfl
   rw [this]
   have : ∀ e, aget d (if q i then u ++ e else e) t = aget d e t := by
    intro e
    split
    ·rw [aget_append, if_neg hs]
    ·rfl
   rw [this]
   exact he
theorem runs_last {α : Type} (d : α) (p : Nat → Bool) (t : Nat) : ∀ (us : List (List (Nat × α))) (i : Nat) (e : List (Nat × α)) (j : Nat) (u : List (Nat × α)), us[j]? = some u → says t u = true → p (i + j) = true →
  (∀ j' u', j < j' → us[j']? = some u' → says t u' = true → p (i + j') = false) → aget d (runs p i us e) t = aget d u t
 | [], _, _, _, _, h, _, _, _ => by simp at h
 | u0 :: us, i, e, 0, u, hu, hs, hp, hl => by
  simp at hu; subst hu
  simp only [Nat.add_zero] at hp
  rw [runs, if_pos hp, runs_base d p t us (i + 1) _ (fun j u' hu' hs' => by have := hl (j + 1) u' (by omega) (by simpa using hu') hs'; rw [← this]; congr 1; omega), aget_says _ _ _ _ hs]
 | u0 :: us, i, e, j + 1, u, hu, hs, hp, hl => by
  rw [runs]
  refine runs_last d p t us (i + 1) _ j u (by simpa using hu) hs (by rw [← hp]; congr 1; omega) (fun j' u' hj' hu' hs' => ?_)
  have := hl (j' + 1) u' (by omega) (by simpa using hu') hs'
  rw [← this]; congr 1; omega
structure OD where
 re : List (Nat × V)
 rh : List (Nat × Ob)
 ue : List (Nat × V)
 uh : List (Nat × Ob)
def RdE (e : Env) : List (Nat × V) → Prop
 | [] => True
 | (t, v) :: r => get e t = v ∧ RdE e r
def RdH (e : Heap) : List (Nat × Ob) → Prop
 | [] => True
 | (t, v) :: r => hget e t = v ∧ RdH e r
theorem RdE.congr {e e' : Env} : ∀ {l : List (Nat × V)}, (∀ t, says t l = true → get e t = get e' t) → RdE e l → RdE e' l
 | [], _, _ => trivial
 | (t, v) :: r, h, hr => ⟨by rw [← h t (by simp [says])]; exact hr.1, RdE.congr (fun t' ht' => h t' (by simp only [says, List.any_cons, Bool.or_eq_true] at *; exact .inr ht')) hr.2⟩
theorem RdH.congr {e e' : Heap} : ∀ {l : List (Nat × Ob)}, (∀ t, says t l = true → hget e t = hget e' t) → RdH e l → RdH e' l
 | [], _, _ => trivial
 | (t, v) :: r, h, hr => ⟨by rw [← h t (by simp [says])]; exact hr.1, RdH.congr (fun t' ht' => h t' (by simp only [says, List.any_cons, Bool.or_eq_true] at *; exact .inr ht')) hr.2⟩
def St.upd (S : St) (D : OD) : St := ⟨D.ue ++ S.env, D.uh ++ S.hp, S.nx⟩
def OStep (K : Ctx) (nx : Nat) (ops : Array Oper) (o : Oper) (D : OD) : Prop := ∀ S, S.nx = nx → RdE S.env D.re → RdH S.hp D.rh → AOps K ops [o] (fun e T => e = .normal ∧ T = S.upd D) S
def LexOk : St → List OD → Prop
 | _, [] => True
 | S, D :: ds => RdE S.env D.re ∧ RdH S.hp D.rh ∧ LexOk (S.upd D) ds
def lexEnd : St → List OD → St
 | S, [] => S
 | S, D :: ds => lexEnd (S.upd D) ds
theorem lex_at : ∀ (ds : List OD) (S : St) (j : Nat) (D : OD), LexOk S ds → ds[j]? = some D →
  RdE (runs (fun i => Nat.blt i j) 0 (ds.map (·.ue)) S.env) D.re ∧ RdH (runs (fun i => Nat.blt i j) 0 (ds.map (·.uh)) S.hp) D.rh := by
 -- by the number of the first operation
 have key : ∀ (ds : List OD) (S : St) (k j : Nat) (D : OD), LexOk S ds → ds[j]? = some D →
   RdE (runs (fun i => Nat.blt i (k + j)) k (ds.map (·.ue)) S.env) D.re ∧ RdH (runs (fun i => Nat.blt i (k + j)) k (ds.map (·.uh)) S.hp) D.rh := by
  intro ds
  induction ds with
  | nil => intro S k j D _ h; simp at h
  | cons D0 ds ih =>
   intro S k j D hl h
   obtain ⟨h1, h2, h3⟩ := hl
   cases j with
   | zero =>
    simp at h; subst h
    simp only [List.map_cons, Nat.add_zero]
    constructor
    ·refine RdE.congr (fun t _ => ?_) h1
     rw [get_aget, get_aget]
     refine (runs_base .any _ t _ k S.env ?_).symm
     intro j u _ _
     cases hb : Nat.blt (k + j) k; rfl
     have := Nat.le_of_ble_eq_true hb; omega
    ·refine RdH.congr (fun t _ => ?_) h2
     rw [hget_aget, hget_aget]
     refine (runs_base .dead _ t _ k S.hp ?_).symm
     intro j u _ _
     cases hb : Nat.blt (k + j) k; rfl
     have := Nat.le_of_ble_eq_true hb; omega
   | succ j =>
    have hk : Nat.blt k (k + (j + 1)) = true := Nat.ble_eq_true_of_le (by omega)
    have := ih (S.upd D0) (k + 1) j D h3 (by simpa using h)
    simp only [List.map_cons, runs, hk, if_true]
    have e1 : k + 1 + j = k + (j + 1) := by omega
    rw [e1] at this
    exact this
 intro ds S j D hl h
 have := key ds S 0 j D hl h
 simpa using this
theorem lex_end : ∀ (ds : List OD) (S : St) (k : Nat), lexEnd S ds = ⟨runs (fun _ => true) k (ds.map (·.ue)) S.env, runs (fun _ => true) k (ds.map (·.uh)) S.hp, S.nx⟩
 | [], S, k => rfl
 | D :: ds, S, k => by
  rw [lexEnd, lex_end ds (S.upd D) (k + 1)]
  simp [runs, St.upd]
def preds (o : Oper) : List Nat := (o.after.toList.filter fun e => Region.binds .any e).map (·.on)
def ancs : List Oper → List (List Nat) → List (List Nat)
 | [], acc => acc
 | o :: os, acc => ancs os (acc ++ [preds o ++ (preds o).flatMap fun j => acc.getD j []])
def meets {α β : Type} (l : List (Nat × α)) (l' : List (Nat × β)) : Bool := l.any fun p => l'.any fun q => Nat.beq p.1 q.1
def clash (D D' : OD) : Bool := meets D.ue D'.re || meets D.ue D'.ue || meets D.re D'.ue || meets D.uh D'.rh || meets D.uh D'.uh || meets D.rh D'.uh
def anyOk (os : List Oper) (ds : List OD) : Bool :=
 let A := ancs os []
 Nat.beq os.length ds.length &&
 (List.range os.length).all fun i => (match os[i]? with | some o => (preds o).all fun j => Nat.blt j i | none => false) &&
  (List.range i).all fun j => match ds[j]?, ds[i]? with | some D, some D' => !clash D D' || (A.getD i []).any fun k => Nat.beq k j | _, _ => false
theorem meets_of {α β : Type} {l : List (Nat × α)} {l' : List (Nat × β)} {t : Nat} (h : says t l = true) (h' : says t l' = true) : meets l l' = true := by
 simp only [says, List.any_eq_true] at h h'
 obtain ⟨p, hp, hpt⟩ := h
 obtain ⟨q, hq, hqt⟩ := h'
 simp only [meets, List.any_eq_true]
 refine ⟨p, hp, q, hq, ?_⟩
 rw [Nat.eq_of_beq_eq_true hpt, Nat.eq_of_beq_eq_true hqt]
 exact Nat.beq_refl t
theorem ancs_closed {os : List Oper} {listed : Nat → Bool} : ∀ (rest : List Oper) (acc : List (List Nat)) (done : List Oper), os = done ++ rest → acc.length = done.length →
  (∀ (i : Nat) (o : Oper), os[i]? = some o → listed i = true → ∀ j, j ∈ preds o → listed j = true) →
  (∀ (i : Nat) (l : List Nat), acc[i]? = some l → listed i = true → ∀ j, j ∈ l → listed j = true) →
  ∀ (i : Nat) (l : List Nat), (ancs rest acc)[i]? = some l → listed i = true → ∀ j, j ∈ l → listed j = true := by
 intro rest
 induction rest with
 | nil => intro acc done _ _ _ h; exact h
 | cons o rest ih =>
  intro acc done hos hlen hcl hacc
  refine ih _ (done ++ [o]) (by simp [hos]) (by simp [hlen]) hcl ?_
  intro i l hi hli j hj
  rw [List.getElem?_append] at hi
  split at hi
  ·exact hacc i l hi hli j hj
  ·rename_i hge
   have hi0 : i - acc.length = 0 := by
    cases hx : i - acc.length with
    | zero => rfl
    | succ n => rw [hx] at hi; simp at hi
   rw [hi0] at hi
   simp at hi
   subst hi
   have hil : i = done.length := by omega
   have ho : os[i]? = some o := by rw [hos, hil]; simp
   rcases List.mem_append.1 hj with hj | hj
   ·exact hcl i o ho hli j hj
   ·simp only [List.mem_flatMap] at hj
    obtain ⟨k, hk, hjk⟩ := hj
    have hlk := hcl i o ho hli k hk
    cases hak : acc[k]? with
    | none => simp [hak] at hjk
    | some l =>
     simp [hak] at hjk
     exact hacc k l hak hlk j hjk
section
variable {K : Ctx} {Q : Post} {S S' : St}
variable {m : Mem} {β : Locs} {w : World} {a : Act}
theorem Rel.congr (r : Rel K m β w a S) (he : ∀ t, get S'.env t = get S.env t) (hh : ∀ t, hget S'.hp t = hget S.hp t) (hn : S'.nx = S.nx) : Rel K m β w a S' :=
 ⟨r.imm, r.ext, r.mold, r.frame, r.size, r.same, r.tn, r.df, fun t => by rw [he]; exact r.env t, fun i => by rw [hh]; exact r.own i, fun i b c h => r.priv i b c (by rw [← hh]; exact h),
  fun i i' b c c' h h' => r.inj i i' b c c' (by rw [← hh]; exact h) (by rw [← hh]; exact h'),
  fun i x h hx => let q := r.hid i x (by rw [← hh]; exact h) hx; ⟨q.lt, q.m, q.old, fun i' b c h' => q.ne i' b c (by rw [← hh]; exact h'), fun i' h' => q.un i' (by rw [← hh]; exact h')⟩, fun i h => r.nx i (by rw [← hn]; exact h), fun q hq => by rw [hn]; exact r.pin q hq⟩
theorem awp_region_any {rid : Nat} {l : List Oper} (ds : List OD) (hm : K.P.follows .mixedOrders = true) (hlex : LexOk S ds) (hok : anyOk l ds = true)
  (hst : ∀ (i : Nat) (o : Oper) (D : OD), l[i]? = some o → ds[i]? = some D → OStep K S.nx l.toArray o D) (hend : Q .normal (lexEnd S ds)) : AWP K (.region rid l.toArray true) Q S := by
 intro m β w a r
 refine wp_region_any hm ?_
 have r0 : Rel K m β { w with drawn := w.drawn + 1 } a S := r.drawn (w.drawn + 1) (Nat.le_succ _)
 -- what 'anyOk' says
 simp only [anyOk, Bool.and_eq_true, List.all_eq_true, List.mem_range] at hok
 obtain ⟨hlen, hall⟩ := hok
 have hlen := Nat.eq_of_beq_eq_true hlen
 have hpre : ∀ (i : Nat) (o : Oper), l[i]? = some o → ∀ j, j ∈ preds o → j < i := by
  intro i o ho j hj
  have hi : i < l.length := (List.getElem?_eq_some_iff.1 ho).1
  have := (hall i hi).1
  rw [ho] at this
  exact Nat.le_of_ble_eq_true (List.all_eq_true.1 this j hj)
 have hclash : ∀ (i j : Nat) (D D' : OD), j < i → ds[j]? = some D → ds[i]? = some D' → clash D D' = true → j ∈ (ancs l []).getD i [] := by
  intro i j D D' hji hD hD' hc
  have hi : i < l.length := by rw [hlen]; exact (List.getElem?_eq_some_iff.1 hD').1
  have := (hall i hi).2 j hji
  rw [hD, hD'] at this
  simp only [hc, Bool.not_true, Bool.false_or, List.any_eq_true] at this
  obtain ⟨k, hk, hkj⟩ := this
  rw [← Nat.eq_of_beq_eq_true hkj]; exact hk
 let US := ds.map (·.ue)
 let HS := ds.map (·.uh)
 let St' (p : Nat → Bool) : St := ⟨runs p 0 US S.env, runs p 0 HS S.hp, S.nx⟩
 have key : ∀ (fuel : Nat) (listed : Array Bool) (a : Act) (w : World), listed.size = l.length → fuel + (listed.toList.filter id).length = l.length →
   (∀ (i : Nat) (o : Oper), l[i]? = some o → listed.getD i false = true → ∀ j, j ∈ preds o → listed.getD j false = true) →
   (∃ m β, Rel K m β w a (St' fun i => listed.getD i false)) → wpAny K.P .any l.toArray (Q.at K) fuel listed a w := by
  -- all are listed: the end
  have fin : ∀ (listed : Array Bool) (a : Act) (w : World), (∀ i, i < l.length → listed.getD i false = true) → (∃ m β, Rel K m β w a (St' fun i => listed.getD i false)) → Q.at K .normal a w := by
   rintro listed a w hl ⟨m, β, r⟩
   refine ⟨rfl, _, m, β, hend, ?_⟩
   rw [lex_end ds S 0]
   refine r.congr (fun t => ?_) (fun t => ?_) rfl
   ·show get (runs (fun _ => true) 0 US S.env) t = get (runs (fun i => listed.getD i false) 0 US S.env) t
    rw [get_aget, get_aget]
    refine runs_congr _ _ _ t _ 0 _ _ rfl fun j u hu _ => ?_
    rw [Nat.zero_add, hl j]
    have := (List.getElem?_eq_some_iff.1 hu).1
    simp only [US, List.length_map] at this; omega
   ·show hget (runs (fun _ => true) 0 HS S.hp) t = hget (runs (fun i => listed.getD i false) 0 HS S.hp) t
    rw [hget_aget, hget_aget]
    refine runs_congr _ _ _ t _ 0 _ _ rfl fun j u hu _ => ?_
    rw [Nat.zero_add, hl j]
    have := (List.getElem?_eq_some_iff.1 hu).1
    simp only [HS, List.length_map] at this; omega
  have hready : ∀ (listed : Array Bool) i, i ∈ Region.ready .any l.toArray listed ↔ i < l.length ∧ listed.getD i true = false ∧ ∃ o, l[i]? = some o ∧ ∀ j, j ∈ preds o → listed.getD j false = true := by
   intro listed i
   simp only [Region.ready, List.mem_filter, List.mem_range, List.size_toArray, List.getElem?_toArray, Bool.and_eq_true, Bool.not_eq_true']
   constructor
   ·rintro ⟨h1, h2, h3⟩
    refine ⟨h1, h2, l[i], List.getElem?_eq_getElem h1, fun j hj => ?_⟩
    rw [List.getElem?_eq_getElem h1] at h3
    simp only [Option.map_some, Option.getD_some, Array.all_eq_true] at h3
    simp only [preds, List.mem_map, List.mem_filter] at hj
    obtain ⟨e, ⟨he, hb⟩, rfl⟩ := hj
    obtain ⟨k, hk, rfl⟩ := List.getElem_of_mem he
    have := h3 k (by simpa using hk)
    simp only [Array.getElem_toList] at hb ⊢
    simpa [hb] using this
   ·rintro ⟨h1, h2, o, ho, h3⟩
    refine ⟨h1, h2, ?_⟩
    rw [ho]
    simp only [Option.map_some, Option.getD_some, Array.all_eq_true]
    intro k hk
    by_cases hb : Region.binds .any o.after[k] = true
    ·have := h3 o.after[k].on (by
      simp only [preds, List.mem_map, List.mem_filter]
      exact ⟨o.after[k], ⟨by simp, hb⟩, rfl⟩)
     simp [hb, this]
    ·simp [Bool.eq_false_iff.2 hb]
  have none_ready : ∀ (listed : Array Bool), listed.size = l.length → Region.ready .any l.toArray listed = [] → ∀ i, i < l.length → listed.getD i false = true := by
   intro listed hsz hr i
   induction i using Nat.strongRecOn with
   | _ i ih =>
    intro hi
    cases hli : listed.getD i false with
    | true => rfl
    | false =>
     exfalso
     have : i ∈ Region.ready .any l.toArray listed := by
      rw [hready]
      refine ⟨hi, ?_, l[i], List.getElem?_eq_getElem hi, fun j hj => ?_⟩
      ·have hi' : i < listed.size := by omega
       simp only [Array.getD_eq_getD_getElem?, Array.getElem?_eq_getElem hi', Option.getD_some] at hli ⊢
       exact hli
      ·have := hpre i _ (List.getElem?_eq_getElem hi) j hj
       exact ih j this (by omega)
     rw [hr] at this
     simp at this
  have step : ∀ (listed : Array Bool) (i : Nat) (a : Act) (w : World) (K' : Act → World → Prop), listed.size = l.length →
    (∀ (i : Nat) (o : Oper), l[i]? = some o → listed.getD i false = true → ∀ j, j ∈ preds o → listed.getD j false = true) →
    (∃ m β, Rel K m β w a (St' fun i => listed.getD i false)) → i ∈ Region.ready .any l.toArray listed →
    (∀ a w, (∃ m β, Rel K m β w a (St' fun j => (listed.setIfInBounds i true).getD j false)) → K' a w) → wpOp K.P l.toArray (Q.at K) i K' a w := by
   rintro listed i a w K' hsz hcl ⟨m, β, r⟩ hi hK
   rw [hready] at hi
   obtain ⟨hil, hli, o, ho, hpr⟩ := hi
   obtain ⟨D, hD⟩ : ∃ D, ds[i]? = some D := ⟨ds[i]'(by omega), List.getElem?_eq_getElem (by omega)⟩
   have hlf : listed.getD i false = false := by
    have hi' : i < listed.size := by omega
    simp only [Array.getD_eq_getD_getElem?, Array.getElem?_eq_getElem hi', Option.getD_some] at hli ⊢
    exact hli
   -- who stands ahead
   have anc : ∀ k, listed.getD k false = true → ∀ j, j ∈ (ancs l []).getD k [] → listed.getD j false = true := by
    intro k hk j hj
    cases hak : (ancs l [])[k]? with
    | none => simp [hak] at hj
    | some L =>
     simp [hak] at hj
     exact ancs_closed (os := l) (listed := fun i => listed.getD i false) l [] [] rfl rfl hcl (by simp) k L hak hk j hj
   have ancI : ∀ j, j ∈ (ancs l []).getD i [] → listed.getD j false = true := by
    intro j hj
    have hcl' : ∀ (k : Nat) (o' : Oper), l[k]? = some o' → (listed.getD k false || Nat.beq k i) = true → ∀ j, j ∈ preds o' → (listed.getD j false || Nat.beq j i) = true := by
     intro k o' ho' hk j hj
     rw [Bool.or_eq_true] at hk ⊢
     rcases hk with hk | hk
     ·exact .inl (hcl k o' ho' hk j hj)
     ·have := Nat.eq_of_beq_eq_true hk
      subst this
      rw [ho] at ho'; cases ho'
      exact .inl (hpr j hj)
    cases hak : (ancs l [])[i]? with
    | none => simp [hak] at hj
    | some L =>
     simp [hak] at hj
     have h1 := ancs_closed (os := l) (listed := fun k => listed.getD k false || Nat.beq k i) l [] [] rfl rfl hcl' (by simp) i L hak (by simp [Nat.beq_refl]) j hj
     simp only [Bool.or_eq_true] at h1
     rcases h1 with h1 | h1
     ·exact h1
     ·exfalso
      -- nothing stands ahead of itself
      have hlt : ∀ (rest : List Oper) (acc : List (List Nat)) (done : List Oper), l = done ++ rest → acc.length = done.length → (∀ (k : Nat) (L : List Nat), acc[k]? = some L → ∀ j, j ∈ L → j < k) → ∀ (k : Nat) (L : List Nat), (ancs rest acc)[k]? = some L → ∀ j, j ∈ L → j < k := by
       intro rest
       induction rest with
       | nil => intro acc done _ _ h; exact h
       | cons o' rest ih =>
        intro acc done hos hl2 hacc
        refine ih _ (done ++ [o']) (by simp [hos]) (by simp [hl2]) ?_
        intro k L hk j hj
        rw [List.getElem?_append] at hk
        split at hk
        ·exact hacc k L hk j hj
        ·have hk0 : k - acc.length = 0 := by
          cases hx : k - acc.length with
          | zero => rfl
          | succ n => rw [hx] at hk; simp at hk
         rw [hk0] at hk
         simp at hk
         subst hk
         have hkl : k = done.length := by omega
         have ho'' : l[k]? = some o' := by rw [hos, hkl]; simp
         rcases List.mem_append.1 hj with hj | hj
         ·exact hpre k o' ho'' j hj
         ·simp only [List.mem_flatMap] at hj
          obtain ⟨q, hq, hjq⟩ := hj
          have hqk := hpre k o' ho'' q hq
          cases haq : acc[q]? with
          | none => simp [haq] at hjq
          | some L =>
           simp [haq] at hjq
           have := hacc q L haq j hjq
           omega
      have := hlt l [] [] rfl rfl (by simp) i L hak j hj
      have := Nat.eq_of_beq_eq_true h1
      omega
   -- another one that clashes
   have other : ∀ (j : Nat) (D' : OD), j ≠ i → ds[j]? = some D' → (clash D' D = true ∨ clash D D' = true) → (j < i → clash D' D = true) → (i < j → clash D D' = true) → (listed.getD j false = Nat.blt j i) := by
    intro j D' hne hD' _ h1 h2
    rcases Nat.lt_or_gt_of_ne hne with hlt | hgt
    ·rw [ancI j (hclash i j D' D hlt hD' hD (h1 hlt))]
     exact (Nat.ble_eq_true_of_le hlt).symm
    ·have hb : Nat.blt j i = false := by
      cases hb : Nat.blt j i; rfl
      have := Nat.le_of_ble_eq_true hb; omega
     rw [hb]
     cases hx : listed.getD j false with
     | false => rfl
     | true =>
      have := anc j hx i (hclash j i D D' hgt hD hD' (h2 hgt))
      rw [hlf] at this; simp at this
   have hblt : Nat.blt i i = false := by
    cases hb : Nat.blt i i; rfl
    have := Nat.le_of_ble_eq_true hb; omega
   have clash_l : ∀ D1 D2 : OD, (meets D1.ue D2.re = true ∨ meets D1.ue D2.ue = true ∨ meets D1.re D2.ue = true ∨ meets D1.uh D2.rh = true ∨ meets D1.uh D2.uh = true ∨ meets D1.rh D2.uh = true) → clash D1 D2 = true := by
    intro D1 D2 h
    simp only [clash, Bool.or_eq_true]
    rcases h with h | h | h | h | h | h <;> simp [h]
   obtain ⟨lr, lh⟩ := lex_at ds S i D hlex hD
   -- the reads
   have hre : RdE (runs (fun i => listed.getD i false) 0 US S.env) D.re := by
    refine RdE.congr (fun t ht => ?_) lr
    rw [get_aget, get_aget]
    refine runs_congr _ _ _ t _ 0 _ _ rfl fun j u hu hs => ?_
    rw [Nat.zero_add]
    simp only [List.getElem?_map] at hu
    cases hDj : ds[j]? with
    | none => simp [hDj] at hu
    | some D' =>
     simp [hDj] at hu; subst hu
     by_cases hji : j = i
     ·subst hji; rw [hblt, hlf]
     ·have c1 : clash D' D = true := clash_l _ _ (.inl (meets_of hs ht))
      have c2 : clash D D' = true := clash_l _ _ (.inr (.inr (.inl (meets_of ht hs))))
      exact (other j D' hji hDj (.inl c1) (fun _ => c1) (fun _ => c2)).symm
   have hrh : RdH (runs (fun i => listed.getD i false) 0 HS S.hp) D.rh := by
    refine RdH.congr (fun t ht => ?_) lh
    rw [hget_aget, hget_aget]
    refine runs_congr _ _ _ t _ 0 _ _ rfl fun j u hu hs => ?_
    rw [Nat.zero_add]
    simp only [List.getElem?_map] at hu
    cases hDj : ds[j]? with
    | none => simp [hDj] at hu
    | some D' =>
     simp [hDj] at hu; subst hu
     by_cases hji : j = i
     ·subst hji; rw [hblt, hlf]
     ·have c1 : clash D' D = true := clash_l _ _ (.inr (.inr (.inr (.inl (meets_of hs ht)))))
      have c2 : clash D D' = true := clash_l _ _ (.inr (.inr (.inr (.inr (.inr (meets_of ht hs))))))
      exact (other j D' hji hDj (.inl c1) (fun _ => c1) (fun _ => c2)).symm
   have hset : ∀ j, (listed.setIfInBounds i true).getD j false = if j = i then true else listed.getD j false := by
    intro j
    simp only [Array.getD_eq_getD_getElem?, Array.getElem?_setIfInBounds]
    by_cases hji : i = j
    ·subst hji; simp [show i < listed.size by omega]
    ·simp [hji, Ne.symm hji]
   -- the writings
   have hwe : ∀ t, get (runs (fun j => (listed.setIfInBounds i true).getD j false) 0 US S.env) t = get (D.ue ++ runs (fun j => listed.getD j false) 0 US S.env) t := by
    intro t
    rw [get_aget, get_aget]
    by_cases hs : says t D.ue = true
    ·rw [aget_says _ _ _ _ hs]
     refine runs_last _ _ t _ 0 _ i D.ue (by simp [US, hD]) hs (by rw [Nat.zero_add, hset, if_pos rfl]) ?_
     intro j u hj hu hs'
     rw [Nat.zero_add, hset, if_neg (by omega)]
     simp only [US, List.getElem?_map] at hu
     cases hDj : ds[j]? with
     | none => simp [hDj] at hu
     | some D' =>
      simp [hDj] at hu; subst hu
      have c1 : clash D' D = true := clash_l _ _ (.inr (.inl (meets_of hs' hs)))
      have c2 : clash D D' = true := clash_l _ _ (.inr (.inl (meets_of hs hs')))
      rw [other j D' (by omega) hDj (.inl c1) (fun _ => c1) (fun _ => c2)]
      cases hb : Nat.blt j i; rfl
      have := Nat.le_of_ble_eq_true hb; omega
    ·rw [aget_append, if_neg hs]
     refine runs_congr _ _ _ t _ 0 _ _ rfl fun j u hu hs' => ?_
     rw [Nat.zero_add, hset]
     by_cases hji : j = i
     ·subst hji
      simp only [US, List.getElem?_map, hD, Option.map_some, Option.some.injEq] at hu
      subst hu
      exact absurd hs' hs
     ·rw [if_neg hji]
   have hwh : ∀ t, hget (runs (fun j => (listed.setIfInBounds i true).getD j false) 0 HS S.hp) t = hget (D.uh ++ runs (fun j => listed.getD j false) 0 HS S.hp) t := by
    intro t
    rw [hget_aget, hget_aget]
    by_cases hs : says t D.uh = true
    ·rw [aget_says _ _ _ _ hs]
     refine runs_last _ _ t _ 0 _ i D.uh (by simp [HS, hD]) hs (by rw [Nat.zero_add, hset, if_pos rfl]) ?_
     intro j u hj hu hs'
     rw [Nat.zero_add, hset, if_neg (by omega)]
     simp only [HS, List.getElem?_map] at hu
     cases hDj : ds[j]? with
     | none => simp [hDj] at hu
     | some D' =>
      simp [hDj] at hu; subst hu
      have c1 : clash D' D = true := clash_l _ _ (.inr (.inr (.inr (.inr (.inl (meets_of hs' hs))))))
      have c2 : clash D D' = true := clash_l _ _ (.inr (.inr (.inr (.inr (.inl (meets_of hs hs'))))))
      rw [other j D' (by omega) hDj (.inl c1) (fun _ => c1) (fun _ => c2)]
      cases hb : Nat.blt j i; rfl
      have := Nat.le_of_ble_eq_true hb; omega
    ·rw [aget_append, if_neg hs]
     refine runs_congr _ _ _ t _ 0 _ _ rfl fun j u hu hs' => ?_
     rw [Nat.zero_add, hset]
     by_cases hji : j = i
     ·subst hji
      simp only [HS, List.getElem?_map, hD, Option.map_some, Option.some.injEq] at hu
      subst hu
      exact absurd hs' hs
     ·rw [if_neg hji]
   have hstep := hst i o D ho hD (St' fun i => listed.getD i false) rfl hre hrh m β w a r
   have hcont : ∀ a w, (∃ m β, Rel K m β w a ((St' fun i => listed.getD i false).upd D)) → K' a w := by
    rintro a w ⟨m, β, r⟩
    exact hK a w ⟨m, β, r.congr hwe hwh rfl⟩
   unfold wpList at hstep
   unfold wpOp
   simp only [List.getElem?_toArray, ho]
   have conv : ∀ a w, wpList K.P l.toArray (Post.at K fun e T => e = .normal ∧ T = (St' fun i => listed.getD i false).upd D) [] a w → K' a w := by
    rintro a w ⟨_, T, m, β, ⟨_, rfl⟩, r⟩
    exact hcont a w ⟨m, β, r⟩
   split
   ·rename_i hw
    rw [if_pos hw] at hstep
    left
    rcases hstep with hstep | ⟨_, a', w', hbad, _⟩
    ·
     unfold Oper.wp at hstep ⊢
     generalize (execOp a.eval o).run K.P w = res at *
     cases res with
     | ok n w' =>
      cases n <;> simp only [Oper.upon] at hstep ⊢
      ·exact conv _ _ hstep
      ·exact conv _ _ hstep
      ·refine hstep.mono fun e w'' he => ?_
       cases e with
       | returned v => exact conv _ _ he
       | panicked ch => obtain ⟨_, T, m, β, ⟨h, _⟩, _⟩ := he; simp at h
       | outgrown => obtain ⟨a, w, h, _⟩ := he; simp [plainExit] at h
      ·exact conv _ _ hstep
      ·exact hstep.mono fun v w'' he => conv _ _ he
     | halt x w' =>
      cases x <;> simp only [Oper.upon] at hstep ⊢
      obtain ⟨_, T, m, β, ⟨h, _⟩, _⟩ := hstep
      simp at h
    ·simp [plainExit] at hbad
   ·rename_i hw
    rw [if_neg hw] at hstep
    exact conv _ _ hstep
  intro fuel
  induction fuel with
  | zero =>
   intro listed a w hsz hcount hcl hr
   have hfull : ∀ i, i < l.length → listed.getD i false = true := by
    intro i hi
    have h1 : (listed.toList.filter id).length = listed.toList.length := by simp only [Array.length_toList]; omega
    have h2 := List.length_filter_eq_length_iff.1 h1
    have hi' : i < listed.size := by omega
    have := h2 listed[i] (by simp)
    simp only [Array.getD_eq_getD_getElem?, Array.getElem?_eq_getElem hi', Option.getD_some]
    exact this
   refine ⟨?_, fin listed a w hfull hr⟩
   cases hrd : Region.ready .any l.toArray listed with
   | nil => rfl
   | cons i is =>
    have : i ∈ Region.ready .any l.toArray listed := by rw [hrd]; simp
    rw [hready] at this
    have h1 := hfull i this.1
    have hi' : i < listed.size := by omega
    have h2 := this.2.1
    simp only [Array.getD_eq_getD_getElem?, Array.getElem?_eq_getElem hi', Option.getD_some] at h1 h2
    rw [h1] at h2; simp at h2
  | succ fuel ih =>
   intro listed a w hsz hcount hcl hr
   refine ⟨fun h0 => fin listed a w (none_ready listed hsz h0) hr, fun i hi => ?_⟩
   refine step listed i a w _ hsz hcl hr hi ?_
   intro a w hr'
   have hi2 := (hready listed i).1 hi
   have hi' : i < listed.size := by omega
   have hfalse : listed[i] = false := by
    have := hi2.2.1
    simp only [Array.getD_eq_getD_getElem?, Array.getElem?_eq_getElem hi', Option.getD_some] at this
    exact this
   refine ih _ a w (by simp [hsz]) ?_ ?_ hr'
   ·have : ((listed.setIfInBounds i true).toList.filter id).length = (listed.toList.filter id).length + 1 := by
     rw [Array.toList_setIfInBounds]
     have gen : ∀ (L : List Bool) (i : Nat) (h : i < L.length), L[i] = false → ((L.set i true).filter id).length = (L.filter id).length + 1 := by
      intro L
      induction L with
      | nil => intro i h; simp at h
      | cons b L ihL =>
       intro i h hb
       cases i with
       | zero => simp at hb; subst hb; simp
       | succ i =>
        simp only [List.set_cons_succ, List.filter_cons]
        have := ihL i (by simpa using h) (by simpa using hb)
        split <;> simp [this]
     exact gen listed.toList i (by simpa using hi') (by simpa using hfalse)
    omega
   ·intro k o' ho' hk j hj
    have hset : ∀ j, (listed.setIfInBounds i true).getD j false = if j = i then true else listed.getD j false := by
     intro j
     simp only [Array.getD_eq_getD_getElem?, Array.getElem?_setIfInBounds]
     by_cases hji : i = j
     ·subst hji; simp [hi']
     ·simp [hji, Ne.symm hji]
    rw [hset] at hk ⊢
    split
    ·rfl
    ·by_cases hki : k = i
     ·subst hki
      obtain ⟨_, _, o'', ho'', hpr⟩ := hi2
      rw [ho'] at ho''; cases ho''
      exact hpr j hj
     ·rw [if_neg hki] at hk
      exact hcl k o' ho' hk j hj
 refine key l.length (Array.replicate l.length false) a { w with drawn := w.drawn + 1 } (by simp) (by simp) ?_ ?_
 ·intro i o _ h
  simp only [Array.getD_eq_getD_getElem?, Array.getElem?_replicate] at h
  split at h <;> simp at h
 ·refine ⟨m, β, r0.congr (fun t => ?_) (fun t => ?_) rfl⟩
  ·rw [get_aget, get_aget]
   refine runs_base _ _ t _ 0 _ fun j u _ _ => ?_
   simp only [Array.getD_eq_getD_getElem?, Array.getElem?_replicate]; split <;> rfl
  ·rw [hget_aget, hget_aget]
   refine runs_base _ _ t _ 0 _ fun j u _ _ => ?_
   simp only [Array.getD_eq_getD_getElem?, Array.getElem?_replicate]; split <;> rfl
end
section
variable {K : Ctx} {Q : Post} {S S' : St} {ops : Array Oper} {rest : List Oper} {op : Op} {ty : TypeId} {pos : String} {after : Array Edge} {g : Option (Nat × Bool)}
variable {m : Mem} {β : Locs} {w : World} {a : Act}
abbrev str (l : List UInt8) : Value := .string ⟨l.toArray⟩
def binT (op : BinOp) (a b : List UInt8) : Option Value :=
 match op with
 | .add => if a.length + b.length ≤ 9223372036854775807 then some (str (a ++ b)) else none
 | .eql => some (.bool (a == b))
 | .neq => some (.bool (!(a == b)))
 | .lss => some (.bool (Op.bytesLess a b))
 | .leq => some (.bool (Op.bytesLess a b || a == b))
 | .gtr => some (.bool (!(Op.bytesLess a b || a == b)))
 | .geq => some (.bool (!Op.bytesLess a b))
 | _ => none
theorem run_binT {P : Program} {w : World} {op : BinOp} {T : TypeId} {x y : Operand} {a b : List UInt8} {v : Value} (h : binT op a b = some v) :
  (do eqGuard op T x y (str a) (str b); binOp op T (str a) (str b) : Sem Value).run P w = .ok v w := by
 have hg : (eqGuard op T x y (str a) (str b)).run P w = .ok () w := by
  unfold eqGuard; cases op <;> simp [pure]
 rw [Sem.run_bind, hg, Result.andThen_ok]
 cases op <;> simp only [binT, reduceCtorEq, Option.some.injEq] at h
 all_goals simp only [binOp, Op.stringOp, ByteArray.toList_mk]
 case add =>
  split at h
  ·rename_i hl
   simp only [Option.some.injEq] at h
   subst h
   rw [if_neg]
   ·have : (⟨a.toArray⟩ : ByteArray) ++ ⟨b.toArray⟩ = ⟨(a ++ b).toArray⟩ := by
     apply ByteArray.ext; simp
    rw [this]; rfl
   ·have e1 : (⟨a.toArray⟩ : ByteArray).size = a.length := by simp [ByteArray.size]
    have e2 : (⟨b.toArray⟩ : ByteArray).size = b.length := by simp [ByteArray.size]
    rw [e1, e2]
    simp only [IntKind.max, IntKind.signed, IntKind.bits]
    simp; omega
  ·simp at h
 all_goals (subst h; rfl)
theorem aops_binT {d : Nat} {bop : BinOp} {x y : Operand} {T T' : TypeId} {la lb : List UInt8} (v : Value) (hw : Wants ops S ⟨some d, .binOp bop T x y T', ty, pos, after, g⟩ true)
  (hx : evl K S x = .con (str la)) (hy : evl K S y = .con (str lb)) (hv : binT bop la lb = some v) (hN : Nat.blt d K.N = true)
  (k : AOps K ops rest Q (S.put d (.con v))) : AOps K ops (⟨some d, .binOp bop T x y T', ty, pos, after, g⟩ :: rest) Q S :=
 aops_val (.con v) hw hN (fun m β w a r => ⟨v, by
  simp only [execOp, r.con hx, r.con hy]
  exact run_value (run_binT hv), .imm (.con v)⟩) k
theorem aops_lenT {d : Nat} {x : Operand} {T : TypeId} {l : List UInt8} (hT : tyStr K.P T = true)
  (hw : Wants ops S ⟨some d, .call ⟨.builtin .len, #[x], #[T]⟩, ty, pos, after, g⟩ true) (hx : evl K S x = .con (str l)) (hN : Nat.blt d K.N = true)
  (kk : AOps K ops rest Q (S.put d (.con (.int .i64 l.length)))) :
  AOps K ops (⟨some d, .call ⟨.builtin .len, #[x], #[T]⟩, ty, pos, after, g⟩ :: rest) Q S :=
 aops_len_str hT hw hx hN (by have : (⟨l.toArray⟩ : ByteArray).size = l.length := (by simp [ByteArray.size]); rw [this]; exact kk)
theorem aops_indexT {d : Nat} {x y : Operand} {T : TypeId} {l : List UInt8} {ik : IntKind} {n : Int} (b : UInt8) (hT : tyStr K.P T = true)
  (hw : Wants ops S ⟨some d, .index T x y, ty, pos, after, g⟩ true) (hx : evl K S x = .con (str l)) (hy : evl K S y = .con (.int ik n)) (h0 : 0 ≤ n) (hb : l[n.toNat]? = some b)
  (hN : Nat.blt d K.N = true) (kk : AOps K ops rest Q (S.put d (.con (.int .u8 b.toNat)))) :
  AOps K ops (⟨some d, .index T x y, ty, pos, after, g⟩ :: rest) Q S :=
 aops_val _ hw hN (fun m β w a r => ⟨.int .u8 b.toNat, by
  simp only [execOp, r.con hx, r.con hy]
  refine run_value ?_
  simp only [Instr.index, asIntOf, Sem.run_bind, pure, Sem.run, Result.andThen_ok, run_underlying (tyStr_inv hT)]
  rw [if_pos h0]
  have : (⟨l.toArray⟩ : ByteArray)[n.toNat]? = some b := by
   have hl : n.toNat < (⟨l.toArray⟩ : ByteArray).size := by
    have := (List.getElem?_eq_some_iff.1 hb).1; simpa [ByteArray.size] using this
   rw [getElem?_pos (⟨l.toArray⟩ : ByteArray) n.toNat hl]
   obtain ⟨h1, h2⟩ := List.getElem?_eq_some_iff.1 hb
   rw [← h2]; rfl
  rw [this]
  rfl, .imm (.con _)⟩) kk
theorem aops_sliceT {d : Nat} {x : Operand} {lo hi : Option Operand} {T : TypeId} {l : List UInt8} (a0 b0 : Nat) (l' : List UInt8) (hT : tyStr K.P T = true)
  (hw : Wants ops S ⟨some d, .slice T x lo hi none, ty, pos, after, g⟩ true) (hx : evl K S x = .con (str l))
  (hlo : match lo with | none => a0 = 0 | some y => ∃ ik, evl K S y = .con (.int ik a0)) (hhi : match hi with | none => b0 = l.length | some y => ∃ ik, evl K S y = .con (.int ik b0))
  (h1 : a0 ≤ b0) (h2 : b0 ≤ l.length) (hl : (l.drop a0).take (b0 - a0) = l') (hN : Nat.blt d K.N = true) (kk : AOps K ops rest Q (S.put d (.con (str l')))) :
  AOps K ops (⟨some d, .slice T x lo hi none, ty, pos, after, g⟩ :: rest) Q S :=
 aops_val _ hw hN (fun m β w a r => ⟨str l', by
  have hsz : (⟨l.toArray⟩ : ByteArray).size = l.length := by simp [ByteArray.size]
  have hu := tyStr_inv hT
  have hext : (⟨l.toArray⟩ : ByteArray).extract a0 b0 = ⟨l'.toArray⟩ := by
   apply ByteArray.ext
   have := Lib.extract_toList (⟨l.toArray⟩ : ByteArray) a0 b0
   rw [ByteArray.toList_eq] at this
   apply Array.ext'
   rw [this, ← hl]
  have bnd : ∀ (n y : Nat) (c : BoundsCode) (ik : IntKind), n ≤ y → (Instr.sliceBound (.int ik n) y c).run K.P w = .ok n w := by
   intro n y c ik h
   simp only [Instr.sliceBound, asIntOf, Sem.run_bind, pure, Sem.run, Result.andThen_ok]
   rw [if_pos ⟨by omega, by omega⟩]
   simp
  simp only [execOp, r.con hx]
  refine run_value ?_
  have hs : (Instr.slice T (str l) (lo.map a.eval) (hi.map a.eval) none).run K.P w = .ok (str l') w := by
   simp only [Instr.slice, Sem.run_bind, run_underlying hu, Result.andThen_ok, Option.isSome_none, Bool.false_eq_true, if_false, hsz]
   have hb : (Instr.sliceBounds false l.length l.length (lo.map a.eval) (hi.map a.eval) none).run K.P w = .ok (a0, b0, l.length) w := by
    cases lo with
    | none =>
     simp only at hlo; subst hlo
     cases hi with
     | none => simp only at hhi; subst hhi; simp [Instr.sliceBounds, pure]
     | some y =>
      obtain ⟨ik, hy⟩ := hhi
      simp only [Instr.sliceBounds, Option.map_none, Option.map_some, r.con hy, Sem.run_bind, pure, Sem.run, Result.andThen_ok, bnd b0 _ _ ik h2, Bool.false_eq_true, if_false]
    | some z =>
     obtain ⟨ik, hz⟩ := hlo
     cases hi with
     | none => simp only at hhi; subst hhi; simp [Instr.sliceBounds, pure, r.con hz, bnd a0 _ _ ik h1]
     | some y =>
      obtain ⟨ik', hy⟩ := hhi
      simp [Instr.sliceBounds, pure, r.con hz, r.con hy, bnd a0 _ _ ik h1, bnd b0 _ _ ik' h2]
   rw [hb]
   simp only [Result.andThen_ok, hext]; rfl
  simp only [Instr.sliceAt, Sem.run_bind, run_underlying hu, Result.andThen_ok, Option.map_none]
  exact hs, .imm (.con _)⟩) kk
theorem aops_convInt {d : Nat} {x : Operand} {src dst : TypeId} {k k' : IntKind} {n : Int} (hd : K.P.underlying dst = some (.int k)) (hs : ∃ t, K.P.underlying src = some t)
  (hw : Wants ops S ⟨some d, .convert src dst x, ty, pos, after, g⟩ true) (hx : evl K S x = .con (.int k' n)) (hN : Nat.blt d K.N = true)
  (kk : AOps K ops rest Q (S.put d (.con (.int k (k.wrap n))))) : AOps K ops (⟨some d, .convert src dst x, ty, pos, after, g⟩ :: rest) Q S :=
 aops_val _ hw hN (fun m β w a r => ⟨.int k (k.wrap n), by
  obtain ⟨t, ht⟩ := hs
  simp only [execOp, r.con hx]
  refine run_value ?_
  simp only [convert, Sem.run_bind, run_underlying ht, run_underlying hd, Result.andThen_ok, Conv.intToInt]; rfl, .imm (.con _)⟩) kk
theorem aops_min {d : Nat} {x y : Operand} {T T' : TypeId} {k : IntKind} {n n' : Int} (hw : Wants ops S ⟨some d, .call ⟨.builtin .min, #[x, y], #[T, T']⟩, ty, pos, after, g⟩ true)
  (hx : evl K S x = .con (.int k n)) (hy : evl K S y = .con (.int k n')) (hN : Nat.blt d K.N = true) (kk : AOps K ops rest Q (S.put d (.con (.int k (if n' < n then n' else n))))) :
  AOps K ops (⟨some d, .call ⟨.builtin .min, #[x, y], #[T, T']⟩, ty, pos, after, g⟩ :: rest) Q S :=
 aops_val _ hw hN (fun m β w a r => ⟨_, run_builtin rfl (by
  simp only [builtin, List.map_toArray, List.map_cons, List.map_nil, r.con hx, r.con hy]
  refine run_value (v := .int k (if n' < n then n' else n)) ?_
  simp [Builtin.min_, Builtin.min2, pure]), .imm (.con _)⟩) kk
theorem aops_max {d : Nat} {x y : Operand} {T T' : TypeId} {k : IntKind} {n n' : Int} (hw : Wants ops S ⟨some d, .call ⟨.builtin .max, #[x, y], #[T, T']⟩, ty, pos, after, g⟩ true)
  (hx : evl K S x = .con (.int k n)) (hy : evl K S y = .con (.int k n')) (hN : Nat.blt d K.N = true) (kk : AOps K ops rest Q (S.put d (.con (.int k (if n' > n then n' else n))))) :
  AOps K ops (⟨some d, .call ⟨.builtin .max, #[x, y], #[T, T']⟩, ty, pos, after, g⟩ :: rest) Q S :=
 aops_val _ hw hN (fun m β w a r => ⟨_, run_builtin rfl (by
  simp only [builtin, List.map_toArray, List.map_cons, List.map_nil, r.con hx, r.con hy]
  refine run_value (v := .int k (if n' > n then n' else n)) ?_
  simp [Builtin.max_, Builtin.max2, pure]), .imm (.con _)⟩) kk
theorem aops_eqA {d : Nat} {x y : Operand} {T T' : TypeId} {xs ys : List Value} {cx cy : List V} {b : Bool} (neg : Bool) (hm : K.P.eqGuardType K.P.depth T = false)
  (heq : ∀ w, (Op.equalIn 10000 T (.agg xs.toArray) (.agg ys.toArray)).run K.P w = .ok b w)
  (hw : Wants ops S ⟨some d, .binOp (if neg then .neq else .eql) T x y T', ty, pos, after, g⟩ true)
  (hx : evl K S x = .agg cx) (hy : evl K S y = .agg cy) (hcx : xs.map .con = cx) (hcy : ys.map .con = cy) (hN : Nat.blt d K.N = true)
  (k : AOps K ops rest Q (S.put d (.con (.bool (if neg then !b else b))))) : AOps K ops (⟨some d, .binOp (if neg then .neq else .eql) T x y T', ty, pos, after, g⟩ :: rest) Q S :=
 aops_val _ hw hN (fun m β w a' r => ⟨.bool (if neg then !b else b), by
  have h1 := r.reads x
  rw [hx, ← hcx] at h1
  have h2 := r.reads y
  rw [hy, ← hcy] at h2
  simp only [execOp, h1.conAgg, h2.conAgg]
  refine run_value ?_
  rw [Sem.run_bind, run_eqGuard_agg _ _ _ _ _ _ _ hm, Result.andThen_ok]
  cases neg
  ·simp only [Bool.false_eq_true, if_false, run_eql_struct, heq, Result.andThen_ok]
  ·simp only [if_true, run_neq_struct, heq, Result.andThen_ok], .imm (.con _)⟩) k
theorem aops_fieldC {d f off : Nat} {x : Operand} {T : TypeId} {cs : List V} (c : V) (hF : tyF K.P T f off = true) (hC : ∃ fs fl, K.P.underlying T = some (.struct fs) ∧ fs[f]? = some fl ∧ tyC K.P fl.type = true)
  (hw : Wants ops S ⟨some d, .field T x f, ty, pos, after, g⟩ true) (hx : evl K S x = .agg cs) (hc : cs[off]? = some c) (hN : Nat.blt d K.N = true)
  (kk : AOps K ops rest Q (S.put d c)) : AOps K ops (⟨some d, .field T x f, ty, pos, after, g⟩ :: rest) Q S :=
 aops_val _ hw hN (fun m β w a r => by
  have h := r.reads x
  rw [hx] at h
  obtain ⟨fs, fl, hu, hf, hcell⟩ := hC
  have hoff : fl.offset = off := by
   unfold tyF at hF
   rw [hu] at hF
   simp only [hf, Bool.and_eq_true, beq_iff_eq] at hF
   exact hF.1
  have key : ∃ vs : Array Value, a.eval x = .agg vs ∧ ∃ v, vs[off]? = some v ∧ VRel m β c v := by
   generalize a.eval x = u at h
   have get : ∀ vs : Array Value, cs.length = vs.size → ∃ v, vs[off]? = some v := by
    intro vs hl
    have : off < vs.size := by rw [← hl]; exact (List.getElem?_eq_some_iff.1 hc).1
    exact ⟨vs[off], by simp [this]⟩
   cases h with
   | imm h => cases h with
    | agg hl hh => obtain ⟨v, hv⟩ := get _ hl; exact ⟨_, rfl, v, hv, .imm (hh _ _ _ hc hv)⟩
   | agg hl hh => obtain ⟨v, hv⟩ := get _ hl; exact ⟨_, rfl, v, hv, hh _ _ _ hc hv⟩
  obtain ⟨vs, e1, v, e2, e3⟩ := key
  refine ⟨v, ?_, e3⟩
  simp only [execOp, e1]
  refine run_value ?_
  simp only [Instr.field, Sem.run_bind, run_underlying hu, Result.andThen_ok, hf, asAgg, pure, Sem.run, part, (tyC_run hcell w).1, Bool.false_eq_true, if_false, hoff, e2]) kk
end
end Go.Pv
