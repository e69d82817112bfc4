/- Part of the proof: DO, DR, ZC, DD, LP. -/
import Derived.Test.YtcbkgdagiccfmaaEDN
import Derived.Test.YtcbkgdagiccfmaaEWA
import Derived.Test.YtcbkgdagiccfmaaEZA
import Derived.Maps.RangeRun
import Derived.Lib.SlicesCompact
namespace Go.Pv
open Go
section
variable {K : Ctx} {Q : Post} {S : St}
variable {m : Mem} {β : Locs} {w : World} {a : Act}
variable {ops : Array Oper} {rest : List Oper} {ty : TypeId} {pos : String} {after : Array Edge} {g : Option (Nat × Bool)}
theorem ghost_freezeMD (id : Nat) {es : List (Value × V)} (es' : List (Value × V)) (env : Env) (hp : Heap) (ho : hget S.hp id = .map es) (hl : es.length = es'.length)
  (hk : ∀ (i : Nat) (p p' : Value × V), es[i]? = some p → es'[i]? = some p' → p.1 = p'.1 ∧ Und p.2 p'.2 ∧ Keep p.2)
  (henv : ∀ t, Sub (FrzM id es') (get env t) (get S.env t)) (hhp : ∀ i, ObSub (FrzM id es') (hget hp i) (hget S.hp i)) (hd : hget hp id = .dead) : Ghost K S ⟨env, hp, S.nx⟩ := by
 intro m β w a r
 have hlid : hget S.hp id ≠ .dead := by rw [ho]; simp
 obtain ⟨b, cap, hb⟩ := map_loc r ho
 have hown := r.own id
 rw [ho, hb] at hown
 obtain ⟨ents, clock, bl, h1, h2, hBl, h6⟩ := hown
 have hp' := r.priv id b cap hlid hb
 have key : ∃ m', (∀ b o, m' b = some o → w.heap[b]? = some o) ∧ FrzM id es' m β m' β ∧ (∀ b', m' b' = m b' ∨ (∃ cap, β id = some (some (b', cap))) ∨ β.hid id b') := by
  classical
  let m' : Mem := fun b' => if b' = b ∨ β.hid id b' then w.heap[b']? else m b'
  have hmb : ∀ x, (x = b ∨ β.hid id x) → m' x = w.heap[x]? := fun x h => by simp only [m']; rw [if_pos h]
  have hmo : ∀ x, ¬ (x = b ∨ β.hid id x) → m' x = m x := fun x h => by simp only [m']; rw [if_neg h]
  have hle : m.le m' := by
   intro b' o h
   rw [hmo]
   ·exact h
   ·rintro (e' | e')
    ·subst e'; rw [hp'.1] at h; simp at h
    ·rw [(r.hid id b' hlid e').m] at h; simp at h
  refine ⟨m', ?_, ⟨hle, rfl, ?_⟩, ?_⟩
  ·intro b' o h
   by_cases hbb : b' = b ∨ β.hid id b'
   ·rw [hmb b' hbb] at h; exact h
   ·rw [hmo b' hbb] at h; exact r.imm _ _ h
  ·intro x hx
   cases hx with
   | imm h => cases h
   | @map _ b2 cap2 h =>
    rw [hb] at h
    simp only [Option.some.injEq, Prod.mk.injEq] at h
    obtain ⟨rfl, rfl⟩ := h
    refine .imap (by rw [hmb b (.inl rfl)]; exact h1) (by omega) (fun i p e hi he => ?_) (fun i p e hi he => ?_)
    ·have hlt : i < es.length := by rw [hl]; exact (List.getElem?_eq_some_iff.1 hi).1
     rw [(h6 i _ e (List.getElem?_eq_getElem hlt) he).1]
     exact (hk i _ p (List.getElem?_eq_getElem hlt) hi).1
    ·have hlt : i < es.length := by rw [hl]; exact (List.getElem?_eq_some_iff.1 hi).1
     obtain ⟨u1, u2, u3⟩ := hk i _ p (List.getElem?_eq_getElem hlt) hi
     have hd : DRel m w (bl i) es[i].2 e.val := (h6 i _ e (List.getElem?_eq_getElem hlt) he).2.elim (fun h => .imm (u3 _ _ _ h)) (fun h => h)
     exact hd.und hle p.2 u2 (fun x hx => hmb x (.inr (hBl.1 _ x hx)))
  ·intro b'
   by_cases hbb : b' = b ∨ β.hid id b'
   ·rcases hbb with h | h
    ·exact .inr (.inl ⟨cap, by rw [h]; exact hb⟩)
    ·exact .inr (.inr h)
   ·exact .inl (hmo b' hbb)
 obtain ⟨m', k1, hy, k2⟩ := key
 have hlive : ∀ i, hget hp i ≠ .dead → hget S.hp i ≠ .dead ∧ i ≠ id := by
  intro i h
  have h2 := hhp i
  refine ⟨fun hdd => ?_, fun he => h (by rw [he]; exact hd)⟩
  rw [hdd] at h2
  cases ho' : hget hp i with
  | dead => exact h ho'
  | arr => rw [ho'] at h2; simp [ObSub] at h2
  | res => rw [ho'] at h2; simp [ObSub] at h2
  | map => rw [ho'] at h2; simp [ObSub] at h2
  | iter => rw [ho'] at h2; simp [ObSub] at h2
  | bld => rw [ho'] at h2; simp [ObSub] at h2
 refine ⟨m', β, ?_⟩
 constructor
 ·exact k1
 ·exact Mem.le_trans r.ext hy.1
 ·intro b hb' hold
  rcases k2 b with h | ⟨cap2, h⟩ | h
  ·rw [h]; exact r.mold b hb' hold
  ·exact absurd hold ((r.priv id b _ hlid h).2 hb')
  ·exact absurd hold ((r.hid id b hlid h).old hb')
 ·exact r.frame
 ·exact r.size
 ·exact r.same
 ·exact r.tn
 ·exact r.df
 ·exact fun t => henv t _ _ _ _ _ hy (r.env t)
 ·intro i
  exact (hhp i).ok hy (r.own i)
 ·intro i b cap hl hb'
  obtain ⟨h1, h2⟩ := hlive i hl
  have hp' := r.priv i b cap h1 hb'
  refine ⟨?_, hp'.2⟩
  rcases k2 b with h | ⟨cap', h⟩ | h
  ·rw [h]; exact hp'.1
  ·exact absurd (r.inj i id b cap cap' h1 hlid hb' h) h2
  ·exact absurd rfl ((r.hid id b hlid h).ne i b cap h1 hb')
 ·intro i i' b cap cap' hl hl'
  exact r.inj i i' b cap cap' (hlive i hl).1 (hlive i' hl').1
 ·intro i x hl hx
  obtain ⟨h1, h2⟩ := hlive i hl
  have h := r.hid i x h1 hx
  refine ⟨h.lt, ?_, h.old, fun i' b c hi' => h.ne i' b c (hlive i' hi').1, fun i' hi' => h.un i' (hlive i' hi').1⟩
  rcases k2 x with h' | ⟨cap', h'⟩ | h'
  ·rw [h']; exact h.m
  ·exact absurd rfl (h.ne id x cap' hlid h')
  ·exact absurd (h.un id hlid h') (Ne.symm h2)
 ·exact r.nx
 ·exact r.pin
theorem aops_lookup_takeG (id0 nx' : Nat) (hfr : ∀ m β w a, Rel K m β w a S → β id0 = none ∧ ∀ q, q < K.pins → q ≠ id0) (hlt0 : id0 < nx') (hle0 : S.nx ≤ nx') {d : Nat} {T k e e' k' id : Nat} {x y : Operand} {good : Value → Prop} {kv : Value} {es es' : List (Value × V)} {rws : List (List V)} (hT : tyMap K.P T k e = true) (hK : KeyT K.P k good)
  (hz : (K.P.info? e).bind (·.zero) = some (.slice none 0 0))
  (hw : Wants ops S ⟨some d, .lookup T x y false, ty, pos, after, g⟩ true) (hx : evl K S x = .map id) (ho : hget S.hp id = .map es) (hy : KeyIs K S y kv) (hg : good kv) (hges : ∀ p, p ∈ es → good p.1)
  (hl : LookT kv id0 e' k' es es' rws) (hN : Nat.blt d K.N = true)
  (kk : AOps K ops rest Q ⟨(d, .own id0 rws.length) :: S.env, (id, .map es') :: (id0, .arr e' k' rws) :: S.hp, nx'⟩) : AOps K ops (⟨some d, .lookup T x y false, ty, pos, after, g⟩ :: rest) Q S := by
 refine aops_runs hw (fun m β w a r => ?_) kk
 have h := r.reads x
 rw [hx] at h
 obtain ⟨b, ents, clock, e1, ⟨E, e2, eP, eW⟩, e3, e4⟩ := (MapIs.own ho).read r h
 have hobj : (getObj b).run K.P w = .ok (.map E clock) w := by simp [getObj, Sem.run, e2]
 have hzr : (zeroValue e).run K.P w = .ok (.slice none 0 0) w := by
  cases hi : K.P.info? e with
  | none => simp [hi] at hz
  | some i =>
   simp [hi] at hz
   simp only [zeroValue, Sem.run_bind, run_typeInfo w hi, Result.andThen_ok, hz]; rfl
 have hbloc := map_loc r ho
 have hidn : id ≠ id0 := fun h => by obtain ⟨b, cap, hb⟩ := hbloc; rw [h, (hfr m β w a r).1] at hb; simp at hb
 have hswap : ∀ (m' : Mem) (β' : Locs) (o1 o2 : Ob) (n : Nat), Rel K m' β' w a ⟨S.env, (id0, o2) :: (id, o1) :: S.hp, n⟩ → Rel K m' β' w a ⟨S.env, (id, o1) :: (id0, o2) :: S.hp, n⟩ := by
  intro m' β' o1 o2 n rr
  refine rr.congr (fun _ => rfl) (fun t => ?_) rfl
  show hget ((id, o1) :: (id0, o2) :: S.hp) t = hget ((id0, o2) :: (id, o1) :: S.hp) t
  rw [hget_put, hget_put, hget_put, hget_put]
  by_cases h1 : id = t <;> by_cases h2 : id0 = t
  ·exact absurd (h1.trans h2.symm) hidn
  ·rw [if_pos h1, if_neg h2, if_pos h1]
  ·rw [if_neg h1, if_pos h2, if_pos h2]
  ·rw [if_neg h1, if_neg h2, if_neg h2, if_neg h1]
 rcases hl.cases with ⟨h1, h2, h3⟩ | ⟨i, h1, h2, h3⟩
 ·subst h1 h2
  rcases found hK hg e3 (fun i p e a b => (e4 i p e a b).1) hges eP eW (w := w) with ⟨a1, a2, _⟩ | ⟨j, p, en, jE, a1, a2, a3, a4, a5, aE⟩
  ·obtain ⟨β', hle, hβ, r3⟩ := r.adopt id0 nx' (hfr m β w a r).1 (hfr m β w a r).2 hlt0 hle0 none (.arr e' k' []) (fun b c hb => by simp at hb) (fun _ _ => rfl)
   have r4 : Rel K m β' w a ⟨S.env, (id, .map es') :: (id0, .arr e' k' []) :: S.hp, nx'⟩ := by
    refine r3.congr (fun _ => rfl) (fun t => ?_) rfl
    show hget ((id, .map es') :: (id0, .arr e' k' []) :: S.hp) t = hget ((id0, .arr e' k' []) :: S.hp) t
    rw [hget_put]
    split
    ·rename_i h; subst h; rw [hget_put, if_neg (Ne.symm hidn), ho]
    ·rfl
   refine ⟨_, w, m, β', .inl ?_, r4.put hN (.ownNil (ad := none) hβ)⟩
   simp only [execOp, e1, hy.read r]
   refine run_value ?_
   simp only [Instr.lookup, Sem.run_bind, run_underlying (tyMap_inv hT), Result.andThen_ok, hobj, pure, Sem.run, hK.check _ w kv hg, a1, hzr]
   rfl
  ·exact absurd a4 (h3 p (List.mem_of_getElem? a3))
 ·obtain ⟨m', β', r2⟩ := r.takeM id i id0 nx' (hfr m β w a r).1 (hfr m β w a r).2 hlt0 hle0 ho h1 (show ovl (.dsl e' k' rws) id0 = _ from rfl)
  rw [← h2] at r2
  have hx2 : VRel m' β' (.map id) (a.eval x) := by
   have := (r2.reads x)
   exact (show evl K ⟨S.env, (id, .map es') :: (id0, .arr e' k' rws) :: S.hp, nx'⟩ x = .map id by cases x <;> exact hx) ▸ this
  obtain ⟨b2, ents2, clock2, f1, ⟨E2, f2, fP, fW⟩, f3, f4⟩ := (MapIs.own (S := ⟨S.env, (id, .map es') :: (id0, .arr e' k' rws) :: S.hp, nx'⟩) (id := id) (es := es') (by simp [hget_put])).read r2 hx2
  have hges' : ∀ p, p ∈ es' → good p.1 := by
   intro p hp
   rw [h2] at hp
   rcases List.mem_or_eq_of_mem_set hp with h | h
   ·exact hges p h
   ·rw [h]; exact hg
  have hobj2 : (getObj b2).run K.P w = .ok (.map E2 clock2) w := by simp [getObj, Sem.run, f2]
  rcases found hK hg f3 (fun i p e a b => (f4 i p e a b).1) hges' fP fW (w := w) with ⟨a1, a2, _⟩ | ⟨j, p, en, jE, a1, a2, a3, a4, a5, aE⟩
  ·have := h3.none_of a2; simp at this
  ·have hp : p = (kv, p.2) := by rw [← a4]
   rw [hp] at a3
   have hr := h3.some_of j p.2 a3 a5
   simp only [Option.some.injEq] at hr
   refine ⟨en.val, w, m', β', .inl ?_, r2.put hN ?_⟩
   ·simp only [execOp, f1, hy.read r]
    refine run_value ?_
    simp only [Instr.lookup, Sem.run_bind, run_underlying (tyMap_inv hT), Result.andThen_ok, hobj2, pure, Sem.run, hK.check _ w kv hg, a1]
    rfl
   ·rw [hr]; exact (f4 j _ en a3 a2).2 (by rw [← hr]; rfl)
inductive LookD (x : Value) (d o : V) : List (Value × V) → List (Value × V) → Prop
 | here {es : List (Value × V)} : LookD x d o ((x, d) :: es) ((x, o) :: es)
 | there {q : Value} {v : V} {es es' : List (Value × V)} (h : q ≠ x) (h' : LookD x d o es es') : LookD x d o ((q, v) :: es) ((q, v) :: es')
theorem LookD.at {x : Value} {d o : V} {es es' : List (Value × V)} (h : LookD x d o es es') : ∃ i, es[i]? = some (x, d) ∧ es' = es.set i (x, o) ∧ Look x es' (some o) := by
 induction h with
 | here => exact ⟨0, rfl, rfl, .here⟩
 | @there q v es es' h h' ih =>
  obtain ⟨i, h1, h2, h3⟩ := ih
  exact ⟨i + 1, by simpa using h1, by rw [h2]; rfl, .there h h3⟩
theorem aops_lookup_takeP (id0 nx' : Nat) (hfr : ∀ m β w a, Rel K m β w a S → β id0 = none ∧ ∀ q, q < K.pins → q ≠ id0) (hlt0 : id0 < nx') (hle0 : S.nx ≤ nx') {d : Nat} {T k e id : Nat} {x y : Operand} {good : Value → Prop} {kv : Value} {es es' : List (Value × V)} {dv o : V} {ob : Ob} (hT : tyMap K.P T k e = true) (hK : KeyT K.P k good)
  (hw : Wants ops S ⟨some d, .lookup T x y false, ty, pos, after, g⟩ true) (hx : evl K S x = .map id) (ho : hget S.hp id = .map es) (hy : KeyIs K S y kv) (hg : good kv) (hges : ∀ p, p ∈ es → good p.1)
  (hov : ovl dv id0 = some (o, ob)) (hl : LookD kv dv o es es') (hN : Nat.blt d K.N = true)
  (kk : AOps K ops rest Q ⟨(d, o) :: S.env, (id, .map es') :: (id0, ob) :: S.hp, nx'⟩) : AOps K ops (⟨some d, .lookup T x y false, ty, pos, after, g⟩ :: rest) Q S := by
 refine aops_runs hw (fun m β w a r => ?_) kk
 obtain ⟨i, h1, h2, h3⟩ := hl.at
 obtain ⟨m', β', r2⟩ := r.takeM id i id0 nx' (hfr m β w a r).1 (hfr m β w a r).2 hlt0 hle0 ho h1 hov
 rw [← h2] at r2
 have hx2 : VRel m' β' (.map id) (a.eval x) := by
  have := (r2.reads x)
  exact (show evl K ⟨S.env, (id, .map es') :: (id0, ob) :: S.hp, nx'⟩ x = .map id by cases x <;> exact hx) ▸ this
 obtain ⟨b2, ents2, clock2, f1, ⟨E2, f2, fP, fW⟩, f3, f4⟩ := (MapIs.own (S := ⟨S.env, (id, .map es') :: (id0, ob) :: S.hp, nx'⟩) (id := id) (es := es') (by simp [hget_put])).read r2 hx2
 have hges' : ∀ p, p ∈ es' → good p.1 := by
  intro p hp
  rw [h2] at hp
  rcases List.mem_or_eq_of_mem_set hp with h | h
  ·exact hges p h
  ·rw [h]; exact hg
 have hobj2 : (getObj b2).run K.P w = .ok (.map E2 clock2) w := by simp [getObj, Sem.run, f2]
 rcases found hK hg f3 (fun i p e a b => (f4 i p e a b).1) hges' fP fW (w := w) with ⟨a1, a2, _⟩ | ⟨j, p, en, jE, a1, a2, a3, a4, a5, aE⟩
 ·have := h3.none_of a2; simp at this
 ·have hp : p = (kv, p.2) := by rw [← a4]
  rw [hp] at a3
  have hr := h3.some_of j p.2 a3 a5
  simp only [Option.some.injEq] at hr
  refine ⟨en.val, w, m', β', .inl ?_, r2.put hN ?_⟩
  ·simp only [execOp, f1, hy.read r]
   refine run_value ?_
   simp only [Instr.lookup, Sem.run_bind, run_underlying (tyMap_inv hT), Result.andThen_ok, hobj2, pure, Sem.run, hK.check _ w kv hg, a1]
   rfl
  ·rw [hr]; exact (f4 j _ en a3 a2).2 (by rw [← hr]; exact (ovl_live hov).2.1)
theorem aops_mapUpdate_deepG {T k e id2 : Nat} {x y z : Operand} {good : Value → Prop} {kv : Value} {id : Nat} {es : List (Value × V)} {dv o : V} {ob : Ob} (es3 : List (Value × V)) (hT : tyMap K.P T k e = true) (hK : KeyT K.P k good)
  (hw : Wants ops S ⟨none, .mapUpdate T x y z, ty, pos, after, g⟩ true) (hx : evl K S x = .map id) (ho : hget S.hp id = .map es) (hy : KeyIs K S y kv) (hg : good kv) (hges : ∀ p, p ∈ es → good p.1) (hz : evl K S z = o)
  (hov : ovl dv id2 = some (o, ob)) (ho2 : hget S.hp id2 = ob) (hne : Nat.beq id id2 = false) (hkp : OKeep ob)
  (hp : Puts kv dv es es3) (kk : AOps K ops rest Q ⟨S.env, (id, .map es3) :: (id2, .dead) :: S.hp, S.nx⟩) : AOps K ops (⟨none, .mapUpdate T x y z, ty, pos, after, g⟩ :: rest) Q S := by
 obtain ⟨es2, i, h1, h2, h3⟩ := hp.other o
 have hne : id ≠ id2 := fun h => by rw [h, Nat.beq_refl] at hne; simp at hne
 refine aops_mapUpdate es2 hT hK hw hx ho hy hg hges hz h1 (aops_ghost (S' := ⟨S.env, (id, .map (es2.set i (kv, dv))) :: (id2, .dead) :: (id, .map es2) :: S.hp, S.nx⟩) (ghost_untakeMG id i id2 (S := ⟨S.env, (id, .map es2) :: S.hp, S.nx⟩) (by simp [hget_put]) h2 hov (by rw [hget_put, if_neg hne]; exact ho2) hne hkp) ?_)
 rw [← h3]
 refine aops_ghost (ghost_congr (S' := ⟨S.env, (id, .map es3) :: (id2, .dead) :: S.hp, S.nx⟩) (fun _ => rfl) (fun t => ?_) rfl) kk
 simp only [hget_put]
 split
 ·rfl
 ·split
  ·rfl
  ·rfl
theorem ghost_frzDMC (id id2 : Nat) {es : List (Value × V)} (es' : List (Value × V)) (ob : Ob) (ho : hget S.hp id = .map es) (hl : es.length = es'.length)
  (hk : ∀ (i : Nat) (p p' : Value × V), es[i]? = some p → es'[i]? = some p' → p.1 = p'.1 ∧ Und p.2 p'.2 ∧ Keep p.2) (hob : ObSub (FrzM id es') ob (hget S.hp id2)) :
  Ghost K S ⟨S.env, (id, .dead) :: (id2, ob) :: S.hp, S.nx⟩ :=
 ghost_freezeMD id es' _ _ ho hl hk (fun _ => Sub.keepM) (fun i => by
  rw [hget_put]
  split
  ·trivial
  ·rw [hget_put]
   split
   ·rename_i h; subst h; exact hob
   ·exact ObSub.keep (fun _ => Sub.keepM) _) (by simp [hget_put])
end
variable {κ α β γ : Type} [DecidableEq κ]
theorem und_rows {e k : Nat} {enc : α → List V} (hi : ∀ x, Imms (enc x)) (l : List α) : Und (.dsl e k (l.map enc)) (.lst k (l.map enc)) :=
 .sl rfl (fun i r r' h h' => by rw [h] at h'; simp at h'; rw [h']) (fun i j r r' c c' h h' hj hj' => by
  rw [h] at h'; simp at h'; subst h'
  rw [hj] at hj'; simp at hj'; subst hj'
  rw [List.getElem?_map, Option.map_eq_some_iff] at h
  obtain ⟨x, _, rfl⟩ := h
  exact .imm (hi x c (List.mem_of_getElem? hj)).1)
theorem und_ents {E : γ × α → Value × V} (hi : ∀ p, Imm (E p).2) (l : List (γ × α)) : Und (.dmp (l.map E)) (.imap (l.map E)) :=
 .mp rfl (fun i r r' h h' => by rw [h] at h'; simp at h'; rw [h']) (fun i r r' h h' => by
  rw [h] at h'; simp at h'; subst h'
  rw [List.getElem?_map, Option.map_eq_some_iff] at h
  obtain ⟨x, _, rfl⟩ := h
  exact .imm (hi x).1)
theorem und_map {τ : Type} {D E : τ → Value × V} (h : ∀ x, (D x).1 = (E x).1 ∧ Und (D x).2 (E x).2 ∧ Keep (D x).2) (l : List τ) (i : Nat) (p p' : Value × V) (hp : (l.map D)[i]? = some p) (hp' : (l.map E)[i]? = some p') : p.1 = p'.1 ∧ Und p.2 p'.2 ∧ Keep p.2 := by
 rw [List.getElem?_map, Option.map_eq_some_iff] at hp hp'
 obtain ⟨x, h1, rfl⟩ := hp
 obtain ⟨y, h2, rfl⟩ := hp'
 rw [h1] at h2; simp at h2; subst h2
 exact h x
theorem okeep_rows {e k : Nat} {enc : α → List V} (hi : ∀ x, Imms (enc x)) (l : List α) : OKeep (.arr e k (l.map enc)) := fun r hr => by
 obtain ⟨x, _, rfl⟩ := List.mem_map.1 hr; exact (hi x).keep
theorem okeep_ents {τ : Type} {E : τ → Value × V} (hi : ∀ p, Imm (E p).2) (l : List τ) : OKeep (.map (l.map E)) := fun r hr => by
 obtain ⟨x, _, rfl⟩ := List.mem_map.1 hr; exact (hi x).2
def holeN (E : κ × β → Value × V) (nx : Nat) (k0 : κ) : List (κ × β) → List (Value × V)
 | [] => []
 | p :: xs => if p.1 = k0 then ((E p).1, .map nx) :: xs.map E else E p :: holeN E nx k0 xs
theorem lookD_enc (E : κ × List (γ × α) → Value × V) (kf : κ → Value) (enc : γ × α → Value × V) (nx : Nat) (hE : ∀ p, E p = (kf p.1, .dmp (p.2.map enc))) (hk : ∀ a b, kf a = kf b → a = b) (k0 : κ) :
  ∀ xs : List (κ × List (γ × α)), (mget xs k0).isSome = true → LookD (kf k0) (.dmp (((mget xs k0).getD []).map enc)) (.map nx) (xs.map E) (holeN E nx k0 xs)
 | [], h => by simp [mget] at h
 | p :: xs, h => by
  obtain ⟨q, l⟩ := p
  simp only [mget] at h
  simp only [List.map_cons, holeN, mget, hE]
  by_cases hq : q = k0
  ·subst hq
   simp only [if_pos, Option.getD_some]
   exact .here
  ·rw [if_neg hq] at h
   rw [if_neg hq, if_neg hq]
   exact .there (fun e => hq (hk _ _ e)) (lookD_enc E kf enc nx hE hk k0 xs h)
theorem holeN_at (E : κ × List (γ × α) → Value × V) (kf : κ → Value) (enc : γ × α → Value × V) (nx : Nat) (hE : ∀ p, E p = (kf p.1, .dmp (p.2.map enc))) (k0 : κ) (l' : List (γ × α)) :
  ∀ xs : List (κ × List (γ × α)), (mget xs k0).isSome = true → ∃ i, (holeN E nx k0 xs)[i]? = some (kf k0, .map nx) ∧ (mput xs k0 l').map E = (holeN E nx k0 xs).set i (kf k0, .dmp (l'.map enc))
 | [], h => by simp [mget] at h
 | p :: xs, h => by
  obtain ⟨q, l⟩ := p
  simp only [mget] at h
  simp only [holeN, mput]
  by_cases hq : q = k0
  ·subst hq
   refine ⟨0, ?_, ?_⟩ <;> simp [hE]
  ·rw [if_neg hq] at h
   rw [if_neg hq, if_neg hq]
   obtain ⟨i, h1, h2⟩ := holeN_at E kf enc nx hE k0 l' xs h
   exact ⟨i + 1, by simpa using h1, by rw [List.map_cons, h2]; rfl⟩
theorem puts_new (E : κ × List (γ × α) → Value × V) (kf : κ → Value) (enc : γ × α → Value × V) (hE : ∀ p, E p = (kf p.1, .dmp (p.2.map enc))) (hk : ∀ a b, kf a = kf b → a = b) (k0 : κ) (l' : List (γ × α)) :
  ∀ xs : List (κ × List (γ × α)), Puts (kf k0) (.dmp (l'.map enc)) (xs.map E) ((mput xs k0 l').map E)
 | [] => by simp only [mput, List.map_cons, List.map_nil, hE]; exact .nil
 | p :: xs => by
  obtain ⟨q, l⟩ := p
  simp only [mput]
  by_cases h : q = k0
  ·subst h
   simp only [if_pos, hE, List.map_cons]; exact .here
  ·rw [if_neg h]
   simp only [hE, List.map_cons]
   exact .there (fun e => h (hk _ _ e)) (by have := puts_new E kf enc hE hk k0 l' xs; simpa only [hE] using this)
section
variable {K : Ctx} {Q : Post} {S : St}
theorem ghost_putN (id id2 : Nat) {xs : List (κ × List (γ × α))} {l' : List (γ × α)} {k0 : κ} (E : κ × List (γ × α) → Value × V) (kf : κ → Value) (enc : γ × α → Value × V) (hE : ∀ p, E p = (kf p.1, .dmp (p.2.map enc)))
  (hs : (mget xs k0).isSome = true) (ho : hget S.hp id = .map (holeN E id2 k0 xs)) (ho2 : hget S.hp id2 = .map (l'.map enc)) (hne : Nat.beq id id2 = false) (hi : ∀ p, Imm (enc p).2) :
  Ghost K S ⟨S.env, (id, .map ((mput xs k0 l').map E)) :: (id2, .dead) :: S.hp, S.nx⟩ := by
 obtain ⟨i, h1, h2⟩ := holeN_at E kf enc id2 hE k0 l' xs hs
 rw [h2]
 exact ghost_untakeMG id i id2 ho h1 (show ovl (.dmp (l'.map enc)) id2 = _ from rfl) ho2 (fun h => by rw [h, Nat.beq_refl] at hne; simp at hne) (okeep_ents hi l')
end
def optr {τ : Type} (enc : τ → List V) : Option τ → V
 | none => .con (.pointer none)
 | some x => .iptr (enc x) 0
theorem imm_optr {τ : Type} {enc : τ → List V} : ∀ o : Option τ, Imm (optr enc o)
 | none => Imm.con _
 | some _ => Imm.iptr _ _
theorem one_optr {τ : Type} {enc : τ → List V} : ∀ o : Option τ, oneV (optr enc o) = true
 | none => rfl
 | some _ => rfl
section
variable {K : Ctx} {Q : Post} {S : St} {s : List It}
variable {ops : Array Oper} {l : List Oper}
theorem ghost_optr {τ : Type} {enc : τ → List V} {o : Option τ} {x : τ} (t : Nat) (h : o = some x) (ht : get S.env t = optr enc o) : Ghost K S ⟨(t, .iptr (enc x) 0) :: S.env, S.hp, S.nx⟩ := by
 subst h
 refine Ghost.env (S := S) (fun q => ?_)
 show (bif Nat.beq t q then V.iptr (enc x) 0 else get S.env q) = get S.env q
 cases hq : Nat.beq t q
 ·rfl
 ·have := Nat.eq_of_beq_eq_true hq
  subst this
  exact ht.symm
theorem opC {τ : Type} {enc : τ → List V} {o : Option τ} {x : τ} (t : Nat) (h : o = some x) (ht : gtC S.env t = some (optr enc o)) {c : Code} (k : WG K Q (.c c :: s) ⟨(t, .iptr (enc x) 0) :: S.env, S.hp, S.nx⟩) : WG K Q (.c c :: s) S :=
 wg_cl (.inl ⟨_, rfl⟩) (ghost_optr t h (gtC_ok ht)) k
theorem opO {τ : Type} {enc : τ → List V} {o : Option τ} {x : τ} (t : Nat) (h : o = some x) (ht : gtC S.env t = some (optr enc o)) (k : WG K Q (.o ops l :: s) ⟨(t, .iptr (enc x) 0) :: S.env, S.hp, S.nx⟩) : WG K Q (.o ops l :: s) S :=
 wg_cl (.inr ⟨_, _, rfl⟩) (ghost_optr t h (gtC_ok ht)) k
theorem getD_mapT {τ : Type} {f : τ → V} {o : Option τ} {z : V} {y : τ} (h : o.isSome = true) : (o.map f).getD z = f (o.getD y) := by cases o <;> simp at h ⊢
theorem getD_mapF {τ : Type} {f : τ → V} {o : Option τ} {z : V} (h : o.isSome = false) : (o.map f).getD z = z := by cases o <;> simp at h ⊢
theorem isSomeT {τ : Type} {f : τ → V} {o : Option τ} {b : Bool} (h : o.isSome = b) : (o.map f).isSome = b := by cases o <;> simpa using h
end
theorem good_holeM {E : κ × List α → Value × V} {good : Value → Prop} (h : ∀ p, good (E p).1) {nx : Nat} {k0 : κ} : ∀ {xs : List (κ × List α)} (q : Value × V), q ∈ holeM E nx k0 xs → good q.1
 | [], q, hq => by simp [holeM] at hq
 | p :: xs, q, hq => by
  simp only [holeM] at hq
  split at hq
  ·rcases List.mem_cons.1 hq with rfl | hq
   ·exact h p
   ·obtain ⟨x, _, rfl⟩ := List.mem_map.1 hq; exact h x
  ·rcases List.mem_cons.1 hq with rfl | hq
   ·exact h p
   ·exact good_holeM h q hq
section
variable {K : Ctx} {Q : Post} {S : St}
variable {ops : Array Oper} {rest : List Oper} {ty : TypeId} {pos : String} {after : Array Edge} {g : Option (Nat × Bool)}
theorem free_nx : ∀ m β w a, Rel K m β w a S → β S.nx = none ∧ ∀ q, q < K.pins → q ≠ S.nx := fun _ _ _ _ r => ⟨r.nx _ (Nat.le_refl _), fun q hq => Nat.ne_of_lt (r.pin q hq).1⟩
theorem aops_lookup_tk_at {d nx : Nat} {T k e e' k' id n : Nat} {x y : Operand} {good : Value → Prop} {kv : Value} {es es' : List (Value × V)} {rws : List (List V)} (idn : Nat) (hid : (Nat.blt idn nx && Nat.ble K.pins idn) = true) (hnxx : S.nx = nx) (hres : hget S.hp idn = .res) (hT : tyMap K.P T k e = true) (hK : KeyT K.P k good)
  (hz : (K.P.info? e).bind (·.zero) = some (.slice none 0 0))
  (hw : Wants ops S ⟨some d, .lookup T x y false, ty, pos, after, g⟩ true) (hx : evl K S x = .map id) (ho : hget S.hp id = .map es) (hy : KeyIs K S y kv) (hg : good kv) (hges : ∀ p, p ∈ es → good p.1)
  (hl : LookT kv idn e' k' es es' rws) (hn : rws.length = n) (hN : Nat.blt d K.N = true)
  (kk : AOps K ops rest Q ⟨(d, .own idn n) :: S.env, (id, .map es') :: (idn, .arr e' k' rws) :: S.hp, S.nx⟩) : AOps K ops (⟨some d, .lookup T x y false, ty, pos, after, g⟩ :: rest) Q S := by
 subst hn
 exact aops_lookup_takeG idn S.nx (fun _ _ _ _ r => ⟨r.free hres, fun q hq => by have := Nat.le_of_ble_eq_true (Bool.and_eq_true_iff.1 hid).2; omega⟩) (by rw [hnxx]; exact Nat.le_of_ble_eq_true (Bool.and_eq_true_iff.1 hid).1) (Nat.le_refl _) hT hK hz hw hx ho hy hg hges hl hN kk
theorem aops_lookup_tkP {d : Nat} {T k e id : Nat} {x y : Operand} {good : Value → Prop} {kv : Value} {es es' : List (Value × V)} {dv o : V} {ob : Ob} (hT : tyMap K.P T k e = true) (hK : KeyT K.P k good)
  (hw : Wants ops S ⟨some d, .lookup T x y false, ty, pos, after, g⟩ true) (hx : evl K S x = .map id) (ho : hget S.hp id = .map es) (hy : KeyIs K S y kv) (hg : good kv) (hges : ∀ p, p ∈ es → good p.1)
  (hl : LookD kv dv o es es') (hov : ovl dv S.nx = some (o, ob)) (hN : Nat.blt d K.N = true)
  (kk : AOps K ops rest Q ⟨(d, o) :: S.env, (id, .map es') :: (S.nx, ob) :: S.hp, S.nx + 1⟩) : AOps K ops (⟨some d, .lookup T x y false, ty, pos, after, g⟩ :: rest) Q S :=
 aops_lookup_takeP S.nx (S.nx + 1) free_nx (Nat.lt_succ_self _) (Nat.le_succ _) hT hK hw hx ho hy hg hges hov hl hN kk
theorem HpSub.consE {Y : Hy} {n : Nat} {σ : Nat → Nat} {hp e : Heap} {id : Nat} {ob ob' : Ob} (hn : Nat.blt id n = true) (hh : hget hp (σ id) = ob') (h : ObSub Y ob ob') (h' : HpSub Y n σ hp e) : HpSub Y n σ hp ((id, ob) :: e) := .cons hn (by rw [hh]; exact h) h'
theorem aops_mcall_atH {d nx : Nat} {f : FuncId} {args : Array Operand} {at' : Array TypeId} {avs' : List V} {k k' : Nat} {hp hp' : Heap} {dc : V} (res : List Nat) (hnx : S.nx = nx) (hres : ∀ i, i ∈ res → hget S.hp i = .res)
  (dv : V) (avs : List V) (σ τ : Nat → Nat) (u : Heap) (hf : fnOk K.P f = true)
  (hw : Wants ops S ⟨some d, .call ⟨.value (.func f), args, at'⟩, ty, pos, after, g⟩ true) (hN : Nat.blt d K.N = true) (ha : args.toList.map (evl K S) = avs)
  (hsub : Subs (Ren k σ) avs' avs) (hhp : HpSub (Ren k σ) k σ S.hp hp) (hc : MutG K.gl K.P f avs' k hp dc k' hp')
  (hto : toB k k' nx nx σ τ (fun i => res.any fun j => Nat.beq i j) = true) (hτ : injB k' τ = true) (hkk : Nat.ble k k' = true) (hpins : (res.all fun i => Nat.ble K.pins i) = true)
  (hdv : Sub (To k' τ) dv dc) (hu : HpTo (To k' τ) τ hp' k' 0 u)
  (kk : AOps K ops rest Q ⟨(d, dv) :: S.env, u ++ S.hp, S.nx⟩) : AOps K ops (⟨some d, .call ⟨.value (.func f), args, at'⟩, ty, pos, after, g⟩ :: rest) Q S := by
 subst hnx
 have hfree : ∀ i, (res.any fun j => Nat.beq i j) = true → i ∈ res := by
  intro i hi
  obtain ⟨j, hj, e⟩ := List.any_eq_true.1 hi
  rw [Nat.eq_of_beq_eq_true e]; exact hj
 exact aops_mcalls σ τ S.nx u (fun i => res.any fun j => Nat.beq i j) hw rfl hN (mcall_run hf ha) hsub (HpSub.get hhp) hc
  (fun i hi => hres i (hfree i hi)) hto hτ (Nat.ble_eq_true_of_le (by omega)) hkk
  (fun i hi => Nat.le_of_ble_eq_true (List.all_eq_true.1 hpins i (hfree i hi))) hdv hu kk
def sameAll (ts : List Nat) (v : V) (e : Env) : Env := match ts with | [] => e | t :: ts => (t, v) :: sameAll ts v e
theorem sameAll_sub {Y : Hy} {v v0 : V} {env : Env} (hk : ∀ v, Sub Y v v) (h : Sub Y v v0) : ∀ (ts : List Nat), (∀ t, t ∈ ts → get env t = v0) → ∀ t', Sub Y (get (sameAll ts v env) t') (get env t')
 | [], _, t' => hk _
 | t :: ts, hh, t' => by
  rw [sameAll, get_put]
  split
  ·rename_i he; subst he; rw [hh t (by simp)]; exact h
  ·exact sameAll_sub hk h ts (fun q hq => hh q (List.mem_cons_of_mem _ hq)) t'
theorem ghost_frzEs (id : Nat) (ts : List Nat) {e k n : Nat} {rows : List (List V)} (ho : hget S.hp id = .arr e k rows) (hi : ∀ row, row ∈ rows → Imms row)
  (ht : ∀ t, t ∈ ts → get S.env t = .own id n) (hn : n = rows.length) : Ghost K S ⟨sameAll ts (.lst k rows) S.env, (id, .dead) :: S.hp, S.nx⟩ :=
 ghost_freeze id _ _ ho hi (sameAll_sub (fun _ => Sub.keep) (Sub.frzAll hn) ts ht) hpFrz0 (by simp [hget_put])
inductive Zs : List V → List Value → Prop
 | nil : Zs [] []
 | con {v : Value} {cs : List V} {vs : List Value} (h : Zs cs vs) : Zs (.con v :: cs) (v :: vs)
 | sl {k : Nat} {cs : List V} {vs : List Value} (h : Zs cs vs) : Zs (.lst k [] :: cs) (.slice none 0 0 :: vs)
theorem Zs.ok {cs : List V} {vs : List Value} (h : Zs cs vs) (m : Mem) : cs.length = vs.length ∧ ∀ (i : Nat) c v, cs[i]? = some c → vs[i]? = some v → IRel m c v := by
 induction h with
 | nil => exact ⟨rfl, by simp⟩
 | con h ih =>
  refine ⟨by simp [ih.1], fun i c v a b => ?_⟩
  cases i with
  | zero => simp at a b; subst a; subst b; exact .con _
  | succ i => exact ih.2 i c v (by simpa using a) (by simpa using b)
 | sl h ih =>
  refine ⟨by simp [ih.1], fun i c v a b => ?_⟩
  cases i with
  | zero => simp at a b; subst a; subst b; exact .nil _ _ _
  | succ i => exact ih.2 i c v (by simpa using a) (by simpa using b)
theorem irel_aggZ {cs : List V} {vs : List Value} (h : Zs cs vs) : ∀ m : Mem, IRel m (.agg cs) (.agg vs.toArray) := fun m =>
 .agg (by simpa using (h.ok m).1) (fun i c v a b => (h.ok m).2 i c v a (by simpa using b))
theorem ndB_of : ∀ {l : List V}, Imms l → ndB l = true
 | [], _ => rfl
 | c :: l, h => by
  have h1 := (h c (by simp)).1
  simp only [ndB, h1]
  exact ndB_of (fun x hx => h x (List.mem_cons_of_mem _ hx))
theorem ndB_rows {rows : List (List V)} (h : ∀ row, row ∈ rows → Imms row) : ∀ row, row ∈ rows → ndB row = true := fun row hr => ndB_of (h row hr)
end
end Go.Pv
namespace Go.Pv
open Go
set_option linter.unusedVariables false
set_option linter.unusedSimpArgs false
open Go.ChangeMaps (setBlock)
section
variable {K : Ctx} {Q : Post} {S : St}
variable {m : Mem} {β : Locs} {w : World} {a : Act}
variable {ops : Array Oper} {rest : List Oper} {ty : TypeId} {pos : String} {after : Array Edge} {g : Option (Nat × Bool)}
theorem run_valueW {P : Program} {w w' : World} {s : Sem Value} {v : Value} (h : s.run P w = .ok v w') : (do pure (Next.value (← s)) : Sem Next).run P w = .ok (.value v) w' := by
 rw [Sem.run_bind, h]; rfl
theorem aops_range {d T k e : Nat} {x : Operand} {es : List (Value × V)} (hT : tyMap K.P T k e = true)
  (hw : Wants ops S ⟨some d, .range T x, ty, pos, after, g⟩ true) (hx : evl K S x = .imap es) (hN : Nat.blt d K.N = true)
  (kk : AOps K ops rest Q ⟨(d, .ptr S.nx 1 0 0) :: S.env, (S.nx, .iter [] es) :: S.hp, S.nx + 1⟩) : AOps K ops (⟨some d, .range T x, ty, pos, after, g⟩ :: rest) Q S := by
 refine aops_runs hw (fun m β w a r => ?_) kk
 have h := r.reads x
 rw [hx] at h
 generalize hv : a.eval x = v at h
 cases h with
 | imm h =>
 cases h with
 | @imap _ bm ents clock hm hl hk h =>
 obtain ⟨E, hE, hP, hW⟩ := hm
 obtain ⟨β', hle, hnx, r2⟩ := r.alloc (.mapIter (some bm) clock #[] clock) (.iter [] es) ⟨0, 0⟩ _ rfl (fun β' hle => ⟨bm, #[], E, clock, ents.toList, rfl, by simp, hE, hW, by simpa [leftOf, List.filter_eq_self.2] using hP, by simpa using hl, fun i p e hi he => ⟨hk i p e hi (by simpa using he), h i p e hi (by simpa using he)⟩, by simp⟩)
 refine ⟨.pointer (some ⟨w.heap.size, 0, none⟩), { w with heap := w.heap.push (.mapIter (some bm) clock #[] clock) }, m, β', .inl ?_, Rel.put r2 hN (.ptr hnx)⟩
 simp only [execOp, hv]
 exact run_valueW (run_range_map w T k e bm E clock (tyMap_inv hT) (r.imm _ _ hE))
theorem aops_runs1 {o : Oper} {S' : St} (r : Rel K m β w a S) (hw : Wants ops S o true)
  (h : ∃ v w' m' β', ((execOp a.eval o).run K.P w = .ok (.value v) w') ∧ Rel K m' β' w' (a.put o.dst v) S') (k : AOps K ops rest Q S') : wpList K.P ops (Q.at K) (o :: rest) a w := by
 unfold wpList
 rw [if_pos (hw.at r)]
 left
 obtain ⟨v, w', m', β', h1, r'⟩ := h
 unfold Oper.wp
 rw [h1]; exact k m' β' w' _ r'
theorem erase_left {v L : List MapEntry} {j : Nat} {e : MapEntry} (h : v.Perm L) (hn : (L.map (·.born)).Nodup) (hj : v[j]? = some e) : (v.eraseIdx j).Perm (L.filter fun x => x.born != e.born) := by
 have h1 := cons_erase e v j hj
 have hn2 : ((e :: v.eraseIdx j).map (·.born)).Nodup := ((h1.symm.trans h).map _).nodup_iff.2 hn
 have h3 : ∀ x, x ∈ v.eraseIdx j → (x.born != e.born) = true := by
  intro x hx
  rw [List.map_cons, List.nodup_cons] at hn2
  simp only [bne_iff_ne, ne_eq]
  intro hh
  exact hn2.1 (List.mem_map.2 ⟨x, hx, hh⟩)
 have h2 := ((h1.symm.trans h).filter fun x => x.born != e.born)
 rw [List.filter_cons, if_neg (by simp), List.filter_eq_self.2 h3] at h2
 exact h2
theorem left_push (E : Array MapEntry) (seen : Array Nat) (b : Nat) : (leftOf E (seen.push b)).toList = (leftOf E seen).toList.filter fun x => x.born != b := by
 simp only [leftOf, Array.toList_filter, List.filter_filter]
 congr 1
 funext x
 rw [contains_push]
 cases hc : seen.contains x.born <;> by_cases hb : x.born = b <;> simp [hb, bne]
theorem aops_next {d id : Nat} {x : Operand} {cur left : List (Value × V)}
  (hw : Wants ops S ⟨some d, .next x false, ty, pos, after, g⟩ true) (hx : evl K S x = .ptr id 1 0 0) (ho : hget S.hp id = .iter cur left) (hN : Nat.blt d K.N = true)
  (k0 : left = [] → AOps K ops rest Q (S.put d (.tup [.con (.bool false)])))
  (k1 : ∀ j p, left[j]? = some p → AOps K ops rest Q ⟨(d, .tup [.con (.bool true), .con p.1, p.2]) :: S.env, (id, .iter [p] (left.eraseIdx j)) :: S.hp, S.nx⟩) :
  AOps K ops (⟨some d, .next x false, ty, pos, after, g⟩ :: rest) Q S := by
 intro m β w a r
 have h := r.reads x
 rw [hx] at h
 generalize hv : a.eval x = v at h
 cases h with
 | imm h => cases h
 | @ptr _ _ _ _ b cap hb =>
 have hown := r.own id
 rw [hb, ho] at hown
 obtain ⟨bm, seen, E, clock, v, h0, h1, h2, h3, h4, h5, h6, h7⟩ := hown
 have hpt : Value.pointer (some ⟨b, cap.off + (0 * 1 + 0), none⟩) = .pointer (some ⟨b, 0, none⟩) := by rw [h0]
 rcases run_next_at (P := K.P) w ty b bm clock clock seen E clock h1 (r.imm _ _ h2) h3.lt (Nat.le_refl _) with ⟨q1, q2⟩ | ⟨e, q1, w1, q2, q3⟩
 ·have hl : left = [] := by
   have : v.length = 0 := by rw [h4.length_eq, Array.length_toList]; exact q1
   exact List.length_eq_zero_iff.1 (by omega)
  refine aops_runs1 r hw ⟨.tuple #[.bool false], w, m, β, ?_, r.put hN ?_⟩ (k0 hl)
  ·simp only [execOp, hv, hpt]; exact run_value q2
  ·refine .tup rfl fun i c u hi hu => ?_
   match i with
   | 0 => simp at hi hu; subst hi; subst hu; exact .imm (.con _)
   | i + 1 => simp at hi
 ·obtain ⟨j, hj⟩ := List.getElem?_of_mem (h4.mem_iff.2 q1)
  have hlt : j < left.length := by rw [h5]; exact (List.getElem?_eq_some_iff.1 hj).1
  have hp : left[j]? = some left[j] := List.getElem?_eq_getElem hlt
  obtain ⟨e1, e2⟩ := h6 j _ e hp hj
  have r1 : Rel K m β w1 a S := by rcases q2 with rfl | rfl; exact r; exact r.drawn _ (Nat.le_succ _)
  have hh1 : w1.heap = w.heap := by rcases q2 with rfl | rfl <;> rfl
  have hbl : b < w1.heap.size := by rw [hh1]; exact lt_of_some h1
  have r2 := r1.update (by rw [ho]; simp) hb (setBlock w1 b (.mapIter (some bm) clock (seen.push e.born) clock)) (.iter [left[j]] (left.eraseIdx j))
   (fun b' hne => by simp only [setBlock, Array.getElem?_setIfInBounds]; rw [if_neg (Ne.symm hne)]) (by simp [setBlock]) ⟨rfl, rfl, rfl, Nat.le_refl _⟩
   (fun _ => ⟨bm, seen.push e.born, E, clock, v.eraseIdx j, h0, by simp [setBlock, hbl], h2, h3, by
    rw [left_push]
    refine erase_left h4 ?_ hj
    have : ((leftOf E seen).toList).Sublist E.toList := by simp only [leftOf, Array.toList_filter]; exact List.filter_sublist
    exact List.Nodup.sublist (this.map _) h3.born, by rw [List.length_eraseIdx, List.length_eraseIdx, h5], fun i p e' hi he => by
    rw [List.getElem?_eraseIdx] at hi he
    split at hi
    ·rename_i hlt; rw [if_pos hlt] at he; exact h6 i p e' hi he
    ·rename_i hlt; rw [if_neg hlt] at he; exact h6 _ p e' hi he, fun p hpc => by
    simp at hpc; subst hpc
    exact ⟨e, (mem_left q1).1, by simp, e1, e2⟩⟩)
  refine aops_runs1 r hw ⟨.tuple #[.bool true, e.key, e.val], _, m, β, ?_, r2.put hN ?_⟩ (k1 j left[j] hp)
  ·simp only [execOp, hv, hpt]; exact run_valueW q3
  ·refine .tup rfl fun i c u hi hu => ?_
   match i with
   | 0 => simp at hi hu; subst hi; subst hu; exact .imm (.con _)
   | 1 => simp at hi hu; subst hi; subst hu; rw [← e1]; exact .imm (.con _)
   | 2 => simp at hi hu; subst hi; subst hu; exact .imm e2
   | i + 3 => simp at hi
theorem aops_entry {d id : Nat} {x : Operand} {p : Value × V} {left : List (Value × V)}
  (hw : Wants ops S ⟨some d, .entry x, ty, pos, after, g⟩ true) (hx : evl K S x = .ptr id 1 0 0) (ho : hget S.hp id = .iter [p] left) (hN : Nat.blt d K.N = true)
  (kk : AOps K ops rest Q (S.put d (.tup [.con p.1, p.2]))) : AOps K ops (⟨some d, .entry x, ty, pos, after, g⟩ :: rest) Q S := by
 intro m β w a r
 have h := r.reads x
 rw [hx] at h
 generalize hv : a.eval x = v at h
 cases h with
 | imm h => cases h
 | @ptr _ _ _ _ b cap hb =>
 have hown := r.own id
 rw [hb, ho] at hown
 obtain ⟨bm, seen, E, clock, v, h0, h1, h2, h3, h4, h5, h6, h7⟩ := hown
 have hpt : Value.pointer (some ⟨b, cap.off + (0 * 1 + 0), none⟩) = .pointer (some ⟨b, 0, none⟩) := by rw [h0]
 obtain ⟨e, q1, q2, q3, q4⟩ := h7 p (by simp)
 have hf : E.find? (·.born == e.born) = some e := by rw [← Array.find?_toList]; exact find_born e E.toList h3.born q1
 refine aops_runs1 r hw ⟨.tuple #[e.key, e.val], w, m, β, ?_, r.put hN ?_⟩ kk
 ·simp only [execOp, hv, hpt]
  refine run_value ?_
  simp only [Instr.entry, getObj, Sem.run_bind, Sem.run, h1, r.imm _ _ h2, Result.andThen, q2, bne_self_eq_false, Bool.false_eq_true, if_false, hf]
  rfl
 ·refine .tup rfl fun i c u hi hu => ?_
  match i with
  | 0 => simp at hi hu; subst hi; subst hu; rw [← q3]; exact .imm (.con _)
  | 1 => simp at hi hu; subst hi; subst hu; exact .imm q4
  | i + 2 => simp at hi
theorem aops_lenM {d n : Nat} {x : Operand} {T k e : TypeId} {mv : V} {es : List (Value × V)} (hT : tyMap K.P T k e = true)
  (hw : Wants ops S ⟨some d, .call ⟨.builtin .len, #[x], #[T]⟩, ty, pos, after, g⟩ true) (hx : evl K S x = mv) (hm : MapIs S mv es) (hn : es.length = n) (hN : Nat.blt d K.N = true)
  (kk : AOps K ops rest Q (S.put d (.con (.int .i64 n)))) :
  AOps K ops (⟨some d, .call ⟨.builtin .len, #[x], #[T]⟩, ty, pos, after, g⟩ :: rest) Q S :=
 aops_val _ hw hN (fun m β w a r => by
  have h := r.reads x
  rw [hx] at h
  obtain ⟨b, ents, clock, e1, ⟨E, e2, eP, eW⟩, e3, e4⟩ := hm.read r h
  have hsz : E.size = n := by
   have := eP.length_eq
   simp at this
   omega
  refine ⟨.int .i64 n, run_builtin rfl ?_, .imm (.con _)⟩
  simp only [builtin]
  refine run_value ?_
  have hobj : (getObj b).run K.P w = .ok (.map E clock) w := by simp [getObj, Sem.run, e2]
  simp only [Builtin.len_, List.map_toArray, List.map_cons, List.map_nil, e1]
  simp [run_underlying (tyMap_inv hT), goInt, pure, Sem.run, hobj, hsz]) kk
theorem view_perm {γ δ : Type} (R : γ → δ → Prop) : ∀ {l l' : List γ}, l.Perm l' → ∀ (v : List δ), l.length = v.length → (∀ (i : Nat) p e, l[i]? = some p → v[i]? = some e → R p e) →
  ∃ v', v.Perm v' ∧ l'.length = v'.length ∧ ∀ (i : Nat) p e, l'[i]? = some p → v'[i]? = some e → R p e := by
 intro l l' h
 induction h with
 | nil => exact fun v hl hr => ⟨v, .refl _, hl, hr⟩
 | @cons x l1 l2 h ih =>
  intro v hl hr
  cases v with
  | nil => simp at hl
  | cons y v =>
   obtain ⟨v', a1, a2, a3⟩ := ih v (by simpa using hl) (fun i p e hi he => hr (i + 1) p e (by simpa using hi) (by simpa using he))
   refine ⟨y :: v', a1.cons _, by simp [a2], fun i p e hi he => ?_⟩
   cases i with
   | zero => exact hr 0 p e (by simpa using hi) (by simpa using he)
   | succ i => exact a3 i p e (by simpa using hi) (by simpa using he)
 | @swap x y l =>
  intro v hl hr
  match v, hl with
  | z :: t :: v, hl =>
   refine ⟨t :: z :: v, .swap _ _ _, by simpa using hl, fun i p e hi he => ?_⟩
   match i with
   | 0 => exact hr 1 p e (by simpa using hi) (by simpa using he)
   | 1 => exact hr 0 p e (by simpa using hi) (by simpa using he)
   | i + 2 => exact hr (i + 2) p e (by simpa using hi) (by simpa using he)
 | trans _ _ ih1 ih2 =>
  intro v hl hr
  obtain ⟨v1, a1, a2, a3⟩ := ih1 v hl hr
  obtain ⟨v2, b1, b2, b3⟩ := ih2 v1 a2 a3
  exact ⟨v2, a1.trans b1, b2, b3⟩
theorem ghost_permM (id : Nat) {es es' : List (Value × V)} (ho : hget S.hp id = .map es) (hp : es.Perm es') : Ghost K S ⟨S.env, (id, .map es') :: S.hp, S.nx⟩ := by
 intro m β w a r
 have hl0 : hget S.hp id ≠ .dead := by rw [ho]; simp
 have key : ObOk m β w (β.hid id) (β id) (.map es') := by
  have hown := r.own id
  rw [ho] at hown
  obtain ⟨b, cap, hb⟩ := map_loc r ho
  rw [hb] at hown ⊢
  obtain ⟨ents, clock, bl, ⟨E, q1, qP, qW⟩, q2, q6, q7⟩ := hown
  -- entries with their numbers
  have hz : es.length = (ents.toList.zipIdx).length := by simpa using q2
  obtain ⟨v', a1, a2, a3⟩ := view_perm (fun (p : Value × V) (e : MapEntry × Nat) => e.1.key = p.1 ∧ CRel m β w (bl e.2) p.2 e.1.val) hp ents.toList.zipIdx hz (fun i p e hi he => by
   rw [List.getElem?_zipIdx] at he
   simp only [Option.map_eq_some_iff] at he
   obtain ⟨e0, he0, rfl⟩ := he
   have := q7 i p e0 hi (by simpa using he0)
   simpa using this)
  have hnd : (v'.map (·.2)).Nodup := by
   refine (a1.map _).nodup_iff.1 ?_
   rw [List.zipIdx_map_snd]
   exact List.nodup_range'
  refine ⟨(v'.map (·.1)).toArray, clock, fun i x => ∃ e, v'[i]? = some e ∧ bl e.2 x, ⟨E, q1, ?_, qW⟩, by simpa using a2, ⟨fun p x ⟨e, _, hx⟩ => q6.1 _ x hx, fun p p' x ⟨e, he, hx⟩ ⟨e', he', hx'⟩ => ?_⟩, fun i p e hi he => ?_⟩
  ·have := (a1.map (·.1)).symm
   rw [List.zipIdx_map_fst] at this
   simpa using this.trans qP
  ·have h1 := q6.2 _ _ x hx hx'
   have e1 : (v'.map (·.2))[p]? = some e.2 := by simp [he]
   have e2 : (v'.map (·.2))[p']? = some e.2 := by simp [he', h1]
   exact (List.getElem?_inj (List.getElem?_eq_some_iff.1 e1).1 hnd).1 (e1.trans e2.symm)
  ·simp at he
   obtain ⟨n, hn⟩ := he
   obtain ⟨b1, b2⟩ := a3 i p _ hi hn
   exact ⟨b1, b2.mono (Mem.le_refl _) (Locs.le_refl _) (fun x hx => ⟨_, hn, hx⟩) (fun _ _ => rfl)⟩
 have hg : ∀ i, hget ((id, .map es') :: S.hp) i ≠ .dead → hget S.hp i ≠ .dead := by
  intro i hi
  rw [hget_put] at hi
  split at hi
  ·rename_i h; subst h; exact hl0
  ·exact hi
 exact ⟨m, β, r.imm, r.ext, r.mold, r.frame, r.size, r.same, r.tn, r.df, r.env, fun i => by
  rw [hget_put]
  split
  ·rename_i h; subst h; exact key
  ·exact r.own i, fun i b c h => r.priv i b c (hg i h), fun i i' b c c' h h' => r.inj i i' b c c' (hg i h) (hg i' h'), fun i x h hx => (r.hid i x (hg i h) hx).weak hg, r.nx, r.pin⟩
end
inductive EnvFz (Y : Hy) (env : Env) : Env → Prop
 | refl : EnvFz Y env env
 | put {e : Env} {t : Nat} {v v0 : V} (ht : get env t = v0) (hv : Sub Y v v0) (h : EnvFz Y env e) : EnvFz Y env ((t, v) :: e)
theorem EnvFz.get {Y : Hy} {env e : Env} (hk : ∀ v, Sub Y v v) (h : EnvFz Y env e) (t : Nat) : Sub Y (get e t) (get env t) := by
 induction h with
 | refl => exact hk _
 | put ht hv _ ih =>
  rw [get_put]
  split
  ·rename_i he; subst he; rw [ht]; exact hv
  ·exact ih
inductive HpFz (Y : Hy) (hp : Heap) : Heap → Prop
 | refl : HpFz Y hp hp
 | put {e : Heap} {t : Nat} {v v0 : Ob} (ht : hget hp t = v0) (hv : ObSub Y v v0) (h : HpFz Y hp e) : HpFz Y hp ((t, v) :: e)
theorem HpFz.get {Y : Hy} {hp e : Heap} (hk : ∀ v, ObSub Y v v) (h : HpFz Y hp e) (t : Nat) : ObSub Y (hget e t) (hget hp t) := by
 induction h with
 | refl => exact hk _
 | put ht hv _ ih =>
  rw [hget_put]
  split
  ·rename_i he; subst he; rw [ht]; exact hv
  ·exact ih
section
variable {K : Ctx} {S : St}
theorem ghost_frzMx (id : Nat) {es : List (Value × V)} {env : Env} {hp : Heap} (ho : hget S.hp id = .map es) (hi : ∀ p, p ∈ es → Imm p.2) (he : EnvFz (FrzM id es) S.env env) (hh : HpFz (FrzM id es) S.hp hp) :
  Ghost K S ⟨env, (id, .dead) :: hp, S.nx⟩ :=
 ghost_freezeM id env _ ho hi (he.get (fun _ => Sub.keepM)) (fun i => by
  rw [hget_put]
  split
  ·trivial
  ·exact hh.get (fun _ => ObSub.keep (fun _ => Sub.keepM) _) i) (by simp [hget_put])
end
def leT (a b : List UInt8) : Bool := !(Op.bytesLess b a)
def canonM {α : Type} (l : List (List UInt8 × α)) : List (List UInt8 × α) := l.mergeSort fun a b => leT a.1 b.1
theorem canonM_perm {α : Type} (l : List (List UInt8 × α)) : (canonM l).Perm l := List.mergeSort_perm _ _
theorem canonM_map {α β : Type} (f : List UInt8 × α → β) (l : List (List UInt8 × α)) : (l.map f).Perm ((canonM l).map f) := ((canonM_perm l).map f).symm
def RM {α : Type} (n : Nat) (l : List α) (P : Prop) : Prop := l.length < n ∧ P
theorem RM.zero {α : Type} {l : List α} {P : Prop} {X : Prop} (h : RM 0 l P) : X := absurd h.1 (Nat.not_lt_zero _)
theorem RM.start {α : Type} {l : List α} {P : Prop} (h : P) : RM (l.length + 1) l P := ⟨Nat.lt_succ_self _, h⟩
theorem RM.step {α : Type} {l l' : List α} {n : Nat} {P P' : Prop} (h : RM (n + 1) l P) (hq : l'.length < l.length) (h' : P') : RM n l' P' := ⟨by have := h.1; omega, h'⟩
section
variable {K : Ctx} {Q : Post} {S : St} {s : List It}
variable {ops : Array Oper} {rest : List Oper} {ty : TypeId} {pos : String} {after : Array Edge} {g : Option (Nat × Bool)}
theorem nxt {α : Type} {enc : α → Value × V} {xs : List α} {d id nx : Nat} {env : Env} {hp : Heap} {x : Operand} {cur : List (Value × V)} (hx : evl K ⟨env, hp, nx⟩ x = .ptr id 1 0 0) (ho : hget hp id = .iter cur (xs.map enc)) (hw : Wants ops ⟨env, hp, nx⟩ ⟨some d, .next x false, ty, pos, after, g⟩ true) (hN : Nat.blt d K.N = true)
  (k0 : xs = [] → WG K Q (.o ops rest :: s) ⟨(d, .tup [.con (.bool false)]) :: env, hp, nx⟩)
  (k1 : ∀ x l', l'.length < xs.length → xs.Perm (x :: l') → WG K Q (.o ops rest :: s) ⟨(d, .tup [.con (.bool true), .con (enc x).1, (enc x).2]) :: env, (id, .iter [enc x] (l'.map enc)) :: hp, nx⟩) :
  WG K Q (.o ops (⟨some d, .next x false, ty, pos, after, g⟩ :: rest) :: s) ⟨env, hp, nx⟩ := by
 refine aops_next hw hx ho hN (fun h => k0 (List.map_eq_nil_iff.1 h)) (fun j p hj => ?_)
 rw [List.getElem?_map, Option.map_eq_some_iff] at hj
 obtain ⟨y, h1, rfl⟩ := hj
 rw [← ChangeMaps.map_eraseIdx enc xs j]
 have hlt := (List.getElem?_eq_some_iff.1 h1).1
 exact k1 y (xs.eraseIdx j) (by rw [List.length_eraseIdx, if_pos hlt]; omega) (cons_erase y xs j h1)
end
end Go.Pv
namespace Go.Pv
open Go
set_option linter.unusedVariables false
inductive Dels (x : Value) : List (Value × V) → List (Value × V) → Prop
 | nil : Dels x [] []
 | here {v : V} {es : List (Value × V)} : Dels x ((x, v) :: es) es
 | there {k : Value} {v : V} {es es' : List (Value × V)} (h : k ≠ x) (h' : Dels x es es') : Dels x ((k, v) :: es) ((k, v) :: es')
theorem Dels.none_of {x : Value} {es es' : List (Value × V)} (h : Dels x es es') (hn : ∀ p, p ∈ es → p.1 ≠ x) : es' = es := by
 induction h with
 | nil => rfl
 | here => exact absurd rfl (hn _ List.mem_cons_self)
 | there _ _ ih => rw [ih fun p hp => hn p (by simp [hp])]
theorem Dels.some_of {x : Value} {es es' : List (Value × V)} (h : Dels x es es') : ∀ (j : Nat) (v' : V), es[j]? = some (x, v') → (∀ i p, i < j → es[i]? = some p → p.1 ≠ x) → es' = es.eraseIdx j := by
 induction h with
 | nil => intro j v h; simp at h
 | here =>
  intro j v' hj hi
  cases j with
  | zero => rfl
  | succ j => exact absurd rfl (hi 0 _ (by omega) rfl)
 | there h _ ih =>
  intro j v' hj hi
  cases j with
  | zero => simp at hj; exact absurd hj.1 h
  | succ j =>
   rw [ih j v' (by simpa using hj) fun i p hij hp => hi (i + 1) p (by omega) (by simpa using hp), List.eraseIdx_cons_succ]
def mdel {α β : Type} [DecidableEq α] : List (α × β) → α → List (α × β)
 | [], _ => []
 | p :: r, k => if p.1 = k then r else p :: mdel r k
theorem dels_map {α β : Type} [DecidableEq α] {kv : α → Value} {ev : β → V} (hinj : ∀ a b, kv a = kv b → a = b) (xs : List (α × β)) (k : α) : Dels (kv k) (xs.map fun p => (kv p.1, ev p.2)) ((mdel xs k).map fun p => (kv p.1, ev p.2)) := by
 induction xs with
 | nil => exact .nil
 | cons p xs ih =>
  rw [mdel]
  by_cases h : p.1 = k
  ·rw [if_pos h, List.map_cons, h]; exact .here
  ·rw [if_neg h, List.map_cons, List.map_cons]
   exact .there (fun e => h (hinj _ _ e)) ih
theorem erase_perm {α : Type} {e : α} {l L : List α} {j k : Nat} (h : l.Perm L) (h1 : l[j]? = some e) (h2 : L[k]? = some e) : (l.eraseIdx j).Perm (L.eraseIdx k) :=
 ((cons_erase e l j h1).symm.trans (h.trans (cons_erase e L k h2))).cons_inv
theorem MWf.erase {E : Array MapEntry} {clock j : Nat} (q : MWf E clock) : MWf (E.eraseIdxIfInBounds j) clock := by
 have e : (E.eraseIdxIfInBounds j).toList = E.toList.eraseIdx j := by simp
 refine ⟨?_, fun x hx => ?_, ?_⟩
 ·rw [e]; exact ((List.eraseIdx_sublist ..).map _).nodup q.born
 ·rw [e] at hx; exact q.lt x ((List.eraseIdx_sublist ..).mem hx)
 ·rw [e]; exact ((List.eraseIdx_sublist ..).map _).nodup q.key
section
variable {K : Ctx} {Q : Post} {S : St}
variable {ops : Array Oper} {rest : List Oper} {ty : TypeId} {pos : String} {after : Array Edge} {g : Option (Nat × Bool)}
theorem aops_mapDelete {T k e Tk : TypeId} {x y : Operand} {good : Value → Prop} {kv : Value} {id : Nat} {es : List (Value × V)} (es' : List (Value × V)) (hT : tyMap K.P T k e = true) (hK : KeyT K.P k good)
  (hw : Wants ops S ⟨none, .call ⟨.builtin .delete, #[x, y], #[T, Tk]⟩, ty, pos, after, g⟩ true) (hx : evl K S x = .map id) (ho : hget S.hp id = .map es) (hy : KeyIs K S y kv) (hg : good kv) (hges : ∀ p, p ∈ es → good p.1)
  (hp : Dels kv es es') (kk : AOps K ops rest Q ⟨S.env, (id, .map es') :: S.hp, S.nx⟩) : AOps K ops (⟨none, .call ⟨.builtin .delete, #[x, y], #[T, Tk]⟩, ty, pos, after, g⟩ :: rest) Q S := by
 refine aops_runs hw (fun m β w a r => ?_) kk
 have h := r.reads x
 rw [hx] at h
 generalize hv : a.eval x = v at h
 cases h with
 | imm h => cases h
 | @map _ b cap hb =>
 have h0 := r.own id
 rw [hb, ho] at h0
 obtain ⟨ents, clock, bl, ⟨E, e2, eP, eW⟩, e3, eB, e4⟩ := h0
 have hobj : (getObj b).run K.P w = .ok (.map E clock) w := by simp [getObj, Sem.run, e2]
 have hset : ∀ o, (setObj b o).run K.P w = .ok () { w with heap := w.heap.setIfInBounds b o } := by intro o; simp [setObj, Sem.run, e2]
 have hbl := lt_of_some e2
 have heap' : ∀ o b', b' ≠ b → ({ w with heap := w.heap.setIfInBounds b o } : World).heap[b']? = w.heap[b']? := by
  intro o b' hne; simp only [Array.getElem?_setIfInBounds]; rw [if_neg (Ne.symm hne)]
 have self' : ∀ o, ({ w with heap := w.heap.setIfInBounds b o } : World).heap[b]? = some o := by
  intro o; simp [hbl]
 rcases found hK hg e3 (fun i p e a b => (e4 i p e a b).1) hges eP eW (w := w) with ⟨a1, a2, aK⟩ | ⟨j, p, en, jE, a1, a2, a3, a4, a5, aE⟩
 ·have hes := hp.none_of a2
  refine ⟨.tuple #[], { w with heap := w.heap.setIfInBounds b (.map E clock) }, m, β, .inl ?_,
   r.update (by rw [ho]; simp) hb _ (.map es') (heap' _) (by simp) ⟨rfl, rfl, rfl, Nat.le_refl _⟩ (fun hkeep => ⟨ents, _, bl, ⟨_, self' _, eP, eW⟩, by rw [hes]; exact e3, eB, fun i p e hi he => ?_⟩)⟩
  ·refine run_builtin rfl ?_
   have hd : (Builtin.delete_ #[T, Tk] ty #[a.eval x, a.eval y]).run K.P w = .ok (.tuple #[]) { w with heap := w.heap.setIfInBounds b (.map E clock) } := by
    rw [hv, hy.read r]
    simp only [Builtin.delete_, List.getElem?_toArray, List.getElem?_cons_zero, List.getElem?_cons_succ, Sem.run_bind, run_underlying (tyMap_inv hT), Result.andThen_ok, hobj, hK.check _ w kv hg, a1, hset]
    rfl
   simp only [builtin, List.map_toArray, List.map_cons, List.map_nil, Sem.run_bind]
   rw [hd]
   rfl
  ·rw [hes] at hi
   exact ⟨(e4 i p e hi he).1, (e4 i p e hi he).2.mono (Mem.le_refl _) (Locs.le_refl _) (fun _ h => h) (fun x hx => hkeep x (eB.1 _ x hx))⟩
 ·have hpp : p = (kv, p.2) := by rw [← a4]
  rw [hpp] at a3
  have hes := hp.some_of j p.2 a3 a5
  have ej : (ents.eraseIdxIfInBounds j).toList = ents.toList.eraseIdx j := by simp
  have eE : (E.eraseIdxIfInBounds jE).toList = E.toList.eraseIdx jE := by simp
  refine ⟨.tuple #[], { w with heap := w.heap.setIfInBounds b (.map (E.eraseIdxIfInBounds jE) clock) }, m, β, .inl ?_,
   r.update (by rw [ho]; simp) hb _ (.map es') (heap' _) (by simp) ⟨rfl, rfl, rfl, Nat.le_refl _⟩ (fun hkeep => ⟨ents.eraseIdxIfInBounds j, _, fun q => bl (if q < j then q else q + 1), ⟨_, self' _, by rw [ej, eE]; exact erase_perm eP (by simpa using a2) (by simpa using aE), eW.erase⟩, ?_, ⟨fun q y hy => eB.1 _ y hy, fun q q' y h1 h2 => ?_⟩, fun i p e hi he => ?_⟩)⟩
  ·refine run_builtin rfl ?_
   have hd : (Builtin.delete_ #[T, Tk] ty #[a.eval x, a.eval y]).run K.P w = .ok (.tuple #[]) { w with heap := w.heap.setIfInBounds b (.map (E.eraseIdxIfInBounds jE) clock) } := by
    rw [hv, hy.read r]
    simp only [Builtin.delete_, List.getElem?_toArray, List.getElem?_cons_zero, List.getElem?_cons_succ, Sem.run_bind, run_underlying (tyMap_inv hT), Result.andThen_ok, hobj, hK.check _ w kv hg, a1, hset]
    rfl
   simp only [builtin, List.map_toArray, List.map_cons, List.map_nil, Sem.run_bind]
   rw [hd]
   rfl
  ·have hj : j < ents.size := (Array.getElem?_eq_some_iff.1 a2).1
   have h1 : (ents.eraseIdxIfInBounds j).size = ents.size - 1 := by rw [← Array.length_toList, ej, List.length_eraseIdx]; simp [hj]
   rw [hes, List.length_eraseIdx, if_pos (by rw [e3]; exact hj), h1, e3]
  ·have := eB.2 _ _ y h1 h2
   split at this <;> split at this <;> omega
  ·rw [hes, List.getElem?_eraseIdx] at hi
   have h2 : (ents.eraseIdxIfInBounds j).toList[i]? = some e := by rw [Array.getElem?_toList]; exact he
   rw [ej, List.getElem?_eraseIdx] at h2
   have he' : ents[if i < j then i else i + 1]? = some e := by
    by_cases hij : i < j
    ·rw [if_pos hij] at h2; simp only [if_pos hij]; simpa using h2
    ·rw [if_neg hij] at h2; simp only [if_neg hij]; simpa using h2
   have hi' : es[if i < j then i else i + 1]? = some p := by
    by_cases hij : i < j
    ·rw [if_pos hij] at hi; simp only [if_pos hij]; exact hi
    ·rw [if_neg hij] at hi; simp only [if_neg hij]; exact hi
   exact ⟨(e4 _ p e hi' he').1, (e4 _ p e hi' he').2.mono (Mem.le_refl _) (Locs.le_refl _) (fun _ h => h) (fun x hx => hkeep x (eB.1 _ x hx))⟩
end
section
variable {K : Ctx} {Q : Post} {S S' : St}
variable {m : Mem} {β : Locs} {w : World} {a : Act}
variable {ops : Array Oper} {rest : List Oper} {ty : TypeId} {pos : String} {after : Array Edge} {g : Option (Nat × Bool)}
theorem Rel.adoptN (r : Rel K m β w a S) (id0 nx' : Nat) (hfree : β id0 = none) (hpid : ∀ q, q < K.pins → q ≠ id0) (hidn : id0 < nx') (hnn : S.nx ≤ nx') (loc : Option (Nat × Cap)) (ob : Ob)
  (hblk : ∀ b c, loc = some (b, c) → m b = none ∧ (b < K.w0.heap.size → ¬ K.old b) ∧ (∀ i c', hget S.hp i ≠ .dead → β i ≠ some (some (b, c'))) ∧ ∀ i, hget S.hp i ≠ .dead → ¬ β.hid i b)
  (hok : ∀ β', β.le β' → ObOk m β' w (fun _ => False) (some loc) ob) :
  ∃ β' : Locs, β.le β' ∧ β' id0 = some loc ∧ (∀ i, id0 ≠ i → β' i = β i) ∧ (∀ i, id0 ≠ i → β'.hid i = β.hid i) ∧ (∀ x, ¬ β'.hid id0 x) ∧ Rel K m β' w a ⟨S.env, (id0, ob) :: S.hp, nx'⟩ := by
 let β' : Locs := ⟨fun i => if i = id0 then some loc else β i, fun i => if i = id0 then (fun _ => False) else β.hid i⟩
 have hle : β.le β' := by
  intro i l h
  show (if i = id0 then _ else _) = _
  rw [if_neg]
  ·exact h
  ·intro e; rw [e, hfree] at h; simp at h
 have en : β' id0 = some loc := by show (if _ then _ else _) = _; rw [if_pos rfl]
 have eo : ∀ i, id0 ≠ i → β' i = β i := fun i h => by show (if _ then _ else _) = _; rw [if_neg (Ne.symm h)]
 have hn : β'.hid id0 = fun _ => False := by show (if _ then _ else _) = _; rw [if_pos rfl]
 have ho : ∀ i, id0 ≠ i → β'.hid i = β.hid i := fun i h => by show (if _ then _ else _) = _; rw [if_neg (Ne.symm h)]
 refine ⟨β', hle, en, eo, ho, fun x hx => by rw [hn] at hx; exact hx, ?_⟩
 constructor
 ·exact r.imm
 ·exact r.ext
 ·exact r.mold
 ·exact r.frame
 ·exact r.size
 ·exact r.same
 ·exact r.tn
 ·exact r.df
 ·exact fun t => (r.env t).mono (Mem.le_refl _) hle
 ·intro id
  simp only [hget_put]
  by_cases h : id0 = id
  ·subst h; rw [if_pos rfl]
   show ObOk m β' w (β'.hid id0) (β' id0) ob
   rw [en, hn]; exact hok β' hle
  ·rw [if_neg h]
   show ObOk m β' w (β'.hid id) (β' id) _
   rw [eo id h, ho id h]
   exact ObOk.mono (Mem.le_refl _) hle (fun _ _ h => h) (fun _ _ => rfl) (r.own id)
 ·intro id b c hl hb
  simp only [hget_put] at hl
  by_cases h : id0 = id
  ·subst h
   rw [en] at hb
   simp only [Option.some.injEq] at hb
   exact ⟨(hblk b c hb).1, (hblk b c hb).2.1⟩
  ·rw [if_neg h] at hl
   rw [eo id h] at hb
   exact r.priv id b c hl hb
 ·intro id id' b c c' hl hl' hb hb'
  simp only [hget_put] at hl hl'
  by_cases h : id0 = id <;> by_cases h' : id0 = id'
  ·rw [← h, ← h']
  ·exfalso
   subst h
   rw [if_neg h'] at hl'
   rw [eo id' h'] at hb'
   rw [en] at hb
   simp only [Option.some.injEq] at hb
   exact (hblk b c hb).2.2.1 id' c' hl' hb'
  ·exfalso
   subst h'
   rw [if_neg h] at hl
   rw [eo id h] at hb
   rw [en] at hb'
   simp only [Option.some.injEq] at hb'
   exact (hblk b c' hb').2.2.1 id c hl hb
  ·rw [if_neg h] at hl
   rw [if_neg h'] at hl'
   rw [eo id h] at hb
   rw [eo id' h'] at hb'
   exact r.inj id id' b c c' hl hl' hb hb'
 ·intro id x hl hx
  simp only [hget_put] at hl
  by_cases h : id0 = id
  ·subst h; rw [hn] at hx; exact hx.elim
  ·rw [if_neg h] at hl
   rw [ho id h] at hx
   have q := r.hid id x hl hx
   refine ⟨q.lt, q.m, q.old, fun i b c hi hb => ?_, fun i hi hx' => ?_⟩
   ·simp only [hget_put] at hi
    by_cases h' : id0 = i
    ·subst h'
     rw [en] at hb
     simp only [Option.some.injEq] at hb
     intro e; subst e
     exact (hblk _ c hb).2.2.2 id hl hx
    ·rw [if_neg h'] at hi
     rw [eo i h'] at hb
     exact q.ne i b c hi hb
   ·simp only [hget_put] at hi
    by_cases h' : id0 = i
    ·subst h'; rw [hn] at hx'; exact hx'.elim
    ·rw [if_neg h'] at hi
     rw [ho i h'] at hx'
     exact q.un i hi hx'
 ·intro id hid
  have hid : nx' ≤ id := hid
  show β' id = none
  rw [eo id (by omega)]
  exact r.nx id (by omega)
 ·intro q hq
  obtain ⟨p1, p2⟩ := r.pin q hq
  exact ⟨Nat.lt_of_lt_of_le p1 hnn, by rw [eo q (Ne.symm (hpid q hq))]; exact p2⟩
def onlyC (fo : Nat) (v : V) (n : Nat) : List V := (List.range n).map fun i => if i = fo then v else .any
theorem onlyC_len {fo n : Nat} {v : V} : (onlyC fo v n).length = n := by simp [onlyC]
theorem onlyC_get {fo n j : Nat} {v c : V} (h : (onlyC fo v n)[j]? = some c) : j < n ∧ (j = fo ∧ c = v ∨ c = .any) := by
 have hj : j < n := by have := (List.getElem?_eq_some_iff.1 h).1; simpa [onlyC] using this
 refine ⟨hj, ?_⟩
 unfold onlyC at h
 rw [List.getElem?_map, List.getElem?_range hj] at h
 simp only [Option.map_some, Option.some.injEq] at h
 by_cases e : j = fo
 ·rw [if_pos e] at h; exact .inl ⟨e, h.symm⟩
 ·rw [if_neg e] at h; exact .inr h.symm
theorem aops_lendP {o : Oper} {d : Nat} {f : FuncId} {avs : List V} {k' e k e2 : Nat} {hp' : Heap} {row : List V} {rows : List (List V)} (nx fo j ln : Nat) (hw : Wants ops S o true) (hd : o.dst = some d) (hN : Nat.blt d K.N = true) (hg : Ghost K S S')
  (hrun : ∀ m β w a, Rel K m β w a S' → ∃ vs : Array Value, (execOp a.eval o).run K.P w = .ok (.enter f vs) w ∧ IRels m avs vs)
  (hc : MutG K.gl K.P f avs 0 [] (.ptr 0 k 0 0) k' hp') (h0 : hget hp' 0 = .arr e k [row]) (hj : hget hp' j = .arr e2 1 rows) (hj0 : j ≠ 0) (hfo : row[fo]? = some (.own j ln)) (hrl : row.length = k)
  (hrows : ∀ row, row ∈ rows → ∀ c, c ∈ row → ∃ v, c = .con v) (hnx : S.nx = nx)
  (kk : AOps K ops rest Q ⟨(d, .ptr (nx + 1) k 0 0) :: S.env, (nx + 1, .arr e k [onlyC fo (.own nx ln) k]) :: (nx, .arr e2 1 rows) :: S.hp, nx + 2⟩) : AOps K ops (o :: rest) Q S := by
 subst hnx
 intro m β w a r
 unfold wpList
 rw [if_pos (hw.at r)]
 left
 obtain ⟨m1, β1, r1⟩ := hg m β w a r
 obtain ⟨vs, h1, h2⟩ := hrun m1 β1 w a r1
 unfold Oper.wp
 rw [h1]
 refine (hc m1 ⟨fun _ => none, fun _ _ => False⟩ w vs r1.imm (K.glok.mono r1.ext) ⟨h2.len, fun i c v a b => .imm (h2.at' i c v a b)⟩ (fun id => ObOk.dead' _) (fun id b cap hl => absurd rfl hl) (fun id id' b c c' hl => absurd rfl hl) (fun id x hl => absurd rfl hl) (fun _ _ => rfl)).mono ?_
 rintro ex w' ⟨v, m', β', rfl, hv, A⟩
 simp only [hd]
 have hF : ∀ b, Foreign [] ⟨fun _ => none, fun _ _ => False⟩ b := fun b id hl => absurd rfl hl
 have hheap : ∀ b, b < w.heap.size → w'.heap[b]? = w.heap[b]? := fun b hb => (A.old b hb (hF b)).2
 have hgw : Grew m m w w' := ⟨Mem.le_refl _, fun b o h => by have := r.imm b o h; rw [hheap b (lt_of_some this)]; exact this, fun _ _ => rfl, hheap, A.size, A.same⟩
 have r2 := r.grow hgw
 have h0l : hget hp' 0 ≠ .dead := by rw [h0]; simp
 have hjl : hget hp' j ≠ .dead := by rw [hj]; simp
 have hown := A.own 0
 rw [h0] at hown
 have hownj := A.own j
 rw [hj] at hownj
 obtain ⟨b0, cap0, hb0, hv0⟩ := hv.ptr_inv
 rw [hb0] at hown
 obtain ⟨arr, bl, q1, q2, q3, q4, q5, _, q6⟩ := hown
 obtain ⟨u, p1, p2, p3⟩ := q6 0 fo row _ rfl hfo
 have p2v : VRel m' β' (.own j ln) u := p2.v rfl
 obtain ⟨loc, hloc⟩ : ∃ loc, β' j = some loc := by
  cases hb : β' j with
  | none => rw [hb] at hownj; simp [ObOk] at hownj
  | some loc => exact ⟨loc, rfl⟩
 have hbig : ∀ i b c, hget hp' i ≠ .dead → β' i = some (some (b, c)) → w.heap.size ≤ b := by
  intro i b c hl hb
  rcases Nat.lt_or_ge b w.heap.size with h | h
  ·exact absurd (hF b) ((A.priv i b c hl hb).2 h)
  ·exact h
 have hfresh : ∀ b, w.heap.size ≤ b → m b = none ∧ (b < K.w0.heap.size → ¬ K.old b) ∧ (∀ i c', hget S.hp i ≠ .dead → β i ≠ some (some (b, c'))) ∧ ∀ i, hget S.hp i ≠ .dead → ¬ β.hid i b := by
  intro b hb
  refine ⟨?_, fun hlt => ?_, fun i c' hl h => ?_, fun i hl h => ?_⟩
  ·cases hm : m b with
   | none => rfl
   | some o' => exact absurd (lt_of_some (r.imm b o' hm)) (by omega)
  ·have := r.size; omega
  ·exact absurd (live_lt hl h (r.own i)) (by omega)
  ·exact absurd (r.hid i b hl h).lt (by omega)
 obtain ⟨β2, hle, hβ2, heo, hho, hnh, r3⟩ := r2.adoptN S.nx (S.nx + 1) (r.nx _ (Nat.le_refl _)) (fun q hq => Nat.ne_of_lt (r.pin q hq).1) (Nat.lt_succ_self _) (Nat.le_succ _) loc (.arr e2 1 rows) (by
  intro b c hb
  exact hfresh b (hbig j b c hjl (by rw [hloc, hb]))) (by
  intro β'' _
  rw [hloc] at hownj
  match loc, hownj with
  | none, hownj => exact hownj
  | some (b, cap), hownj =>
   obtain ⟨arr, bl, q1, q2, q3, q4, q5, _, q6⟩ := hownj
   refine ⟨arr, fun _ _ => False, q1, q2, q3, q4, q5, bls_none, fun i j row c hr hc => ?_⟩
   obtain ⟨u, p1, p2, p3⟩ := q6 i j row c hr hc
   obtain ⟨x, rfl⟩ := hrows row (List.mem_of_getElem? hr) c (List.mem_of_getElem? hc)
   exact ⟨u, p1, .inl (by rw [(p2.v rfl).of_con]; exact .imm (.con _)), p3⟩)
 have hs1 : S.nx ≠ S.nx + 1 := by omega
 have hb0big := hbig 0 b0 cap0 h0l hb0
 obtain ⟨β3, hle3, hβ3, heo3, _, _, r4⟩ := r3.adoptN (S.nx + 1) (S.nx + 2) (by rw [heo _ hs1]; exact r.nx _ (Nat.le_succ _)) (fun q hq => by have := (r.pin q hq).1; omega) (Nat.lt_succ_self _) (Nat.le_succ _) (some (b0, cap0)) (.arr e k [onlyC fo (.own S.nx ln) k]) (by
  intro b c hb
  simp only [Option.some.injEq, Prod.mk.injEq] at hb
  obtain ⟨rfl, rfl⟩ := hb
  obtain ⟨f1, f2, f3, f4⟩ := hfresh _ hb0big
  refine ⟨f1, f2, fun i c' hl h => ?_, fun i hl h => ?_⟩
  ·by_cases e : S.nx = i
   ·subst e
    rw [hβ2] at h
    exact hj0 (A.inj j 0 _ c' _ hjl h0l (by rw [hloc]; exact h) hb0)
   ·rw [heo i e] at h
    simp only [hget_put] at hl
    rw [if_neg e] at hl
    exact f3 i c' hl h
  ·by_cases e : S.nx = i
   ·subst e
    exact hnh _ h
   ·rw [hho i e] at h
    simp only [hget_put] at hl
    rw [if_neg e] at hl
    exact f4 i hl h) (by
  intro β'' hle4
  refine ⟨arr, fun _ _ => False, q1, q2, by simpa using q3, q4, fun row hr => ?_, bls_none, fun i jj row' c hr hc => ?_⟩
  ·simp only [List.mem_singleton] at hr; subst hr; exact onlyC_len
  ·have hi : i = 0 := by have := (List.getElem?_eq_some_iff.1 hr).1; simpa using this
   subst hi
   simp only [List.getElem?_cons_zero, Option.some.injEq] at hr
   subst hr
   obtain ⟨hjk, hcase⟩ := onlyC_get hc
   have hjr : jj < row.length := by rw [hrl]; exact hjk
   obtain ⟨u', p1', p2', p3'⟩ := q6 0 jj row _ rfl (List.getElem?_eq_getElem hjr)
   rcases hcase with ⟨rfl, rfl⟩ | rfl
   ·have hu : u' = u := by rw [p1] at p1'; exact (Option.some.inj p1').symm
    subst hu
    refine ⟨u', p1', .inl ?_, p3'⟩
    have hx : β'' S.nx = β' j := by rw [hloc]; exact hle4 _ _ hβ2
    cases p2v with
    | imm h => cases h
    | ownNil h => exact .ownNil (by rw [hx]; exact h)
    | own h => exact .own (by rw [hx]; exact h)
   ·exact ⟨u', p1', .inl (.imm (.any _)), p3'⟩)
 refine kk m β3 w' _ (r4.put hN ?_)
 rw [hv0]
 exact .ptr hβ3
theorem aops_lendP_call {d : Nat} {f : FuncId} {args : Array Operand} {at' : Array TypeId} {k' e k e2 : Nat} {hp' hpS : Heap} {row : List V} {rows : List (List V)} {env : Env} (avs : List V) (nx fo j ln : Nat) (row' : List V) (hrw : onlyC fo (.own nx ln) k = row') (hf : fnOk K.P f = true) (hg : Ghost K ⟨env, hpS, nx⟩ S')
  (hw : Wants ops ⟨env, hpS, nx⟩ ⟨some d, .call ⟨.value (.func f), args, at'⟩, ty, pos, after, g⟩ true)
  (ha : args.toList.map (evl K S') = avs) (hi : Imms avs) (hc : MutG K.gl K.P f avs 0 [] (.ptr 0 k 0 0) k' hp') (h0 : hget hp' 0 = .arr e k [row]) (hj : hget hp' j = .arr e2 1 rows) (hj0 : Nat.beq j 0 = false) (hfo : row[fo]? = some (.own j ln)) (hrl : row.length = k)
  (hrows : ∀ row, row ∈ rows → ∀ c, c ∈ row → ∃ v, c = .con v) (hN : Nat.blt d K.N = true)
  (kk : AOps K ops rest Q ⟨(d, .ptr (nx + 1) k 0 0) :: env, (nx + 1, .arr e k [row']) :: (nx, .arr e2 1 rows) :: hpS, nx + 2⟩) :
  AOps K ops (⟨some d, .call ⟨.value (.func f), args, at'⟩, ty, pos, after, g⟩ :: rest) Q ⟨env, hpS, nx⟩ :=
 aops_lendP nx fo j ln hw rfl hN hg (call_run hf ha hi) hc h0 hj (fun e => by subst e; simp at hj0) hfo hrl hrows rfl (by rw [hrw]; exact kk)
end
def sm {α β γ : Type} (y : α ⊕ β) (f : α → γ) (g : β → γ) : γ := match y with | .inl z => f z | .inr z => g z
theorem smB {α β γ : Type} {e : Option (α ⊕ β)} {f : α → Option γ} {g : β → Option γ} {r : γ} {G : Prop} (h : (e.bind fun y => sm y f g) = some r)
  (h1 : ∀ z, e = some (.inl z) → f z = some r → G) (h2 : ∀ z, e = some (.inr z) → g z = some r → G) : G := by
 cases e with
 | none => simp at h
 | some y =>
  cases y with
  | inl z => exact h1 z rfl h
  | inr z => exact h2 z rfl h
end Go.Pv
