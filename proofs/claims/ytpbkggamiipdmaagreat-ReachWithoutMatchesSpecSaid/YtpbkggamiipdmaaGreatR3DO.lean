/- Part of the proof: DO. -/
import Derived.Test.YtpbkggamiipdmaaGreatR3DN
import Derived.Test.YtpbkggamiipdmaaGreatR3WA
import Derived.Test.YtpbkggamiipdmaaGreatR3PvZ
namespace Go.Pv
open Go
section
variable {K : Ctx} {Q : Post} {S : St}
variable {m : Mem} {β : Locs} {w : World} {a : Act}
variable {ops : Array Oper} {rest : List Oper} {ty : TypeId} {pos : String} {after : Array Edge} {g : Option (Nat × Bool)}
theorem ghost_freezeMD (id : Nat) {es : List (Value × V)} (es' : List (Value × V)) (env : Env) (hp : Heap) (ho : hget S.hp id = .map es) (hl : es.length = es'.length)
    (hk : ∀ (i : Nat) (p p' : Value × V), es[i]? = some p → es'[i]? = some p' → p.1 = p'.1 ∧ Und p.2 p'.2 ∧ Keep p.2)
    (henv : ∀ t, Sub (FrzM id es') (get env t) (get S.env t)) (hhp : ∀ i, ObSub (FrzM id es') (hget hp i) (hget S.hp i)) (hd : hget hp id = .dead) : Ghost K S ⟨env, hp, S.nx⟩ := by
  intro m β w a r
  have hlid : hget S.hp id ≠ .dead := by rw [ho]; simp
  obtain ⟨b, cap, hb⟩ := map_loc r ho
  have hown := r.own id
  rw [ho, hb] at hown
  obtain ⟨ents, clock, bl, h1, h2, hBl, h6⟩ := hown
  have hp' := r.priv id b cap hlid hb
  have key : ∃ m', (∀ b o, m' b = some o → w.heap[b]? = some o) ∧ FrzM id es' m β m' β ∧ (∀ b', m' b' = m b' ∨ (∃ cap, β id = some (some (b', cap))) ∨ β.hid id b') := by
    classical
    let m' : Mem := fun b' => if b' = b ∨ β.hid id b' then w.heap[b']? else m b'
    have hmb : ∀ x, (x = b ∨ β.hid id x) → m' x = w.heap[x]? := fun x h => by simp only [m']; rw [if_pos h]
    have hmo : ∀ x, ¬ (x = b ∨ β.hid id x) → m' x = m x := fun x h => by simp only [m']; rw [if_neg h]
    have hle : m.le m' := by
      intro b' o h
      rw [hmo]
      · exact h
      · rintro (e' | e')
        · subst e'; rw [hp'.1] at h; simp at h
        · rw [(r.hid id b' hlid e').m] at h; simp at h
    refine ⟨m', ?_, ⟨hle, rfl, ?_⟩, ?_⟩
    · intro b' o h
      by_cases hbb : b' = b ∨ β.hid id b'
      · rw [hmb b' hbb] at h; exact h
      · rw [hmo b' hbb] at h; exact r.imm _ _ h
    · intro x hx
      cases hx with
      | imm h => cases h
      | @map _ b2 cap2 h =>
        rw [hb] at h
        simp only [Option.some.injEq, Prod.mk.injEq] at h
        obtain ⟨rfl, rfl⟩ := h
        refine .imap (by rw [hmb b (.inl rfl), h1]) (by omega) (fun i p e hi he => ?_) (fun i p e hi he => ?_)
        · have hlt : i < es.length := by rw [hl]; exact (List.getElem?_eq_some_iff.1 hi).1
          rw [(h6 i _ e (List.getElem?_eq_getElem hlt) he).1]
          exact (hk i _ p (List.getElem?_eq_getElem hlt) hi).1
        · have hlt : i < es.length := by rw [hl]; exact (List.getElem?_eq_some_iff.1 hi).1
          obtain ⟨u1, u2, u3⟩ := hk i _ p (List.getElem?_eq_getElem hlt) hi
          have hd : DRel m w (bl i) es[i].2 e.val := (h6 i _ e (List.getElem?_eq_getElem hlt) he).2.elim (fun h => .imm (u3 _ _ _ h)) (fun h => h)
          exact hd.und hle p.2 u2 (fun x hx => hmb x (.inr (hBl.1 _ x hx)))
    · intro b'
      by_cases hbb : b' = b ∨ β.hid id b'
      · rcases hbb with h | h
        · exact .inr (.inl ⟨cap, by rw [h]; exact hb⟩)
        · exact .inr (.inr h)
      · exact .inl (hmo b' hbb)
  obtain ⟨m', k1, hy, k2⟩ := key
  have hlive : ∀ i, hget hp i ≠ .dead → hget S.hp i ≠ .dead ∧ i ≠ id := by
    intro i h
    have h2 := hhp i
    refine ⟨fun hdd => ?_, fun he => h (by rw [he]; exact hd)⟩
    rw [hdd] at h2
    cases ho' : hget hp i with
    | dead => exact h ho'
    | arr => rw [ho'] at h2; simp [ObSub] at h2
    | res => rw [ho'] at h2; simp [ObSub] at h2
    | map => rw [ho'] at h2; simp [ObSub] at h2
  refine ⟨m', β, ?_⟩
  constructor
  · exact k1
  · exact Mem.le_trans r.ext hy.1
  · intro b hb' hold
    rcases k2 b with h | ⟨cap2, h⟩ | h
    · rw [h]; exact r.mold b hb' hold
    · exact absurd hold ((r.priv id b _ hlid h).2 hb')
    · exact absurd hold ((r.hid id b hlid h).old hb')
  · exact r.frame
  · exact r.size
  · exact r.same
  · exact r.tn
  · exact r.df
  · exact fun t => henv t _ _ _ _ _ hy (r.env t)
  · intro i
    exact (hhp i).ok hy (r.own i)
  · intro i b cap hl hb'
    obtain ⟨h1, h2⟩ := hlive i hl
    have hp' := r.priv i b cap h1 hb'
    refine ⟨?_, hp'.2⟩
    rcases k2 b with h | ⟨cap', h⟩ | h
    · rw [h]; exact hp'.1
    · exact absurd (r.inj i id b cap cap' h1 hlid hb' h) h2
    · exact absurd rfl ((r.hid id b hlid h).ne i b cap h1 hb')
  · intro i i' b cap cap' hl hl'
    exact r.inj i i' b cap cap' (hlive i hl).1 (hlive i' hl').1
  · intro i x hl hx
    obtain ⟨h1, h2⟩ := hlive i hl
    have h := r.hid i x h1 hx
    refine ⟨h.lt, ?_, h.old, fun i' b c hi' => h.ne i' b c (hlive i' hi').1, fun i' hi' => h.un i' (hlive i' hi').1⟩
    rcases k2 x with h' | ⟨cap', h'⟩ | h'
    · rw [h']; exact h.m
    · exact absurd rfl (h.ne id x cap' hlid h')
    · exact absurd (h.un id hlid h') (Ne.symm h2)
  · exact r.nx
  · exact r.pin
/-- The value by a key is taken out of a map, to be put back there: of a map without the key an empty slice. -/
theorem aops_lookup_takeG (id0 nx' : Nat) (hfr : ∀ m β w a, Rel K m β w a S → β id0 = none ∧ ∀ q, q < K.pins → q ≠ id0) (hlt0 : id0 < nx') (hle0 : S.nx ≤ nx') {d : Nat} {T k e e' k' id : Nat} {x y : Operand} {good : Value → Prop} {kv : Value} {es es' : List (Value × V)} {rws : List (List V)} (hT : tyMap K.P T k e = true) (hK : KeyT K.P k good)
    (hz : (K.P.info? e).bind (·.zero) = some (.slice none 0 0))
    (hw : Wants ops S ⟨some d, .lookup T x y false, ty, pos, after, g⟩ true) (hx : evl K S x = .map id) (ho : hget S.hp id = .map es) (hy : KeyIs K S y kv) (hg : good kv) (hges : ∀ p, p ∈ es → good p.1)
    (hl : LookT kv id0 e' k' es es' rws) (hN : Nat.blt d K.N = true)
    (kk : AOps K ops rest Q ⟨(d, .own id0 rws.length) :: S.env, (id, .map es') :: (id0, .arr e' k' rws) :: S.hp, nx'⟩) : AOps K ops (⟨some d, .lookup T x y false, ty, pos, after, g⟩ :: rest) Q S := by
  refine aops_runs hw (fun m β w a r => ?_) kk
  have h := r.reads x
  rw [hx] at h
  obtain ⟨b, ents, clock, e1, e2, e3, e4⟩ := (MapIs.own ho).read r h
  have hobj : (getObj b).run K.P w = .ok (.map ents clock) w := by simp [getObj, Sem.run, e2]
  have hzr : (zeroValue e).run K.P w = .ok (.slice none 0 0) w := by
    cases hi : K.P.info? e with
    | none => simp [hi] at hz
    | some i =>
      simp [hi] at hz
      simp only [zeroValue, Sem.run_bind, run_typeInfo w hi, Result.andThen_ok, hz]; rfl
  have hbloc := map_loc r ho
  have hidn : id ≠ id0 := fun h => by obtain ⟨b, cap, hb⟩ := hbloc; rw [h, (hfr m β w a r).1] at hb; simp at hb
  have hswap : ∀ (m' : Mem) (β' : Locs) (o1 o2 : Ob) (n : Nat), Rel K m' β' w a ⟨S.env, (id0, o2) :: (id, o1) :: S.hp, n⟩ → Rel K m' β' w a ⟨S.env, (id, o1) :: (id0, o2) :: S.hp, n⟩ := by
    intro m' β' o1 o2 n rr
    refine rr.congr (fun _ => rfl) (fun t => ?_) rfl
    show hget ((id, o1) :: (id0, o2) :: S.hp) t = hget ((id0, o2) :: (id, o1) :: S.hp) t
    rw [hget_put, hget_put, hget_put, hget_put]
    by_cases h1 : id = t <;> by_cases h2 : id0 = t
    · exact absurd (h1.trans h2.symm) hidn
    · rw [if_pos h1, if_neg h2, if_pos h1]
    · rw [if_neg h1, if_pos h2, if_pos h2]
    · rw [if_neg h1, if_neg h2, if_neg h2, if_neg h1]
  rcases hl.cases with ⟨h1, h2, h3⟩ | ⟨i, h1, h2, h3⟩
  · subst h1 h2
    rcases found hK hg e3 (fun i p e a b => (e4 i p e a b).1) hges (w := w) with ⟨a1, a2⟩ | ⟨j, p, en, a1, a2, a3, a4, a5⟩
    · obtain ⟨β', hle, hβ, r3⟩ := r.adopt id0 nx' (hfr m β w a r).1 (hfr m β w a r).2 hlt0 hle0 none (.arr e' k' []) (fun b c hb => by simp at hb) (fun _ _ => rfl)
      have r4 : Rel K m β' w a ⟨S.env, (id, .map es') :: (id0, .arr e' k' []) :: S.hp, nx'⟩ := by
        refine r3.congr (fun _ => rfl) (fun t => ?_) rfl
        show hget ((id, .map es') :: (id0, .arr e' k' []) :: S.hp) t = hget ((id0, .arr e' k' []) :: S.hp) t
        rw [hget_put]
        split
        · rename_i h; subst h; rw [hget_put, if_neg (Ne.symm hidn), ho]
        · rfl
      refine ⟨_, w, m, β', .inl ?_, r4.put hN (.ownNil (ad := none) hβ)⟩
      simp only [execOp, e1, hy.read r]
      refine run_value ?_
      simp only [Instr.lookup, Sem.run_bind, run_underlying (tyMap_inv hT), Result.andThen_ok, hobj, pure, Sem.run, hK.check _ w kv hg, a1, hzr]
      rfl
    · exact absurd a4 (h3 p (List.mem_of_getElem? a3))
  · obtain ⟨m', β', r2⟩ := r.takeM id i id0 nx' (hfr m β w a r).1 (hfr m β w a r).2 hlt0 hle0 ho h1 (show ovl (.dsl e' k' rws) id0 = _ from rfl)
    rw [← h2] at r2
    have hx2 : VRel m' β' (.map id) (a.eval x) := by
      have := (r2.reads x)
      exact (show evl K ⟨S.env, (id, .map es') :: (id0, .arr e' k' rws) :: S.hp, nx'⟩ x = .map id by cases x <;> exact hx) ▸ this
    obtain ⟨b2, ents2, clock2, f1, f2, f3, f4⟩ := (MapIs.own (S := ⟨S.env, (id, .map es') :: (id0, .arr e' k' rws) :: S.hp, nx'⟩) (id := id) (es := es') (by simp [hget_put])).read r2 hx2
    have hges' : ∀ p, p ∈ es' → good p.1 := by
      intro p hp
      rw [h2] at hp
      rcases List.mem_or_eq_of_mem_set hp with h | h
      · exact hges p h
      · rw [h]; exact hg
    have hobj2 : (getObj b2).run K.P w = .ok (.map ents2 clock2) w := by simp [getObj, Sem.run, f2]
    rcases found hK hg f3 (fun i p e a b => (f4 i p e a b).1) hges' (w := w) with ⟨a1, a2⟩ | ⟨j, p, en, a1, a2, a3, a4, a5⟩
    · have := h3.none_of a2; simp at this
    · have hp : p = (kv, p.2) := by rw [← a4]
      rw [hp] at a3
      have hr := h3.some_of j p.2 a3 a5
      simp only [Option.some.injEq] at hr
      refine ⟨en.val, w, m', β', .inl ?_, r2.put hN ?_⟩
      · simp only [execOp, f1, hy.read r]
        refine run_value ?_
        simp only [Instr.lookup, Sem.run_bind, run_underlying (tyMap_inv hT), Result.andThen_ok, hobj2, pure, Sem.run, hK.check _ w kv hg, a1]
        rfl
      · rw [hr]; exact (f4 j _ en a3 a2).2 (by rw [← hr]; rfl)
/-- The value by a key that is there is another one now. -/
inductive LookD (x : Value) (d o : V) : List (Value × V) → List (Value × V) → Prop
  | here {es : List (Value × V)} : LookD x d o ((x, d) :: es) ((x, o) :: es)
  | there {q : Value} {v : V} {es es' : List (Value × V)} (h : q ≠ x) (h' : LookD x d o es es') : LookD x d o ((q, v) :: es) ((q, v) :: es')
theorem LookD.at {x : Value} {d o : V} {es es' : List (Value × V)} (h : LookD x d o es es') : ∃ i, es[i]? = some (x, d) ∧ es' = es.set i (x, o) ∧ Look x es' (some o) := by
  induction h with
  | here => exact ⟨0, rfl, rfl, .here⟩
  | @there q v es es' h h' ih =>
    obtain ⟨i, h1, h2, h3⟩ := ih
    exact ⟨i + 1, by simpa using h1, by rw [h2]; rfl, .there h h3⟩
/-- The value by a key that is there is taken out of a map, to be put back there. -/
theorem aops_lookup_takeP (id0 nx' : Nat) (hfr : ∀ m β w a, Rel K m β w a S → β id0 = none ∧ ∀ q, q < K.pins → q ≠ id0) (hlt0 : id0 < nx') (hle0 : S.nx ≤ nx') {d : Nat} {T k e id : Nat} {x y : Operand} {good : Value → Prop} {kv : Value} {es es' : List (Value × V)} {dv o : V} {ob : Ob} (hT : tyMap K.P T k e = true) (hK : KeyT K.P k good)
    (hw : Wants ops S ⟨some d, .lookup T x y false, ty, pos, after, g⟩ true) (hx : evl K S x = .map id) (ho : hget S.hp id = .map es) (hy : KeyIs K S y kv) (hg : good kv) (hges : ∀ p, p ∈ es → good p.1)
    (hov : ovl dv id0 = some (o, ob)) (hl : LookD kv dv o es es') (hN : Nat.blt d K.N = true)
    (kk : AOps K ops rest Q ⟨(d, o) :: S.env, (id, .map es') :: (id0, ob) :: S.hp, nx'⟩) : AOps K ops (⟨some d, .lookup T x y false, ty, pos, after, g⟩ :: rest) Q S := by
  refine aops_runs hw (fun m β w a r => ?_) kk
  obtain ⟨i, h1, h2, h3⟩ := hl.at
  obtain ⟨m', β', r2⟩ := r.takeM id i id0 nx' (hfr m β w a r).1 (hfr m β w a r).2 hlt0 hle0 ho h1 hov
  rw [← h2] at r2
  have hx2 : VRel m' β' (.map id) (a.eval x) := by
    have := (r2.reads x)
    exact (show evl K ⟨S.env, (id, .map es') :: (id0, ob) :: S.hp, nx'⟩ x = .map id by cases x <;> exact hx) ▸ this
  obtain ⟨b2, ents2, clock2, f1, f2, f3, f4⟩ := (MapIs.own (S := ⟨S.env, (id, .map es') :: (id0, ob) :: S.hp, nx'⟩) (id := id) (es := es') (by simp [hget_put])).read r2 hx2
  have hges' : ∀ p, p ∈ es' → good p.1 := by
    intro p hp
    rw [h2] at hp
    rcases List.mem_or_eq_of_mem_set hp with h | h
    · exact hges p h
    · rw [h]; exact hg
  have hobj2 : (getObj b2).run K.P w = .ok (.map ents2 clock2) w := by simp [getObj, Sem.run, f2]
  rcases found hK hg f3 (fun i p e a b => (f4 i p e a b).1) hges' (w := w) with ⟨a1, a2⟩ | ⟨j, p, en, a1, a2, a3, a4, a5⟩
  · have := h3.none_of a2; simp at this
  · have hp : p = (kv, p.2) := by rw [← a4]
    rw [hp] at a3
    have hr := h3.some_of j p.2 a3 a5
    simp only [Option.some.injEq] at hr
    refine ⟨en.val, w, m', β', .inl ?_, r2.put hN ?_⟩
    · simp only [execOp, f1, hy.read r]
      refine run_value ?_
      simp only [Instr.lookup, Sem.run_bind, run_underlying (tyMap_inv hT), Result.andThen_ok, hobj2, pure, Sem.run, hK.check _ w kv hg, a1]
      rfl
    · rw [hr]; exact (f4 j _ en a3 a2).2 (by rw [← hr]; exact (ovl_live hov).2.1)
/-- An object is put into a map; from there on the entry alone leads to it. -/
theorem aops_mapUpdate_deepG {T k e id2 : Nat} {x y z : Operand} {good : Value → Prop} {kv : Value} {id : Nat} {es : List (Value × V)} {dv o : V} {ob : Ob} (es3 : List (Value × V)) (hT : tyMap K.P T k e = true) (hK : KeyT K.P k good)
    (hw : Wants ops S ⟨none, .mapUpdate T x y z, ty, pos, after, g⟩ true) (hx : evl K S x = .map id) (ho : hget S.hp id = .map es) (hy : KeyIs K S y kv) (hg : good kv) (hges : ∀ p, p ∈ es → good p.1) (hz : evl K S z = o)
    (hov : ovl dv id2 = some (o, ob)) (ho2 : hget S.hp id2 = ob) (hne : Nat.beq id id2 = false) (hkp : OKeep ob)
    (hp : Puts kv dv es es3) (kk : AOps K ops rest Q ⟨S.env, (id, .map es3) :: (id2, .dead) :: S.hp, S.nx⟩) : AOps K ops (⟨none, .mapUpdate T x y z, ty, pos, after, g⟩ :: rest) Q S := by
  obtain ⟨es2, i, h1, h2, h3⟩ := hp.other o
  have hne : id ≠ id2 := fun h => by rw [h, Nat.beq_refl] at hne; simp at hne
  refine aops_mapUpdate es2 hT hK hw hx ho hy hg hges hz h1 (aops_ghost (S' := ⟨S.env, (id, .map (es2.set i (kv, dv))) :: (id2, .dead) :: (id, .map es2) :: S.hp, S.nx⟩) (ghost_untakeMG id i id2 (S := ⟨S.env, (id, .map es2) :: S.hp, S.nx⟩) (by simp [hget_put]) h2 hov (by rw [hget_put, if_neg hne]; exact ho2) hne hkp) ?_)
  rw [← h3]
  refine aops_ghost (ghost_congr (S' := ⟨S.env, (id, .map es3) :: (id2, .dead) :: S.hp, S.nx⟩) (fun _ => rfl) (fun t => ?_) rfl) kk
  simp only [hget_put]
  split
  · rfl
  · split
    · rfl
    · rfl
theorem ghost_frzDMC (id id2 : Nat) {es : List (Value × V)} (es' : List (Value × V)) (ob : Ob) (ho : hget S.hp id = .map es) (hl : es.length = es'.length)
    (hk : ∀ (i : Nat) (p p' : Value × V), es[i]? = some p → es'[i]? = some p' → p.1 = p'.1 ∧ Und p.2 p'.2 ∧ Keep p.2) (hob : ObSub (FrzM id es') ob (hget S.hp id2)) :
    Ghost K S ⟨S.env, (id, .dead) :: (id2, ob) :: S.hp, S.nx⟩ :=
  ghost_freezeMD id es' _ _ ho hl hk (fun _ => Sub.keepM) (fun i => by
    rw [hget_put]
    split
    · trivial
    · rw [hget_put]
      split
      · rename_i h; subst h; exact hob
      · exact ObSub.keep (fun _ => Sub.keepM) _) (by simp [hget_put])
end
variable {κ α β γ : Type} [DecidableEq κ]
theorem und_rows {e k : Nat} {enc : α → List V} (hi : ∀ x, Imms (enc x)) (l : List α) : Und (.dsl e k (l.map enc)) (.lst k (l.map enc)) :=
  .sl rfl (fun i r r' h h' => by rw [h] at h'; simp at h'; rw [h']) (fun i j r r' c c' h h' hj hj' => by
    rw [h] at h'; simp at h'; subst h'
    rw [hj] at hj'; simp at hj'; subst hj'
    rw [List.getElem?_map, Option.map_eq_some_iff] at h
    obtain ⟨x, _, rfl⟩ := h
    exact .imm (hi x c (List.mem_of_getElem? hj)).1)
theorem und_ents {E : γ × α → Value × V} (hi : ∀ p, Imm (E p).2) (l : List (γ × α)) : Und (.dmp (l.map E)) (.imap (l.map E)) :=
  .mp rfl (fun i r r' h h' => by rw [h] at h'; simp at h'; rw [h']) (fun i r r' h h' => by
    rw [h] at h'; simp at h'; subst h'
    rw [List.getElem?_map, Option.map_eq_some_iff] at h
    obtain ⟨x, _, rfl⟩ := h
    exact .imm (hi x).1)
theorem und_map {τ : Type} {D E : τ → Value × V} (h : ∀ x, (D x).1 = (E x).1 ∧ Und (D x).2 (E x).2 ∧ Keep (D x).2) (l : List τ) (i : Nat) (p p' : Value × V) (hp : (l.map D)[i]? = some p) (hp' : (l.map E)[i]? = some p') : p.1 = p'.1 ∧ Und p.2 p'.2 ∧ Keep p.2 := by
  rw [List.getElem?_map, Option.map_eq_some_iff] at hp hp'
  obtain ⟨x, h1, rfl⟩ := hp
  obtain ⟨y, h2, rfl⟩ := hp'
  rw [h1] at h2; simp at h2; subst h2
  exact h x
theorem okeep_rows {e k : Nat} {enc : α → List V} (hi : ∀ x, Imms (enc x)) (l : List α) : OKeep (.arr e k (l.map enc)) := fun r hr => by
  obtain ⟨x, _, rfl⟩ := List.mem_map.1 hr; exact (hi x).keep
theorem okeep_ents {τ : Type} {E : τ → Value × V} (hi : ∀ p, Imm (E p).2) (l : List τ) : OKeep (.map (l.map E)) := fun r hr => by
  obtain ⟨x, _, rfl⟩ := List.mem_map.1 hr; exact (hi x).2
/-- Entries in which the value by a key is a map that is an object, for a time. -/
def holeN (E : κ × β → Value × V) (nx : Nat) (k0 : κ) : List (κ × β) → List (Value × V)
  | [] => []
  | p :: xs => if p.1 = k0 then ((E p).1, .map nx) :: xs.map E else E p :: holeN E nx k0 xs
theorem lookD_enc (E : κ × List (γ × α) → Value × V) (kf : κ → Value) (enc : γ × α → Value × V) (nx : Nat) (hE : ∀ p, E p = (kf p.1, .dmp (p.2.map enc))) (hk : ∀ a b, kf a = kf b → a = b) (k0 : κ) :
    ∀ xs : List (κ × List (γ × α)), (mget xs k0).isSome = true → LookD (kf k0) (.dmp (((mget xs k0).getD []).map enc)) (.map nx) (xs.map E) (holeN E nx k0 xs)
  | [], h => by simp [mget] at h
  | p :: xs, h => by
    obtain ⟨q, l⟩ := p
    simp only [mget] at h
    simp only [List.map_cons, holeN, mget, hE]
    by_cases hq : q = k0
    · subst hq
      simp only [if_pos, Option.getD_some]
      exact .here
    · rw [if_neg hq] at h
      rw [if_neg hq, if_neg hq]
      exact .there (fun e => hq (hk _ _ e)) (lookD_enc E kf enc nx hE hk k0 xs h)
theorem holeN_at (E : κ × List (γ × α) → Value × V) (kf : κ → Value) (enc : γ × α → Value × V) (nx : Nat) (hE : ∀ p, E p = (kf p.1, .dmp (p.2.map enc))) (k0 : κ) (l' : List (γ × α)) :
    ∀ xs : List (κ × List (γ × α)), (mget xs k0).isSome = true → ∃ i, (holeN E nx k0 xs)[i]? = some (kf k0, .map nx) ∧ (mput xs k0 l').map E = (holeN E nx k0 xs).set i (kf k0, .dmp (l'.map enc))
  | [], h => by simp [mget] at h
  | p :: xs, h => by
    obtain ⟨q, l⟩ := p
    simp only [mget] at h
    simp only [holeN, mput]
    by_cases hq : q = k0
    · subst hq
      refine ⟨0, ?_, ?_⟩ <;> simp [hE]
    · rw [if_neg hq] at h
      rw [if_neg hq, if_neg hq]
      obtain ⟨i, h1, h2⟩ := holeN_at E kf enc nx hE k0 l' xs h
      exact ⟨i + 1, by simpa using h1, by rw [List.map_cons, h2]; rfl⟩
theorem puts_new (E : κ × List (γ × α) → Value × V) (kf : κ → Value) (enc : γ × α → Value × V) (hE : ∀ p, E p = (kf p.1, .dmp (p.2.map enc))) (hk : ∀ a b, kf a = kf b → a = b) (k0 : κ) (l' : List (γ × α)) :
    ∀ xs : List (κ × List (γ × α)), Puts (kf k0) (.dmp (l'.map enc)) (xs.map E) ((mput xs k0 l').map E)
  | [] => by simp only [mput, List.map_cons, List.map_nil, hE]; exact .nil
  | p :: xs => by
    obtain ⟨q, l⟩ := p
    simp only [mput]
    by_cases h : q = k0
    · subst h
      simp only [if_pos, hE, List.map_cons]; exact .here
    · rw [if_neg h]
      simp only [hE, List.map_cons]
      exact .there (fun e => h (hk _ _ e)) (by have := puts_new E kf enc hE hk k0 l' xs; simpa only [hE] using this)
section
variable {K : Ctx} {Q : Post} {S : St}
theorem ghost_putN (id id2 : Nat) {xs : List (κ × List (γ × α))} {l' : List (γ × α)} {k0 : κ} (E : κ × List (γ × α) → Value × V) (kf : κ → Value) (enc : γ × α → Value × V) (hE : ∀ p, E p = (kf p.1, .dmp (p.2.map enc)))
    (hs : (mget xs k0).isSome = true) (ho : hget S.hp id = .map (holeN E id2 k0 xs)) (ho2 : hget S.hp id2 = .map (l'.map enc)) (hne : Nat.beq id id2 = false) (hi : ∀ p, Imm (enc p).2) :
    Ghost K S ⟨S.env, (id, .map ((mput xs k0 l').map E)) :: (id2, .dead) :: S.hp, S.nx⟩ := by
  obtain ⟨i, h1, h2⟩ := holeN_at E kf enc id2 hE k0 l' xs hs
  rw [h2]
  exact ghost_untakeMG id i id2 ho h1 (show ovl (.dmp (l'.map enc)) id2 = _ from rfl) ho2 (fun h => by rw [h, Nat.beq_refl] at hne; simp at hne) (okeep_ents hi l')
end
def optr {τ : Type} (enc : τ → List V) : Option τ → V
  | none => .con (.pointer none)
  | some x => .iptr (enc x) 0
section
variable {K : Ctx} {Q : Post} {S : St} {s : List It}
variable {ops : Array Oper} {l : List Oper}
/-- A pointer that is not nil. -/
theorem ghost_optr {τ : Type} {enc : τ → List V} {o : Option τ} {x : τ} (t : Nat) (h : o = some x) (ht : get S.env t = optr enc o) : Ghost K S ⟨(t, .iptr (enc x) 0) :: S.env, S.hp, S.nx⟩ := by
  subst h
  refine Ghost.env (S := S) (fun q => ?_)
  show (bif Nat.beq t q then V.iptr (enc x) 0 else get S.env q) = get S.env q
  cases hq : Nat.beq t q
  · rfl
  · have := Nat.eq_of_beq_eq_true hq
    subst this
    exact ht.symm
theorem opC {τ : Type} {enc : τ → List V} {o : Option τ} {x : τ} (t : Nat) (h : o = some x) (ht : gtC S.env t = some (optr enc o)) {c : Code} (k : WG K Q (.c c :: s) ⟨(t, .iptr (enc x) 0) :: S.env, S.hp, S.nx⟩) : WG K Q (.c c :: s) S :=
  wg_cl (.inl ⟨_, rfl⟩) (ghost_optr t h (gtC_ok ht)) k
theorem getD_mapT {τ : Type} {f : τ → V} {o : Option τ} {z : V} {y : τ} (h : o.isSome = true) : (o.map f).getD z = f (o.getD y) := by cases o <;> simp at h ⊢
theorem getD_mapF {τ : Type} {f : τ → V} {o : Option τ} {z : V} (h : o.isSome = false) : (o.map f).getD z = z := by cases o <;> simp at h ⊢
theorem isSomeT {τ : Type} {f : τ → V} {o : Option τ} {b : Bool} (h : o.isSome = b) : (o.map f).isSome = b := by cases o <;> simpa using h
end
theorem good_holeM {E : κ × List α → Value × V} {good : Value → Prop} (h : ∀ p, good (E p).1) {nx : Nat} {k0 : κ} : ∀ {xs : List (κ × List α)} (q : Value × V), q ∈ holeM E nx k0 xs → good q.1
  | [], q, hq => by simp [holeM] at hq
  | p :: xs, q, hq => by
    simp only [holeM] at hq
    split at hq
    · rcases List.mem_cons.1 hq with rfl | hq
      · exact h p
      · obtain ⟨x, _, rfl⟩ := List.mem_map.1 hq; exact h x
    · rcases List.mem_cons.1 hq with rfl | hq
      · exact h p
      · exact good_holeM h q hq
section
variable {K : Ctx} {Q : Post} {S : St}
variable {ops : Array Oper} {rest : List Oper} {ty : TypeId} {pos : String} {after : Array Edge} {g : Option (Nat × Bool)}
theorem free_nx : ∀ m β w a, Rel K m β w a S → β S.nx = none ∧ ∀ q, q < K.pins → q ≠ S.nx := fun _ _ _ _ r => ⟨r.nx _ (Nat.le_refl _), fun q hq => Nat.ne_of_lt (r.pin q hq).1⟩
theorem aops_lookup_tk_at {d nx : Nat} {T k e e' k' id n : Nat} {x y : Operand} {good : Value → Prop} {kv : Value} {es es' : List (Value × V)} {rws : List (List V)} (idn : Nat) (hid : (Nat.blt idn nx && Nat.ble K.pins idn) = true) (hnxx : S.nx = nx) (hres : hget S.hp idn = .res) (hT : tyMap K.P T k e = true) (hK : KeyT K.P k good)
    (hz : (K.P.info? e).bind (·.zero) = some (.slice none 0 0))
    (hw : Wants ops S ⟨some d, .lookup T x y false, ty, pos, after, g⟩ true) (hx : evl K S x = .map id) (ho : hget S.hp id = .map es) (hy : KeyIs K S y kv) (hg : good kv) (hges : ∀ p, p ∈ es → good p.1)
    (hl : LookT kv idn e' k' es es' rws) (hn : rws.length = n) (hN : Nat.blt d K.N = true)
    (kk : AOps K ops rest Q ⟨(d, .own idn n) :: S.env, (id, .map es') :: (idn, .arr e' k' rws) :: S.hp, S.nx⟩) : AOps K ops (⟨some d, .lookup T x y false, ty, pos, after, g⟩ :: rest) Q S := by
  subst hn
  exact aops_lookup_takeG idn S.nx (fun _ _ _ _ r => ⟨r.free hres, fun q hq => by have := Nat.le_of_ble_eq_true (Bool.and_eq_true_iff.1 hid).2; omega⟩) (by rw [hnxx]; exact Nat.le_of_ble_eq_true (Bool.and_eq_true_iff.1 hid).1) (Nat.le_refl _) hT hK hz hw hx ho hy hg hges hl hN kk
theorem aops_lookup_tkP {d : Nat} {T k e id : Nat} {x y : Operand} {good : Value → Prop} {kv : Value} {es es' : List (Value × V)} {dv o : V} {ob : Ob} (hT : tyMap K.P T k e = true) (hK : KeyT K.P k good)
    (hw : Wants ops S ⟨some d, .lookup T x y false, ty, pos, after, g⟩ true) (hx : evl K S x = .map id) (ho : hget S.hp id = .map es) (hy : KeyIs K S y kv) (hg : good kv) (hges : ∀ p, p ∈ es → good p.1)
    (hl : LookD kv dv o es es') (hov : ovl dv S.nx = some (o, ob)) (hN : Nat.blt d K.N = true)
    (kk : AOps K ops rest Q ⟨(d, o) :: S.env, (id, .map es') :: (S.nx, ob) :: S.hp, S.nx + 1⟩) : AOps K ops (⟨some d, .lookup T x y false, ty, pos, after, g⟩ :: rest) Q S :=
  aops_lookup_takeP S.nx (S.nx + 1) free_nx (Nat.lt_succ_self _) (Nat.le_succ _) hT hK hw hx ho hy hg hges hov hl hN kk
def sameAll (ts : List Nat) (v : V) (e : Env) : Env := match ts with | [] => e | t :: ts => (t, v) :: sameAll ts v e
theorem sameAll_sub {Y : Hy} {v v0 : V} {env : Env} (hk : ∀ v, Sub Y v v) (h : Sub Y v v0) : ∀ (ts : List Nat), (∀ t, t ∈ ts → get env t = v0) → ∀ t', Sub Y (get (sameAll ts v env) t') (get env t')
  | [], _, t' => hk _
  | t :: ts, hh, t' => by
    rw [sameAll, get_put]
    split
    · rename_i he; subst he; rw [hh t (by simp)]; exact h
    · exact sameAll_sub hk h ts (fun q hq => hh q (List.mem_cons_of_mem _ hq)) t'
/-- A slice of the call's own, in several slots. -/
theorem ghost_frzEs (id : Nat) (ts : List Nat) {e k n : Nat} {rows : List (List V)} (ho : hget S.hp id = .arr e k rows) (hi : ∀ row, row ∈ rows → Imms row)
    (ht : ∀ t, t ∈ ts → get S.env t = .own id n) (hn : n = rows.length) : Ghost K S ⟨sameAll ts (.lst k rows) S.env, (id, .dead) :: S.hp, S.nx⟩ :=
  ghost_freeze id _ _ ho hi (sameAll_sub (fun _ => Sub.keep) (Sub.frzAll hn) ts ht) hpFrz0 (by simp [hget_put])
inductive Zs : List V → List Value → Prop
  | nil : Zs [] []
  | con {v : Value} {cs : List V} {vs : List Value} (h : Zs cs vs) : Zs (.con v :: cs) (v :: vs)
  | sl {k : Nat} {cs : List V} {vs : List Value} (h : Zs cs vs) : Zs (.lst k [] :: cs) (.slice none 0 0 :: vs)
theorem Zs.ok {cs : List V} {vs : List Value} (h : Zs cs vs) (m : Mem) : cs.length = vs.length ∧ ∀ (i : Nat) c v, cs[i]? = some c → vs[i]? = some v → IRel m c v := by
  induction h with
  | nil => exact ⟨rfl, by simp⟩
  | con h ih =>
    refine ⟨by simp [ih.1], fun i c v a b => ?_⟩
    cases i with
    | zero => simp at a b; subst a; subst b; exact .con _
    | succ i => exact ih.2 i c v (by simpa using a) (by simpa using b)
  | sl h ih =>
    refine ⟨by simp [ih.1], fun i c v a b => ?_⟩
    cases i with
    | zero => simp at a b; subst a; subst b; exact .nil _ _ _
    | succ i => exact ih.2 i c v (by simpa using a) (by simpa using b)
theorem irel_aggZ {cs : List V} {vs : List Value} (h : Zs cs vs) : ∀ m : Mem, IRel m (.agg cs) (.agg vs.toArray) := fun m =>
  .agg (by simpa using (h.ok m).1) (fun i c v a b => (h.ok m).2 i c v a (by simpa using b))
end
end Go.Pv
