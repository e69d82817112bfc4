/- Part of the proof: DN. -/
import Derived.Test.YtpbkggamiipdmaaGreatR3DM
namespace Go.Pv
open Go
section
variable {K : Ctx} {S : St}
variable {m : Mem} {β : Locs} {w : World} {a : Act}
/-- Blocks to which an object alone leads become an object of their own. -/
theorem Rel.takeG (r : Rel K m β w a S) (id0 nx' : Nat) (hfree : β id0 = none) (hpid : ∀ q, q < K.pins → q ≠ id0) (hidn : id0 < nx') (hnn : S.nx ≤ nx') {id : Nat} (hl0 : hget S.hp id ≠ .dead) (hnid : id ≠ id0) (Bc Bn : Nat → Prop) (loc : Option (Nat × Cap)) (ob' ob2 : Ob) (hsub : ∀ x, Bc x → β.hid id x) (hBn : ∀ x, Bn x → Bc x)
    (hloc : ∀ b' c', loc = some (b', c') → Bc b' ∧ ¬ Bn b') (hobj : ∀ β' : Locs, ObOk m β' w Bn (some loc) ob2)
    (hob : ∀ β' : Locs, β.le β' → β' id0 = some loc → ObOk m β' w (fun x => β.hid id x ∧ ¬ Bc x) (β id) ob') :
    ∃ m' β', Rel K m' β' w a ⟨S.env, (id, ob') :: (id0, ob2) :: S.hp, nx'⟩ := by
  let β' : Locs := ⟨fun q => if q = id0 then some loc else β q, fun q => if q = id0 then Bn else if q = id then (fun x => β.hid id x ∧ ¬ Bc x) else β.hid q⟩
  have en : β' id0 = some loc := by show (if _ then _ else _) = _; rw [if_pos rfl]
  have eo : ∀ q, q ≠ id0 → β' q = β q := fun q h => by show (if _ then _ else _) = _; rw [if_neg h]
  have hn : β'.hid id0 = Bn := by show (if _ then _ else _) = _; rw [if_pos rfl]
  have hid' : β'.hid id = fun x => β.hid id x ∧ ¬ Bc x := by show (if _ then _ else if _ then _ else _) = _; rw [if_neg hnid, if_pos rfl]
  have hoth : ∀ q, q ≠ id0 → q ≠ id → β'.hid q = β.hid q := fun q h1 h2 => by show (if _ then _ else if _ then _ else _) = _; rw [if_neg h1, if_neg h2]
  have hle : β.le β' := by
    intro q l h
    rw [eo q]
    · exact h
    · intro e; rw [e, hfree] at h; simp at h
  have hg : ∀ q, hget ((id, ob') :: (id0, ob2) :: S.hp) q = if id = q then ob' else if id0 = q then ob2 else hget S.hp q := fun q => by rw [hget_put, hget_put]
  have live : ∀ q, q ≠ id0 → hget ((id, ob') :: (id0, ob2) :: S.hp) q ≠ .dead → hget S.hp q ≠ .dead := by
    intro q hq h
    rw [hg] at h
    split at h
    · rename_i e; rw [← e]; exact hl0
    · rw [if_neg (Ne.symm hq)] at h; exact h
  -- the hidden blocks of the new state, seen in the old one
  have hh : ∀ q x, hget ((id, ob') :: (id0, ob2) :: S.hp) q ≠ .dead → β'.hid q x → (q = id0 ∧ Bn x) ∨ (q ≠ id0 ∧ hget S.hp q ≠ .dead ∧ β.hid q x ∧ (q = id → ¬ Bc x)) := by
    intro q x hl hx
    by_cases e1 : q = id0
    · subst e1; rw [hn] at hx; exact .inl ⟨rfl, hx⟩
    · refine .inr ⟨e1, live q e1 hl, ?_⟩
      by_cases e2 : q = id
      · subst e2; rw [hid'] at hx; exact ⟨hx.1, fun _ => hx.2⟩
      · rw [hoth q e1 e2] at hx; exact ⟨hx, fun h => absurd h e2⟩
  refine ⟨m, β', r.imm, r.ext, r.mold, r.frame, r.size, r.same, r.tn, r.df, fun t => (r.env t).mono (Mem.le_refl _) hle, fun q => ?_, fun q b1 c1 hl hb1 => ?_, fun q q' b1 c1 c2 hl hl' hb1 hb2 => ?_, fun q x hl hx => ?_, fun q hq => ?_, fun q hq => ?_⟩
  · rw [hg]
    split
    · rename_i h; subst h
      show ObOk m β' w (β'.hid id) (β' id) _
      rw [hid', eo id hnid]; exact hob β' hle en
    · split
      · rename_i h; subst h
        show ObOk m β' w (β'.hid id0) (β' id0) _
        rw [hn, en]; exact hobj β'
      · rename_i h1 h2
        show ObOk m β' w (β'.hid q) (β' q) _
        rw [hoth q (Ne.symm h2) (Ne.symm h1), eo q (Ne.symm h2)]
        exact ObOk.mono (Mem.le_refl _) hle (fun _ _ h => h) (fun _ _ => rfl) (r.own q)
  · by_cases e1 : q = id0
    · subst e1; rw [en] at hb1
      simp only [Option.some.injEq] at hb1
      have h := r.hid id b1 hl0 (hsub _ (hloc b1 c1 hb1).1)
      exact ⟨h.m, h.old⟩
    · rw [eo q e1] at hb1; exact r.priv q b1 c1 (live q e1 hl) hb1
  · have key : ∀ q c, q ≠ id0 → hget S.hp q ≠ .dead → β q = some (some (b1, c)) → ∀ c', loc = some (b1, c') → False := by
      intro q c _ hl hbq c' hc
      exact (r.hid id b1 hl0 (hsub _ (hloc b1 c' hc).1)).ne q b1 c hl hbq rfl
    by_cases e1 : q = id0 <;> by_cases e2 : q' = id0
    · rw [e1, e2]
    · exfalso; subst e1
      rw [en] at hb1; rw [eo q' e2] at hb2
      simp only [Option.some.injEq] at hb1
      exact key q' c2 e2 (live q' e2 hl') hb2 c1 hb1
    · exfalso; subst e2
      rw [en] at hb2; rw [eo q e1] at hb1
      simp only [Option.some.injEq] at hb2
      exact key q c1 e1 (live q e1 hl) hb1 c2 hb2
    · rw [eo q e1] at hb1; rw [eo q' e2] at hb2
      exact r.inj q q' b1 c1 c2 (live q e1 hl) (live q' e2 hl') hb1 hb2
  · -- a hidden block
    have hx0 := hh q x hl hx
    have hidx : ∃ q0, hget S.hp q0 ≠ .dead ∧ β.hid q0 x ∧ (q = id0 → q0 = id ∧ Bc x) ∧ (q ≠ id0 → q0 = q) := by
      rcases hx0 with ⟨e1, h1⟩ | ⟨e1, h1, h2, h3⟩
      · exact ⟨id, hl0, hsub x (hBn x h1), fun _ => ⟨rfl, hBn x h1⟩, fun h => absurd e1 h⟩
      · exact ⟨q, h1, h2, fun h => absurd h e1, fun _ => rfl⟩
    obtain ⟨q0, g1, g2, g3, g4⟩ := hidx
    have hr := r.hid q0 x g1 g2
    refine ⟨hr.lt, hr.m, hr.old, fun p b1 c1 hl1 hb1 => ?_, fun p hl1 hx1 => ?_⟩
    · by_cases e2 : p = id0
      · subst e2
        rw [en] at hb1
        simp only [Option.some.injEq] at hb1
        intro e; subst e
        obtain ⟨k1, k2⟩ := hloc _ c1 hb1
        rcases hx0 with ⟨e1, h1⟩ | ⟨e1, h1, h2, h3⟩
        · exact k2 h1
        · have := (r.hid q _ h1 h2).un id hl0 (hsub _ k1)
          exact h3 this.symm k1
      · rw [eo p e2] at hb1
        exact hr.ne p b1 c1 (live p e2 hl1) hb1
    · rcases hh p x hl1 hx1 with ⟨e2, h2⟩ | ⟨e2, h2, h3, h4⟩
      · rcases hx0 with ⟨e1, h1⟩ | ⟨e1, h1, h2', h3'⟩
        · rw [e1, e2]
        · exfalso
          have := (r.hid q _ h1 h2').un id hl0 (hsub _ (hBn x h2))
          exact h3' this.symm (hBn x h2)
      · rcases hx0 with ⟨e1, h1⟩ | ⟨e1, h1, h2', h3'⟩
        · exfalso
          have := (r.hid id _ hl0 (hsub _ (hBn x h1))).un p h2 h3
          exact h4 this (hBn x h1)
        · exact (r.hid q _ h1 h2').un p h2 h3
  · have hq : nx' ≤ q := hq
    rw [eo q (by omega)]; exact r.nx q (by omega)
  · obtain ⟨p1, p2⟩ := r.pin q hq
    exact ⟨Nat.lt_of_lt_of_le p1 hnn, by rw [eo q (hpid q hq)]; exact p2⟩
/-- What memory that something alone leads to is as an object: its value there, and the object. -/
def ovl : V → Nat → Option (V × Ob)
  | .dsl e k rws, nx => some (.own nx rws.length, .arr e k rws)
  | .dmp es, nx => some (.map nx, .map es)
  | _, _ => none
def OKeep : Ob → Prop
  | .arr _ _ rws => ∀ r, r ∈ rws → Keeps r
  | .map es => ∀ p, p ∈ es → Keep p.2
  | _ => True
theorem ovl_live {d o : V} {ob : Ob} {id : Nat} (h : ovl d id = some (o, ob)) : ob ≠ .dead ∧ o.deep = false ∧ d.deep = true := by
  cases d <;> simp [ovl] at h
  · obtain ⟨rfl, rfl⟩ := h; exact ⟨by simp, rfl, rfl⟩
  · obtain ⟨rfl, rfl⟩ := h; exact ⟨by simp, rfl, rfl⟩
theorem deepG_inv {B : Nat → Prop} {d : V} {v : Value} (hd : d.deep = true) (h : CRel m β w B d v) : DRel m w B d v := by
  rcases h with h | h
  · cases h with
    | imm h => exact .imm h
    | _ => simp [V.deep] at hd
  · exact h
theorem deep_take {B : Nat → Prop} {d o : V} {ob : Ob} {v : Value} {id0 : Nat} (h : DRel m w B d v) (hov : ovl d id0 = some (o, ob)) :
    ∃ (loc : Option (Nat × Cap)) (Bn : Nat → Prop), (∀ β' : Locs, β' id0 = some loc → VRel m β' o v) ∧ (∀ x, Bn x → B x) ∧ (∀ b' c', loc = some (b', c') → B b' ∧ ¬ Bn b') ∧ ∀ β' : Locs, ObOk m β' w Bn (some loc) ob := by
  cases h with
  | imm h => cases h <;> simp [ovl] at hov
  | nil e k a =>
    simp only [ovl, Option.some.injEq, Prod.mk.injEq] at hov
    obtain ⟨rfl, rfl⟩ := hov
    exact ⟨none, fun _ => False, fun β' h => .ownNil h, fun _ h => h.elim, fun _ _ h => by simp at h, fun _ => rfl⟩
  | @sl _ k b' cap' off' e rows arr' bl' f hb' hbb hB hw hs hr hcap hk hf h =>
    simp only [ovl, Option.some.injEq, Prod.mk.injEq] at hov
    obtain ⟨rfl, rfl⟩ := hov
    refine ⟨some (b', ⟨cap', off'⟩), fun x => ∃ p, bl' p x, fun β' h => .own h, fun x ⟨p, hx⟩ => hB.1 p x hx, fun b2 c2 h => ?_, fun β' => ?_⟩
    · simp only [Option.some.injEq, Prod.mk.injEq] at h; obtain ⟨rfl, _⟩ := h; exact ⟨hb', fun ⟨p, hx⟩ => hbb p hx⟩
    · refine ⟨arr', bl', hw, hs, hr, hcap, hk, ⟨fun p x hx => ⟨p, hx⟩, hB.2⟩, fun i2 j2 row2 c2 h1 h2 => ?_⟩
      obtain ⟨f1, f2⟩ := hf i2 j2 row2 c2 h1 h2
      exact ⟨_, f1, .inr (h i2 j2 row2 c2 h1 h2), f2⟩
  | @mp _ b' es ents clock bl' hb' hbb hB hw hl hk h =>
    simp only [ovl, Option.some.injEq, Prod.mk.injEq] at hov
    obtain ⟨rfl, rfl⟩ := hov
    refine ⟨some (b', ⟨0, 0⟩), fun x => ∃ p, bl' p x, fun β' h => .map h, fun x ⟨p, hx⟩ => hB.1 p x hx, fun b2 c2 h => ?_, fun β' => ?_⟩
    · simp only [Option.some.injEq, Prod.mk.injEq] at h; obtain ⟨rfl, _⟩ := h; exact ⟨hb', fun ⟨p, hx⟩ => hbb p hx⟩
    · exact ⟨ents, clock, bl', hw, hl, ⟨fun p x hx => ⟨p, hx⟩, hB.2⟩, fun i2 p2 e2 h1 h2 => ⟨hk i2 p2 e2 h1 h2, .inr (h i2 p2 e2 h1 h2)⟩⟩
  | pt => simp [ovl] at hov
theorem deep_untake (r : Rel K m β w a S) {d o : V} {ob : Ob} {v : Value} {id2 : Nat} (hov : ovl d id2 = some (o, ob)) (ho2 : hget S.hp id2 = ob) (hkp : OKeep ob) (hv : VRel m β o v) :
    DRel m w (fun x => β.hid id2 x ∨ ∃ c, β id2 = some (some (x, c))) d v := by
  have hl2 : hget S.hp id2 ≠ .dead := by rw [ho2]; exact (ovl_live hov).1
  have hown2 := r.own id2
  rw [ho2] at hown2
  cases d <;> simp only [ovl, Option.some.injEq, Prod.mk.injEq, reduceCtorEq] at hov
  · rename_i e' k' rws
    obtain ⟨rfl, rfl⟩ := hov
    generalize hnn : rws.length = n at hv
    cases hv with
    | imm h => cases h
    | ownNil h =>
      have : rws = [] := List.length_eq_zero_iff.1 hnn
      subst this; exact .nil _ _ _
    | @own _ _ b2 cap2 hb2 =>
      rw [hb2] at hown2
      obtain ⟨arr2, bl2, p1, p2, p3, p4, p5, p6, p7⟩ := hown2
      rw [← hnn]
      refine .sl bl2 (fun p => arr2.getD (cap2.off + p) undef) (.inr ⟨cap2, hb2⟩) (fun p hx => ?_) ⟨fun p x hx => .inl (p6.1 p x hx), p6.2⟩ p1 p2 p3 p4 p5 (fun i2 j2 row2 c2 h1 h2 => ?_) (fun i2 j2 row2 c2 h1 h2 => ?_)
      · exact (r.hid id2 b2 hl2 (p6.1 p b2 hx)).ne id2 b2 cap2 hl2 hb2 rfl
      · obtain ⟨u, u1, _, u3⟩ := p7 i2 j2 row2 c2 h1 h2
        have : arr2.getD (cap2.off + (i2 * k' + j2)) undef = u := by simp [Array.getD_eq_getD_getElem?, u1]
        simp only [this]; exact ⟨u1, u3⟩
      · obtain ⟨u, u1, u2, _⟩ := p7 i2 j2 row2 c2 h1 h2
        have : arr2.getD (cap2.off + (i2 * k' + j2)) undef = u := by simp [Array.getD_eq_getD_getElem?, u1]
        simp only [this]
        rcases u2 with h | h
        · exact .imm (hkp row2 (List.mem_of_getElem? h1) c2 (List.mem_of_getElem? h2) _ _ _ h)
        · exact h
  · rename_i es
    obtain ⟨rfl, rfl⟩ := hov
    cases hv with
    | imm h => cases h
    | @map _ b2 cap2 hb2 =>
      rw [hb2] at hown2
      obtain ⟨ents, clock, bl2, p1, p2, p6, p7⟩ := hown2
      refine .mp bl2 (.inr ⟨cap2, hb2⟩) (fun p hx => ?_) ⟨fun p x hx => .inl (p6.1 p x hx), p6.2⟩ p1 p2 (fun i2 q e2 h1 h2 => (p7 i2 q e2 h1 h2).1) (fun i2 q e2 h1 h2 => ?_)
      · exact (r.hid id2 b2 hl2 (p6.1 p b2 hx)).ne id2 b2 cap2 hl2 hb2 rfl
      · rcases (p7 i2 q e2 h1 h2).2 with h | h
        · exact .imm (hkp q (List.mem_of_getElem? h1) _ _ _ h)
        · exact h
/-- What the value of an entry alone leads to becomes an object. -/
theorem Rel.takeM (r : Rel K m β w a S) (id i id0 nx' : Nat) (hfree : β id0 = none) (hpid : ∀ q, q < K.pins → q ≠ id0) (hidn : id0 < nx') (hnn : S.nx ≤ nx') {es : List (Value × V)} {kv : Value} {d o : V} {ob : Ob} (ho : hget S.hp id = .map es) (hi : es[i]? = some (kv, d)) (hov : ovl d id0 = some (o, ob)) :
    ∃ m' β', Rel K m' β' w a ⟨S.env, (id, .map (es.set i (kv, o))) :: (id0, ob) :: S.hp, nx'⟩ := by
  have hl0 : hget S.hp id ≠ .dead := by rw [ho]; simp
  obtain ⟨b, cap, hb⟩ := map_loc r ho
  have hne0 : id ≠ id0 := fun h => by rw [h, hfree] at hb; simp at hb
  have hown := r.own id
  rw [ho, hb] at hown
  obtain ⟨ents, clock, bl, q1, q2, q6, q7⟩ := hown
  have hlt : i < ents.size := by rw [← q2]; exact (List.getElem?_eq_some_iff.1 hi).1
  obtain ⟨v1, v2⟩ := q7 i _ ents[i] hi (Array.getElem?_eq_getElem hlt)
  generalize hv : ents[i].val = v at v2
  obtain ⟨loc, Bn, hvr, hBn, hloc, hobj⟩ := deep_take (deepG_inv (ovl_live hov).2.2 v2) hov
  obtain ⟨m', β', rr⟩ := r.takeG id0 nx' hfree hpid hidn hnn hl0 hne0 (bl i) Bn loc (.map (es.set i (kv, o))) ob (fun x hx => q6.1 _ x hx) hBn hloc hobj (fun β' hle en => by
    rw [hb]
    refine ⟨ents, clock, fun p => if p = i then (fun _ => False) else bl p, q1, by rw [List.length_set]; exact q2, ⟨fun p x hx => ?_, fun p p' x hx hx' => ?_⟩, fun i2 p2 en2 h1 h2 => ?_⟩
    · dsimp only at hx
      split at hx
      · exact hx.elim
      · rename_i hne; exact ⟨q6.1 p x hx, fun h => hne (q6.2 _ _ x hx h)⟩
    · dsimp only at hx hx'
      split at hx
      · exact hx.elim
      · split at hx'
        · exact hx'.elim
        · exact q6.2 _ _ x hx hx'
    · rw [List.getElem?_set] at h1
      by_cases e2 : i = i2
      · subst e2
        rw [if_pos rfl, if_pos (by rw [q2]; exact hlt)] at h1
        simp only [Option.some.injEq] at h1
        subst h1
        rw [Array.getElem?_eq_getElem hlt, Option.some.injEq] at h2
        subst h2
        exact ⟨v1, .inl (by rw [hv]; exact hvr β' en)⟩
      · rw [if_neg e2] at h1
        obtain ⟨u1, u2⟩ := q7 i2 p2 en2 h1 h2
        refine ⟨u1, ?_⟩
        show CRel _ _ _ (if _ then _ else _) _ _
        rw [if_neg (Ne.symm e2)]
        exact u2.mono (Mem.le_refl _) hle (fun _ h => h) (fun _ _ => rfl))
  exact ⟨m', β', rr⟩
/-- An object whose only holder is the value of an entry becomes what this one alone leads to. -/
theorem ghost_untakeMG (id i id2 : Nat) {es : List (Value × V)} {kv : Value} {d o : V} {ob : Ob} (ho : hget S.hp id = .map es) (hi : es[i]? = some (kv, o)) (hov : ovl d id2 = some (o, ob)) (ho2 : hget S.hp id2 = ob) (hne : id ≠ id2) (hkp : OKeep ob) :
    Ghost K S ⟨S.env, (id, .map (es.set i (kv, d))) :: (id2, .dead) :: S.hp, S.nx⟩ := by
  intro m β w a r
  have hl0 : hget S.hp id ≠ .dead := by rw [ho]; simp
  have hl2 : hget S.hp id2 ≠ .dead := by rw [ho2]; exact (ovl_live hov).1
  obtain ⟨b, cap, hb⟩ := map_loc r ho
  have hown := r.own id
  rw [ho, hb] at hown
  obtain ⟨ents, clock, bl, q1, q2, q6, q7⟩ := hown
  have hlt : i < ents.size := by rw [← q2]; exact (List.getElem?_eq_some_iff.1 hi).1
  obtain ⟨v1, v2⟩ := q7 i _ ents[i] hi (Array.getElem?_eq_getElem hlt)
  have v2 := v2.v (ovl_live hov).2.1
  have hd := deep_untake r hov ho2 hkp v2
  let Bn : Nat → Prop := fun x => β.hid id2 x ∨ ∃ c, β id2 = some (some (x, c))
  have hBd : ∀ x, Bn x → ¬ β.hid id x := by
    intro x hx hh
    rcases hx with hx | ⟨c, hx⟩
    · exact hne ((r.hid id2 x hl2 hx).un id hl0 hh)
    · exact (r.hid id x hl0 hh).ne id2 x c hl2 hx rfl
  obtain ⟨m', β', rr⟩ := r.untake hl0 hl2 hne (.map (es.set i (kv, d))) (fun β' hle => by
    rw [hb]
    refine ⟨ents, clock, fun p => if p = i then Bn else bl p, q1, by rw [List.length_set]; exact q2, ⟨fun p x hx => ?_, fun p p' x hx hx' => ?_⟩, fun i2 p2 en2 h1 h2 => ?_⟩
    · dsimp only at hx
      split at hx
      · exact .inr hx
      · exact .inl (q6.1 p x hx)
    · dsimp only at hx hx'
      split at hx <;> split at hx'
      · rename_i e1 e2; rw [e1, e2]
      · exact absurd (q6.1 _ x hx') (hBd x hx)
      · exact absurd (q6.1 _ x hx) (hBd x hx')
      · exact q6.2 _ _ x hx hx'
    · rw [List.getElem?_set] at h1
      by_cases e2 : i = i2
      · subst e2
        rw [if_pos rfl, if_pos (by rw [q2]; exact hlt)] at h1
        simp only [Option.some.injEq] at h1
        subst h1
        rw [Array.getElem?_eq_getElem hlt, Option.some.injEq] at h2
        subst h2
        refine ⟨v1, ?_⟩
        show CRel _ _ _ (if _ then _ else _) _ _
        rw [if_pos rfl]; exact .inr hd
      · rw [if_neg e2] at h1
        obtain ⟨u1, u2⟩ := q7 i2 p2 en2 h1 h2
        refine ⟨u1, ?_⟩
        show CRel _ _ _ (if _ then _ else _) _ _
        rw [if_neg (Ne.symm e2)]
        exact u2.mono (Mem.le_refl _) hle (fun _ h => h) (fun _ _ => rfl))
  exact ⟨m', β', rr⟩
end
end Go.Pv
