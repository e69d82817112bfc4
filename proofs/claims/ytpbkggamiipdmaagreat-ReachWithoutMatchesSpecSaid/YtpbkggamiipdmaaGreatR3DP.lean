/- Part of the proof: DP. -/
import Derived.Test.YtpbkggamiipdmaaGreatR3LM
namespace Go.Pv
open Go
section
variable {K : Ctx} {S : St}
variable {m : Mem} {β : Locs} {w : World} {a : Act}
/-- Blocks to which an object alone leads become an object of their own. -/
theorem Rel.take (r : Rel K m β w a S) {id : Nat} (hl0 : hget S.hp id ≠ .dead) (hnid : id ≠ S.nx) (Bc Bn : Nat → Prop) (loc : Option (Nat × Cap)) (ob' ob2 : Ob) (hsub : ∀ x, Bc x → β.hid id x) (hBn : ∀ x, Bn x → Bc x)
    (hloc : ∀ b' c', loc = some (b', c') → Bc b' ∧ ¬ Bn b') (hobj : ∀ β' : Locs, ObOk m β' w Bn (some loc) ob2)
    (hob : ∀ β' : Locs, β.le β' → β' S.nx = some loc → ObOk m β' w (fun x => β.hid id x ∧ ¬ Bc x) (β id) ob') :
    ∃ m' β', Rel K m' β' w a ⟨S.env, (id, ob') :: (S.nx, ob2) :: S.hp, S.nx + 1⟩ := by
  let β' : Locs := ⟨fun q => if q = S.nx then some loc else β q, fun q => if q = S.nx then Bn else if q = id then (fun x => β.hid id x ∧ ¬ Bc x) else β.hid q⟩
  have en : β' S.nx = some loc := by show (if _ then _ else _) = _; rw [if_pos rfl]
  have eo : ∀ q, q ≠ S.nx → β' q = β q := fun q h => by show (if _ then _ else _) = _; rw [if_neg h]
  have hn : β'.hid S.nx = Bn := by show (if _ then _ else _) = _; rw [if_pos rfl]
  have hid' : β'.hid id = fun x => β.hid id x ∧ ¬ Bc x := by show (if _ then _ else if _ then _ else _) = _; rw [if_neg hnid, if_pos rfl]
  have hoth : ∀ q, q ≠ S.nx → q ≠ id → β'.hid q = β.hid q := fun q h1 h2 => by show (if _ then _ else if _ then _ else _) = _; rw [if_neg h1, if_neg h2]
  have hle : β.le β' := by
    intro q l h
    rw [eo q]
    · exact h
    · intro e; rw [e, r.nx _ (Nat.le_refl _)] at h; simp at h
  have hg : ∀ q, hget ((id, ob') :: (S.nx, ob2) :: S.hp) q = if id = q then ob' else if S.nx = q then ob2 else hget S.hp q := fun q => by rw [hget_put, hget_put]
  have live : ∀ q, q ≠ S.nx → hget ((id, ob') :: (S.nx, ob2) :: S.hp) q ≠ .dead → hget S.hp q ≠ .dead := by
    intro q hq h
    rw [hg] at h
    split at h
    · rename_i e; rw [← e]; exact hl0
    · rw [if_neg (Ne.symm hq)] at h; exact h
  -- the hidden blocks of the new state, seen in the old one
  have hh : ∀ q x, hget ((id, ob') :: (S.nx, ob2) :: S.hp) q ≠ .dead → β'.hid q x → (q = S.nx ∧ Bn x) ∨ (q ≠ S.nx ∧ hget S.hp q ≠ .dead ∧ β.hid q x ∧ (q = id → ¬ Bc x)) := by
    intro q x hl hx
    by_cases e1 : q = S.nx
    · subst e1; rw [hn] at hx; exact .inl ⟨rfl, hx⟩
    · refine .inr ⟨e1, live q e1 hl, ?_⟩
      by_cases e2 : q = id
      · subst e2; rw [hid'] at hx; exact ⟨hx.1, fun _ => hx.2⟩
      · rw [hoth q e1 e2] at hx; exact ⟨hx, fun h => absurd h e2⟩
  refine ⟨m, β', r.imm, r.ext, r.mold, r.frame, r.size, r.same, r.tn, r.df, fun t => (r.env t).mono (Mem.le_refl _) hle, fun q => ?_, fun q b1 c1 hl hb1 => ?_, fun q q' b1 c1 c2 hl hl' hb1 hb2 => ?_, fun q x hl hx => ?_, fun q hq => ?_, fun q hq => ?_⟩
  · rw [hg]
    split
    · rename_i h; subst h
      show ObOk m β' w (β'.hid id) (β' id) _
      rw [hid', eo id hnid]; exact hob β' hle en
    · split
      · rename_i h; subst h
        show ObOk m β' w (β'.hid S.nx) (β' S.nx) _
        rw [hn, en]; exact hobj β'
      · rename_i h1 h2
        show ObOk m β' w (β'.hid q) (β' q) _
        rw [hoth q (Ne.symm h2) (Ne.symm h1), eo q (Ne.symm h2)]
        exact ObOk.mono (Mem.le_refl _) hle (fun _ _ h => h) (fun _ _ => rfl) (r.own q)
  · by_cases e1 : q = S.nx
    · subst e1; rw [en] at hb1
      simp only [Option.some.injEq] at hb1
      have h := r.hid id b1 hl0 (hsub _ (hloc b1 c1 hb1).1)
      exact ⟨h.m, h.old⟩
    · rw [eo q e1] at hb1; exact r.priv q b1 c1 (live q e1 hl) hb1
  · have key : ∀ q c, q ≠ S.nx → hget S.hp q ≠ .dead → β q = some (some (b1, c)) → ∀ c', loc = some (b1, c') → False := by
      intro q c _ hl hbq c' hc
      exact (r.hid id b1 hl0 (hsub _ (hloc b1 c' hc).1)).ne q b1 c hl hbq rfl
    by_cases e1 : q = S.nx <;> by_cases e2 : q' = S.nx
    · rw [e1, e2]
    · exfalso; subst e1
      rw [en] at hb1; rw [eo q' e2] at hb2
      simp only [Option.some.injEq] at hb1
      exact key q' c2 e2 (live q' e2 hl') hb2 c1 hb1
    · exfalso; subst e2
      rw [en] at hb2; rw [eo q e1] at hb1
      simp only [Option.some.injEq] at hb2
      exact key q c1 e1 (live q e1 hl) hb1 c2 hb2
    · rw [eo q e1] at hb1; rw [eo q' e2] at hb2
      exact r.inj q q' b1 c1 c2 (live q e1 hl) (live q' e2 hl') hb1 hb2
  · -- a hidden block
    have hx0 := hh q x hl hx
    have hidx : ∃ q0, hget S.hp q0 ≠ .dead ∧ β.hid q0 x ∧ (q = S.nx → q0 = id ∧ Bc x) ∧ (q ≠ S.nx → q0 = q) := by
      rcases hx0 with ⟨e1, h1⟩ | ⟨e1, h1, h2, h3⟩
      · exact ⟨id, hl0, hsub x (hBn x h1), fun _ => ⟨rfl, hBn x h1⟩, fun h => absurd e1 h⟩
      · exact ⟨q, h1, h2, fun h => absurd h e1, fun _ => rfl⟩
    obtain ⟨q0, g1, g2, g3, g4⟩ := hidx
    have hr := r.hid q0 x g1 g2
    refine ⟨hr.lt, hr.m, hr.old, fun p b1 c1 hl1 hb1 => ?_, fun p hl1 hx1 => ?_⟩
    · by_cases e2 : p = S.nx
      · subst e2
        rw [en] at hb1
        simp only [Option.some.injEq] at hb1
        intro e; subst e
        obtain ⟨k1, k2⟩ := hloc _ c1 hb1
        rcases hx0 with ⟨e1, h1⟩ | ⟨e1, h1, h2, h3⟩
        · exact k2 h1
        · have := (r.hid q _ h1 h2).un id hl0 (hsub _ k1)
          exact h3 this.symm k1
      · rw [eo p e2] at hb1
        exact hr.ne p b1 c1 (live p e2 hl1) hb1
    · rcases hh p x hl1 hx1 with ⟨e2, h2⟩ | ⟨e2, h2, h3, h4⟩
      · rcases hx0 with ⟨e1, h1⟩ | ⟨e1, h1, h2', h3'⟩
        · rw [e1, e2]
        · exfalso
          have := (r.hid q _ h1 h2').un id hl0 (hsub _ (hBn x h2))
          exact h3' this.symm (hBn x h2)
      · rcases hx0 with ⟨e1, h1⟩ | ⟨e1, h1, h2', h3'⟩
        · exfalso
          have := (r.hid id _ hl0 (hsub _ (hBn x h1))).un p h2 h3
          exact h4 this (hBn x h1)
        · exact (r.hid q _ h1 h2').un p h2 h3
  · have hq : S.nx + 1 ≤ q := hq
    rw [eo q (by omega)]; exact r.nx q (by omega)
  · obtain ⟨p1, p2⟩ := r.pin q hq
    exact ⟨Nat.lt_succ_of_lt p1, by rw [eo q (Nat.ne_of_lt p1)]; exact p2⟩
/-- The blocks of an object become blocks to which another one alone leads. -/
theorem Rel.untake (r : Rel K m β w a S) {id id2 : Nat} (hl0 : hget S.hp id ≠ .dead) (hl2 : hget S.hp id2 ≠ .dead) (hne : id ≠ id2) (ob' : Ob)
    (hob : ∀ β' : Locs, β.le β' → ObOk m β' w (fun x => β.hid id x ∨ (β.hid id2 x ∨ ∃ c, β id2 = some (some (x, c)))) (β id) ob') :
    ∃ m' β', Rel K m' β' w a ⟨S.env, (id, ob') :: (id2, .dead) :: S.hp, S.nx⟩ := by
  let Bn : Nat → Prop := fun x => β.hid id2 x ∨ ∃ c, β id2 = some (some (x, c))
  let β' : Locs := ⟨β.f, fun q => if q = id then (fun x => β.hid id x ∨ Bn x) else β.hid q⟩
  have hid' : β'.hid id = fun x => β.hid id x ∨ Bn x := by show (if _ then _ else _) = _; rw [if_pos rfl]
  have hoth : ∀ q, q ≠ id → β'.hid q = β.hid q := fun q h => by show (if _ then _ else _) = _; rw [if_neg h]
  have hle : β.le β' := fun q l h => h
  have hg : ∀ q, hget ((id, ob') :: (id2, .dead) :: S.hp) q = if id = q then ob' else if id2 = q then .dead else hget S.hp q := fun q => by rw [hget_put, hget_put]
  have live : ∀ q, hget ((id, ob') :: (id2, .dead) :: S.hp) q ≠ .dead → hget S.hp q ≠ .dead ∧ q ≠ id2 := by
    intro q h
    rw [hg] at h
    split at h
    · rename_i e; subst e; exact ⟨hl0, hne⟩
    · split at h
      · exact absurd rfl h
      · rename_i e1 e2; exact ⟨h, Ne.symm e2⟩
  -- the blocks that the cell leads to now
  have hBn : ∀ x, Bn x → x < w.heap.size ∧ m x = none ∧ (x < K.w0.heap.size → ¬ K.old x) ∧ (∀ p b c, hget S.hp p ≠ .dead → p ≠ id2 → β p = some (some (b, c)) → x ≠ b) ∧ ∀ p, hget S.hp p ≠ .dead → p ≠ id2 → ¬ β.hid p x := by
    intro x hx
    rcases hx with hx | ⟨c, hx⟩
    · have h := r.hid id2 x hl2 hx
      exact ⟨h.lt, h.m, h.old, fun p b c hp _ hb => h.ne p b c hp hb, fun p hp hpe hh => hpe (h.un p hp hh)⟩
    · obtain ⟨h1, h2⟩ := r.priv id2 x c hl2 hx
      exact ⟨live_lt hl2 hx (r.own id2), h1, h2, fun p b c2 hp hpe hb e => by subst e; exact hpe (r.inj p id2 x c2 c hp hl2 hb hx), fun p hp hpe hh => (r.hid p x hp hh).ne id2 x c hl2 hx rfl⟩
  refine ⟨m, β', r.imm, r.ext, r.mold, r.frame, r.size, r.same, r.tn, r.df, fun t => (r.env t).mono (Mem.le_refl _) hle, fun q => ?_, fun q b1 c1 hl hb1 => r.priv q b1 c1 (live q hl).1 hb1, fun q q' b1 c1 c2 hl hl' hb1 hb2 => r.inj q q' b1 c1 c2 (live q hl).1 (live q' hl').1 hb1 hb2, fun q x hl hx => ?_, r.nx, r.pin⟩
  · rw [hg]
    split
    · rename_i h; subst h
      show ObOk m β' w (β'.hid id) (β id) _
      rw [hid']; exact hob β' hle
    · split
      · exact ObOk.dead' _
      · rename_i h1 h2
        show ObOk m β' w (β'.hid q) (β q) _
        rw [hoth q (Ne.symm h1)]
        exact ObOk.mono (Mem.le_refl _) hle (fun _ _ h => h) (fun _ _ => rfl) (r.own q)
  · obtain ⟨l1, l2⟩ := live q hl
    by_cases e1 : q = id
    · subst e1
      rw [hid'] at hx
      rcases hx with hx | hx
      · have h := r.hid q x hl0 hx
        refine ⟨h.lt, h.m, h.old, fun p b1 c1 hp hb1 => h.ne p b1 c1 (live p hp).1 hb1, fun p hp hx' => ?_⟩
        by_cases e2 : p = q
        · exact e2
        · rw [hoth p e2] at hx'; exact h.un p (live p hp).1 hx'
      · obtain ⟨h1, h2, h3, h4, h5⟩ := hBn x hx
        refine ⟨h1, h2, h3, fun p b1 c1 hp hb1 => h4 p b1 c1 (live p hp).1 (live p hp).2 hb1, fun p hp hx' => ?_⟩
        by_cases e2 : p = q
        · exact e2
        · rw [hoth p e2] at hx'; exact absurd hx' (h5 p (live p hp).1 (live p hp).2)
    · rw [hoth q e1] at hx
      have h := r.hid q x l1 hx
      refine ⟨h.lt, h.m, h.old, fun p b1 c1 hp hb1 => h.ne p b1 c1 (live p hp).1 hb1, fun p hp hx' => ?_⟩
      by_cases e2 : p = id
      · subst e2
        rw [hid'] at hx'
        rcases hx' with hx' | hx'
        · exact h.un p hl0 hx'
        · exact absurd hx ((hBn x hx').2.2.2.2 q l1 l2)
      · rw [hoth p e2] at hx'; exact h.un p (live p hp).1 hx'
end
end Go.Pv
