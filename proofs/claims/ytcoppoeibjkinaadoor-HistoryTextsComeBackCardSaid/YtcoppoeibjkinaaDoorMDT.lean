/- Part of the proof: DP, DQ, DM, DN, DO, DR, ZC, DV, DA, DS, DT. -/
import Derived.Test.YtcoppoeibjkinaaDoorMLM
import Derived.Test.YtcoppoeibjkinaaDoorMPvT
import Derived.Maps.RangeRun
import Derived.Lib.SlicesCompact
import Derived.Lib.SplitLaws
import Derived.Lib.SmallJoins
import Derived.Lib.Atoi
namespace Go.Pv
open Go
set_option linter.unusedVariables false
set_option linter.unusedSimpArgs false
section
variable {K : Ctx} {S : St}
variable {m : Mem} {β : Locs} {w : World} {a : Act}
def setC (rows : List (List V)) (i : Nat) (row : List V) (j : Nat) (c : V) : List (List V) := rows.set i (row.set j c)
theorem setC_get {rows : List (List V)} {i j : Nat} {row : List V} {c0 c : V} (hi : rows[i]? = some row) (hj : row[j]? = some c0) {i2 j2 : Nat} {row2 : List V} {c2 : V}
  (h1 : (setC rows i row j c)[i2]? = some row2) (h2 : row2[j2]? = some c2) : (i2 = i ∧ j2 = j ∧ c2 = c) ∨ ∃ row3, rows[i2]? = some row3 ∧ row3[j2]? = some c2 ∧ ¬ (i2 = i ∧ j2 = j) := by
 unfold setC at h1
 rw [List.getElem?_set] at h1
 by_cases e : i = i2
 ·rw [if_pos e] at h1
  split at h1
  ·simp only [Option.some.injEq] at h1
   subst h1
   rw [List.getElem?_set] at h2
   by_cases e2 : j = j2
   ·rw [if_pos e2] at h2
    split at h2
    ·simp only [Option.some.injEq] at h2; exact .inl ⟨e.symm, e2.symm, h2.symm⟩
    ·simp at h2
   ·rw [if_neg e2] at h2
    exact .inr ⟨row, by rw [← e]; exact hi, h2, fun h => e2 h.2.symm⟩
  ·simp at h1
 ·rw [if_neg e] at h1
  exact .inr ⟨row2, h1, h2, fun h => e h.1.symm⟩
theorem setC_len {rows : List (List V)} {i j : Nat} {row : List V} {c : V} : (setC rows i row j c).length = rows.length := by simp [setC]
theorem setC_row {rows : List (List V)} {i j k : Nat} {row : List V} {c : V} (hi : rows[i]? = some row) (hk : ∀ r, r ∈ rows → r.length = k) : ∀ r, r ∈ setC rows i row j c → r.length = k := by
 intro r hr
 rcases List.mem_or_eq_of_mem_set hr with h | h
 ·exact hk r h
 ·subst h; rw [List.length_set]; exact hk row (List.mem_of_getElem? hi)
theorem cell_ne {i j i2 j2 k : Nat} (h : ¬ (i2 = i ∧ j2 = j)) (h1 : j < k) (h2 : j2 < k) : i2 * k + j2 ≠ i * k + j := by
 intro e
 rcases Nat.lt_trichotomy i2 i with h3 | h3 | h3
 ·have : (i2 + 1) * k ≤ i * k := Nat.mul_le_mul_right _ h3
  rw [Nat.add_mul, Nat.one_mul] at this; omega
 ·subst h3; exact h ⟨rfl, by omega⟩
 ·have : (i + 1) * k ≤ i2 * k := Nat.mul_le_mul_right _ h3
  rw [Nat.add_mul, Nat.one_mul] at this; omega
theorem Rel.take (r : Rel K m β w a S) {id : Nat} (hl0 : hget S.hp id ≠ .dead) (hnid : id ≠ S.nx) (Bc Bn : Nat → Prop) (loc : Option (Nat × Cap)) (ob' ob2 : Ob) (hsub : ∀ x, Bc x → β.hid id x) (hBn : ∀ x, Bn x → Bc x)
  (hloc : ∀ b' c', loc = some (b', c') → Bc b' ∧ ¬ Bn b') (hobj : ∀ β' : Locs, ObOk m β' w Bn (some loc) ob2)
  (hob : ∀ β' : Locs, β.le β' → β' S.nx = some loc → ObOk m β' w (fun x => β.hid id x ∧ ¬ Bc x) (β id) ob') :
  ∃ m' β', Rel K m' β' w a ⟨S.env, (id, ob') :: (S.nx, ob2) :: S.hp, S.nx + 1⟩ := by
 let β' : Locs := ⟨fun q => if q = S.nx then some loc else β q, fun q => if q = S.nx then Bn else if q = id then (fun x => β.hid id x ∧ ¬ Bc x) else β.hid q⟩
 have en : β' S.nx = some loc := by show (if _ then _ else _) = _; rw [if_pos rfl]
 have eo : ∀ q, q ≠ S.nx → β' q = β q := fun q h => by show (if _ then _ else _) = _; rw [if_neg h]
 have hn : β'.hid S.nx = Bn := by show (if _ then _ else _) = _; rw [if_pos rfl]
 have hid' : β'.hid id = fun x => β.hid id x ∧ ¬ Bc x := by show (if _ then _ else if _ then _ else _) = _; rw [if_neg hnid, if_pos rfl]
 have hoth : ∀ q, q ≠ S.nx → q ≠ id → β'.hid q = β.hid q := fun q h1 h2 => by show (if _ then _ else if _ then _ else _) = _; rw [if_neg h1, if_neg h2]
 have hle : β.le β' := by
  intro q l h
  rw [eo q]
  ·exact h
  ·intro e; rw [e, r.nx _ (Nat.le_refl _)] at h; simp at h
 have hg : ∀ q, hget ((id, ob') :: (S.nx, ob2) :: S.hp) q = if id = q then ob' else if S.nx = q then ob2 else hget S.hp q := fun q => by rw [hget_put, hget_put]
 have live : ∀ q, q ≠ S.nx → hget ((id, ob') :: (S.nx, ob2) :: S.hp) q ≠ .dead → hget S.hp q ≠ .dead := by
  intro q hq h
  rw [hg] at h
  split at h
  ·rename_i e; rw [← e]; exact hl0
  ·rw [if_neg (Ne.symm hq)] at h; exact h
 -- the hidden blocks of the new state, seen in the old one
 have hh : ∀ q x, hget ((id, ob') :: (S.nx, ob2) :: S.hp) q ≠ .dead → β'.hid q x → (q = S.nx ∧ Bn x) ∨ (q ≠ S.nx ∧ hget S.hp q ≠ .dead ∧ β.hid q x ∧ (q = id → ¬ Bc x)) := by
  intro q x hl hx
  by_cases e1 : q = S.nx
  ·subst e1; rw [hn] at hx; exact .inl ⟨rfl, hx⟩
  ·refine .inr ⟨e1, live q e1 hl, ?_⟩
   by_cases e2 : q = id
   ·subst e2; rw [hid'] at hx; exact ⟨hx.1, fun _ => hx.2⟩
   ·rw [hoth q e1 e2] at hx; exact ⟨hx, fun h => absurd h e2⟩
 refine ⟨m, β', r.imm, r.ext, r.mold, r.frame, r.size, r.same, r.tn, r.df, fun t => (r.env t).mono (Mem.le_refl _) hle, fun q => ?_, fun q b1 c1 hl hb1 => ?_, fun q q' b1 c1 c2 hl hl' hb1 hb2 => ?_, fun q x hl hx => ?_, fun q hq => ?_, fun q hq => ?_⟩
 ·rw [hg]
  split
  ·rename_i h; subst h
   show ObOk m β' w (β'.hid id) (β' id) _
   rw [hid', eo id hnid]; exact hob β' hle en
  ·split
   ·rename_i h; subst h
    show ObOk m β' w (β'.hid S.nx) (β' S.nx) _
    rw [hn, en]; exact hobj β'
   ·rename_i h1 h2
    show ObOk m β' w (β'.hid q) (β' q) _
    rw [hoth q (Ne.symm h2) (Ne.symm h1), eo q (Ne.symm h2)]
    exact ObOk.mono (Mem.le_refl _) hle (fun _ _ h => h) (fun _ _ => rfl) (r.own q)
 ·by_cases e1 : q = S.nx
  ·subst e1; rw [en] at hb1
   simp only [Option.some.injEq] at hb1
   have h := r.hid id b1 hl0 (hsub _ (hloc b1 c1 hb1).1)
   exact ⟨h.m, h.old⟩
  ·rw [eo q e1] at hb1; exact r.priv q b1 c1 (live q e1 hl) hb1
 ·have key : ∀ q c, q ≠ S.nx → hget S.hp q ≠ .dead → β q = some (some (b1, c)) → ∀ c', loc = some (b1, c') → False := by
   intro q c _ hl hbq c' hc
   exact (r.hid id b1 hl0 (hsub _ (hloc b1 c' hc).1)).ne q b1 c hl hbq rfl
  by_cases e1 : q = S.nx <;> by_cases e2 : q' = S.nx
  ·rw [e1, e2]
  ·exfalso; subst e1
   rw [en] at hb1; rw [eo q' e2] at hb2
   simp only [Option.some.injEq] at hb1
   exact key q' c2 e2 (live q' e2 hl') hb2 c1 hb1
  ·exfalso; subst e2
   rw [en] at hb2; rw [eo q e1] at hb1
   simp only [Option.some.injEq] at hb2
   exact key q c1 e1 (live q e1 hl) hb1 c2 hb2
  ·rw [eo q e1] at hb1; rw [eo q' e2] at hb2
   exact r.inj q q' b1 c1 c2 (live q e1 hl) (live q' e2 hl') hb1 hb2
 ·-- a hidden block
  have hx0 := hh q x hl hx
  have hidx : ∃ q0, hget S.hp q0 ≠ .dead ∧ β.hid q0 x ∧ (q = S.nx → q0 = id ∧ Bc x) ∧ (q ≠ S.nx → q0 = q) := by
   rcases hx0 with ⟨e1, h1⟩ | ⟨e1, h1, h2, h3⟩
   ·exact ⟨id, hl0, hsub x (hBn x h1), fun _ => ⟨rfl, hBn x h1⟩, fun h => absurd e1 h⟩
   ·exact ⟨q, h1, h2, fun h => absurd h e1, fun _ => rfl⟩
  obtain ⟨q0, g1, g2, g3, g4⟩ := hidx
  have hr := r.hid q0 x g1 g2
  refine ⟨hr.lt, hr.m, hr.old, fun p b1 c1 hl1 hb1 => ?_, fun p hl1 hx1 => ?_⟩
  ·by_cases e2 : p = S.nx
   ·subst e2
    rw [en] at hb1
    simp only [Option.some.injEq] at hb1
    intro e; subst e
    obtain ⟨k1, k2⟩ := hloc _ c1 hb1
    rcases hx0 with ⟨e1, h1⟩ | ⟨e1, h1, h2, h3⟩
    ·exact k2 h1
    ·have := (r.hid q _ h1 h2).un id hl0 (hsub _ k1)
     exact h3 this.symm k1
   ·rw [eo p e2] at hb1
    exact hr.ne p b1 c1 (live p e2 hl1) hb1
  ·rcases hh p x hl1 hx1 with ⟨e2, h2⟩ | ⟨e2, h2, h3, h4⟩
   ·rcases hx0 with ⟨e1, h1⟩ | ⟨e1, h1, h2', h3'⟩
    ·rw [e1, e2]
    ·exfalso
     have := (r.hid q _ h1 h2').un id hl0 (hsub _ (hBn x h2))
     exact h3' this.symm (hBn x h2)
   ·rcases hx0 with ⟨e1, h1⟩ | ⟨e1, h1, h2', h3'⟩
    ·exfalso
     have := (r.hid id _ hl0 (hsub _ (hBn x h1))).un p h2 h3
     exact h4 this (hBn x h1)
    ·exact (r.hid q _ h1 h2').un p h2 h3
 ·have hq : S.nx + 1 ≤ q := hq
  rw [eo q (by omega)]; exact r.nx q (by omega)
 ·obtain ⟨p1, p2⟩ := r.pin q hq
  exact ⟨Nat.lt_succ_of_lt p1, by rw [eo q (Nat.ne_of_lt p1)]; exact p2⟩
theorem Rel.untake (r : Rel K m β w a S) {id id2 : Nat} (hl0 : hget S.hp id ≠ .dead) (hl2 : hget S.hp id2 ≠ .dead) (hne : id ≠ id2) (ob' : Ob)
  (hob : ∀ β' : Locs, β.le β' → ObOk m β' w (fun x => β.hid id x ∨ (β.hid id2 x ∨ ∃ c, β id2 = some (some (x, c)))) (β id) ob') :
  ∃ m' β', Rel K m' β' w a ⟨S.env, (id, ob') :: (id2, .dead) :: S.hp, S.nx⟩ := by
 let Bn : Nat → Prop := fun x => β.hid id2 x ∨ ∃ c, β id2 = some (some (x, c))
 let β' : Locs := ⟨β.f, fun q => if q = id then (fun x => β.hid id x ∨ Bn x) else β.hid q⟩
 have hid' : β'.hid id = fun x => β.hid id x ∨ Bn x := by show (if _ then _ else _) = _; rw [if_pos rfl]
 have hoth : ∀ q, q ≠ id → β'.hid q = β.hid q := fun q h => by show (if _ then _ else _) = _; rw [if_neg h]
 have hle : β.le β' := fun q l h => h
 have hg : ∀ q, hget ((id, ob') :: (id2, .dead) :: S.hp) q = if id = q then ob' else if id2 = q then .dead else hget S.hp q := fun q => by rw [hget_put, hget_put]
 have live : ∀ q, hget ((id, ob') :: (id2, .dead) :: S.hp) q ≠ .dead → hget S.hp q ≠ .dead ∧ q ≠ id2 := by
  intro q h
  rw [hg] at h
  split at h
  ·rename_i e; subst e; exact ⟨hl0, hne⟩
  ·split at h
   ·exact absurd rfl h
   ·rename_i e1 e2; exact ⟨h, Ne.symm e2⟩
 -- the blocks that the cell leads to now
 have hBn : ∀ x, Bn x → x < w.heap.size ∧ m x = none ∧ (x < K.w0.heap.size → ¬ K.old x) ∧ (∀ p b c, hget S.hp p ≠ .dead → p ≠ id2 → β p = some (some (b, c)) → x ≠ b) ∧ ∀ p, hget S.hp p ≠ .dead → p ≠ id2 → ¬ β.hid p x := by
  intro x hx
  rcases hx with hx | ⟨c, hx⟩
  ·have h := r.hid id2 x hl2 hx
   exact ⟨h.lt, h.m, h.old, fun p b c hp _ hb => h.ne p b c hp hb, fun p hp hpe hh => hpe (h.un p hp hh)⟩
  ·obtain ⟨h1, h2⟩ := r.priv id2 x c hl2 hx
   exact ⟨live_lt hl2 hx (r.own id2), h1, h2, fun p b c2 hp hpe hb e => by subst e; exact hpe (r.inj p id2 x c2 c hp hl2 hb hx), fun p hp hpe hh => (r.hid p x hp hh).ne id2 x c hl2 hx rfl⟩
 refine ⟨m, β', r.imm, r.ext, r.mold, r.frame, r.size, r.same, r.tn, r.df, fun t => (r.env t).mono (Mem.le_refl _) hle, fun q => ?_, fun q b1 c1 hl hb1 => r.priv q b1 c1 (live q hl).1 hb1, fun q q' b1 c1 c2 hl hl' hb1 hb2 => r.inj q q' b1 c1 c2 (live q hl).1 (live q' hl').1 hb1 hb2, fun q x hl hx => ?_, r.nx, r.pin⟩
 ·rw [hg]
  split
  ·rename_i h; subst h
   show ObOk m β' w (β'.hid id) (β id) _
   rw [hid']; exact hob β' hle
  ·split
   ·exact ObOk.dead' _
   ·rename_i h1 h2
    show ObOk m β' w (β'.hid q) (β q) _
    rw [hoth q (Ne.symm h1)]
    exact ObOk.mono (Mem.le_refl _) hle (fun _ _ h => h) (fun _ _ => rfl) (r.own q)
 ·obtain ⟨l1, l2⟩ := live q hl
  by_cases e1 : q = id
  ·subst e1
   rw [hid'] at hx
   rcases hx with hx | hx
   ·have h := r.hid q x hl0 hx
    refine ⟨h.lt, h.m, h.old, fun p b1 c1 hp hb1 => h.ne p b1 c1 (live p hp).1 hb1, fun p hp hx' => ?_⟩
    by_cases e2 : p = q
    ·exact e2
    ·rw [hoth p e2] at hx'; exact h.un p (live p hp).1 hx'
   ·obtain ⟨h1, h2, h3, h4, h5⟩ := hBn x hx
    refine ⟨h1, h2, h3, fun p b1 c1 hp hb1 => h4 p b1 c1 (live p hp).1 (live p hp).2 hb1, fun p hp hx' => ?_⟩
    by_cases e2 : p = q
    ·exact e2
    ·rw [hoth p e2] at hx'; exact absurd hx' (h5 p (live p hp).1 (live p hp).2)
  ·rw [hoth q e1] at hx
   have h := r.hid q x l1 hx
   refine ⟨h.lt, h.m, h.old, fun p b1 c1 hp hb1 => h.ne p b1 c1 (live p hp).1 hb1, fun p hp hx' => ?_⟩
   by_cases e2 : p = id
   ·subst e2
    rw [hid'] at hx'
    rcases hx' with hx' | hx'
    ·exact h.un p hl0 hx'
    ·exact absurd hx ((hBn x hx').2.2.2.2 q l1 l2)
   ·rw [hoth p e2] at hx'; exact h.un p (live p hp).1 hx'
theorem ghost_untake (id i j id2 : Nat) {e k e' k' n : Nat} {rows : List (List V)} {row : List V} {rws : List (List V)} (ho : hget S.hp id = .arr e k rows) (hi : rows[i]? = some row) (hj : row[j]? = some (.own id2 n))
  (ho2 : hget S.hp id2 = .arr e' k' rws) (hn : n = rws.length) (hne : Nat.beq id id2 = false) (hkp : ∀ r, r ∈ rws → Keeps r) :
  Ghost K S ⟨S.env, (id, .arr e k (setC rows i row j (.dsl e' k' rws))) :: (id2, .dead) :: S.hp, S.nx⟩ := by
 subst hn
 have hne : id ≠ id2 := fun h => by rw [h, Nat.beq_refl] at hne; simp at hne
 intro m β w a r
 have hl0 : hget S.hp id ≠ .dead := by rw [ho]; simp
 have hl2 : hget S.hp id2 ≠ .dead := by rw [ho2]; simp
 have hown := r.own id
 rw [ho] at hown
 obtain ⟨b, cap, hb⟩ : ∃ b cap, β id = some (some (b, cap)) := by
  match hh : β id, hown with
  | none, hown => simp [ObOk] at hown
  | some none, hown => have hown : rows = [] := hown; subst hown; simp at hi
  | some (some (b, cap)), _ => exact ⟨b, cap, rfl⟩
 rw [hb] at hown
 obtain ⟨arr, bl, q1, q2, q3, q4, q5, q6, q7⟩ := hown
 obtain ⟨v, v1, v2, v3⟩ := q7 i j row _ hi hj
 have v2 := v2.v rfl
 have hjk : j < k := by rw [← q5 row (List.mem_of_getElem? hi)]; exact (List.getElem?_eq_some_iff.1 hj).1
 have hown2 := r.own id2
 rw [ho2] at hown2
 let Bn : Nat → Prop := fun x => β.hid id2 x ∨ ∃ c, β id2 = some (some (x, c))
 have hd : DRel m w Bn (.dsl e' k' rws) v := by
  generalize hnn : rws.length = n at v2
  cases v2 with
  | imm h => cases h
  | ownNil h =>
   have : rws = [] := List.length_eq_zero_iff.1 hnn
   subst this; exact .nil _ _ _
  | @own _ _ b2 cap2 hb2 =>
   rw [hb2] at hown2
   obtain ⟨arr2, bl2, p1, p2, p3, p4, p5, p6, p7⟩ := hown2
   rw [← hnn]
   refine .sl bl2 (fun p => arr2.getD (cap2.off + p) undef) (.inr ⟨cap2, hb2⟩) (fun p hx => ?_) ⟨fun p x hx => .inl (p6.1 p x hx), p6.2⟩ p1 p2 p3 p4 p5 (fun i2 j2 row2 c2 h1 h2 => ?_) (fun i2 j2 row2 c2 h1 h2 => ?_)
   ·exact (r.hid id2 b2 hl2 (p6.1 p b2 hx)).ne id2 b2 cap2 hl2 hb2 rfl
   ·obtain ⟨u, u1, _, u3⟩ := p7 i2 j2 row2 c2 h1 h2
    have : arr2.getD (cap2.off + (i2 * k' + j2)) undef = u := by simp [Array.getD_eq_getD_getElem?, u1]
    simp only [this]; exact ⟨u1, u3⟩
   ·obtain ⟨u, u1, u2, _⟩ := p7 i2 j2 row2 c2 h1 h2
    have : arr2.getD (cap2.off + (i2 * k' + j2)) undef = u := by simp [Array.getD_eq_getD_getElem?, u1]
    simp only [this]
    rcases u2 with h | h
    ·exact .imm (hkp row2 (List.mem_of_getElem? h1) c2 (List.mem_of_getElem? h2) _ _ _ h)
    ·exact h
 have hBd : ∀ x, Bn x → ¬ β.hid id x := by
  intro x hx hh
  rcases hx with hx | ⟨c, hx⟩
  ·exact hne ((r.hid id2 x hl2 hx).un id hl0 hh)
  ·exact (r.hid id x hl0 hh).ne id2 x c hl2 hx rfl
 obtain ⟨m', β', rr⟩ := r.untake hl0 hl2 hne (.arr e k (setC rows i row j (.dsl e' k' rws))) (fun β' hle => by
  rw [hb]
  refine ⟨arr, fun p => if p = i * k + j then Bn else bl p, q1, q2, by rw [setC_len]; exact q3, q4, setC_row hi q5, ⟨fun p x hx => ?_, fun p p' x hx hx' => ?_⟩, fun i2 j2 row2 c2 h1 h2 => ?_⟩
  ·dsimp only at hx
   split at hx
   ·exact .inr hx
   ·exact .inl (q6.1 p x hx)
  ·dsimp only at hx hx'
   split at hx <;> split at hx'
   ·rename_i e1 e2; rw [e1, e2]
   ·exact absurd (q6.1 _ x hx') (hBd x hx)
   ·exact absurd (q6.1 _ x hx) (hBd x hx')
   ·exact q6.2 _ _ x hx hx'
  ·rcases setC_get hi hj h1 h2 with ⟨rfl, rfl, rfl⟩ | ⟨row3, h3, h4, h5⟩
   ·exact ⟨v, v1, by show CRel _ _ _ (if _ then _ else _) _ _; rw [if_pos rfl]; exact .inr hd, v3⟩
   ·obtain ⟨u, u1, u2, u3⟩ := q7 i2 j2 row3 c2 h3 h4
    have hj2 : j2 < k := by rw [← q5 row3 (List.mem_of_getElem? h3)]; exact (List.getElem?_eq_some_iff.1 h4).1
    refine ⟨u, u1, ?_, u3⟩
    show CRel _ _ _ (if _ then _ else _) _ _
    rw [if_neg (cell_ne h5 hjk hj2)]
    exact u2.mono (Mem.le_refl _) hle (fun _ h => h) (fun _ _ => rfl))
 exact ⟨m', β', rr⟩
end
inductive Und : V → V → Prop
 | imm {c : V} (h : c.deep = false) : Und c c
 | sl {e k : Nat} {rows rows' : List (List V)} (hl : rows.length = rows'.length)
   (h0 : ∀ (i : Nat) (r r' : List V), rows[i]? = some r → rows'[i]? = some r' → r.length = r'.length)
   (h : ∀ (i j : Nat) (r r' : List V) (c c' : V), rows[i]? = some r → rows'[i]? = some r' → r[j]? = some c → r'[j]? = some c' → Und c c') : Und (.dsl e k rows) (.lst k rows')
 | mp {es es' : List (Value × V)} (hl : es.length = es'.length)
   (hk : ∀ (i : Nat) (p p' : Value × V), es[i]? = some p → es'[i]? = some p' → p.1 = p'.1)
   (h : ∀ (i : Nat) (p p' : Value × V), es[i]? = some p → es'[i]? = some p' → Und p.2 p'.2) : Und (.dmp es) (.imap es')
 | pt {e : Nat} {row row' : List V} (hl : row.length = row'.length) (h : ∀ (j : Nat) (c c' : V), row[j]? = some c → row'[j]? = some c' → Und c c') : Und (.dpt e row) (.iptr row' 0)
theorem flat_idx {k n p : Nat} (h : p < n * k) : p / k < n ∧ p % k < k ∧ (p / k) * k + p % k = p := by
 have hk : 0 < k := by
  rcases Nat.eq_zero_or_pos k with h0 | h0
  ·subst h0; simp at h
  ·exact h0
 refine ⟨(Nat.div_lt_iff_lt_mul hk).2 h, Nat.mod_lt _ hk, ?_⟩
 rw [Nat.mul_comm]; exact Nat.div_add_mod p k
theorem DRel.und {m m' : Mem} {w : World} {B : Nat → Prop} {c : V} {v : Value} (h : DRel m w B c v) (hm : m.le m') : ∀ c', Und c c' → (∀ x, B x → m' x = w.heap[x]?) → IRel m' c' v := by
 induction h with
 | imm h =>
  intro c' hu _
  cases hu with
  | imm _ => exact h.mono hm
  | sl _ _ _ => cases h
  | mp _ _ _ => cases h
  | pt _ _ => cases h
 | nil e k a =>
  intro c' hu _
  cases hu with
  | imm h => simp [V.deep] at h
  | sl hl _ _ =>
   have := List.length_eq_zero_iff.1 hl.symm
   subst this; exact .nil _ _ _
 | @sl B k b cap off e rows arr bl f hb hbb hBl h1 h2 h3 h4 h5 h6 _ ih =>
  intro c' hu hB
  cases hu with
  | imm h => simp [V.deep] at h
  | @sl _ _ _ rows' hl h0 hh =>
   have hlen : ∀ r', r' ∈ rows' → r'.length = k := by
    intro r' hr
    obtain ⟨i, hi⟩ := List.mem_iff_getElem?.1 hr
    have hlt := (List.getElem?_eq_some_iff.1 hi).1
    have hlt' : i < rows.length := by omega
    rw [← h0 i _ r' (List.getElem?_eq_getElem hlt') hi]
    exact h5 _ (List.getElem_mem hlt')
   refine .lst (T := e) (arr := arr) (fr := (0, 0)) f (by rw [hB b hb, h1]) rfl hl.symm h3 (by omega) hlen (fun p hp => ?_) (fun i j r' c' hr hc => ?_)
   ·rw [← hl] at hp
    obtain ⟨g1, g2, g3⟩ := flat_idx hp
    have hr : rows[p / k]? = some rows[p / k] := List.getElem?_eq_getElem g1
    have hlr : p % k < rows[p / k].length := by rw [h5 _ (List.getElem_mem g1)]; exact g2
    have := (h6 (p / k) (p % k) _ _ hr (List.getElem?_eq_getElem hlr)).1
    rw [g3] at this; exact this
   ·have hlt := (List.getElem?_eq_some_iff.1 hr).1
    have hlt' : i < rows.length := by omega
    have hr0 : rows[i]? = some rows[i] := List.getElem?_eq_getElem hlt'
    have hj := (List.getElem?_eq_some_iff.1 hc).1
    have hj' : j < rows[i].length := by rw [h0 i _ r' hr0 hr]; exact hj
    have hc0 : rows[i][j]? = some rows[i][j] := List.getElem?_eq_getElem hj'
    exact ih i j _ _ hr0 hc0 c' (hh i j _ r' _ c' hr0 hr hc0 hc) (fun x hx => hB x (hBl.1 _ x hx))
 | @mp B b es ents clock bl hb hbb hBl h1 h2 h3 _ ih =>
  intro c' hu hB
  cases hu with
  | imm h => simp [V.deep] at h
  | @mp _ es' hl hkk hh =>
   refine .imap (by rw [hB b hb]; exact h1) (by rw [← hl]; exact h2) (fun i p' e hp he => ?_) (fun i p' e hp he => ?_)
   ·have hlt : i < es.length := by rw [hl]; exact (List.getElem?_eq_some_iff.1 hp).1
    rw [h3 i _ e (List.getElem?_eq_getElem hlt) he]
    exact hkk i _ p' (List.getElem?_eq_getElem hlt) hp
   ·have hlt : i < es.length := by rw [hl]; exact (List.getElem?_eq_some_iff.1 hp).1
    exact ih i _ e (List.getElem?_eq_getElem hlt) he _ (hh i _ p' (List.getElem?_eq_getElem hlt) hp) (fun x hx => hB x (hBl.1 _ x hx))
 | @pt B b row T arr bl f hb hbb hBl h1 h2 h3 _ ih =>
  intro c' hu hB
  cases hu with
  | imm h => simp [V.deep] at h
  | @pt _ _ row' hl hh =>
   refine .iptr (T := T) (arr := arr) (fr := (0, 0)) f 0 (by rw [hB b hb, h1]) rfl rfl (fun p hp => ?_) (fun j c' hc => ?_)
   ·have hlt : p < row.length := by omega
    have := (h3 p _ (List.getElem?_eq_getElem hlt)).1
    simpa using this
   ·have hlt : j < row.length := by rw [hl]; exact (List.getElem?_eq_some_iff.1 hc).1
    exact ih j _ (List.getElem?_eq_getElem hlt) c' (hh j _ c' (List.getElem?_eq_getElem hlt) hc) (fun x hx => hB x (hBl.1 _ x hx))
section
variable {K : Ctx} {S : St}
theorem ghost_freezeD (id : Nat) {e : TypeId} {k : Nat} {rows : List (List V)} (rows' : List (List V)) (env : Env) (hp : Heap) (ho : hget S.hp id = .arr e k rows) (hl : rows.length = rows'.length)
  (h0 : ∀ (i : Nat) (r r' : List V), rows[i]? = some r → rows'[i]? = some r' → r.length = r'.length)
  (hu : ∀ (i j : Nat) (r r' : List V) (c c' : V), rows[i]? = some r → rows'[i]? = some r' → r[j]? = some c → r'[j]? = some c' → Und c c' ∧ Keep c)
  (henv : ∀ t, Sub (Frz id k rows') (get env t) (get S.env t)) (hhp : ∀ i, ObSub (Frz id k rows') (hget hp i) (hget S.hp i)) (hd : hget hp id = .dead) : Ghost K S ⟨env, hp, S.nx⟩ := by
 intro m β w a r
 have hlid : hget S.hp id ≠ .dead := by rw [ho]; simp
 have hown := r.own id
 rw [ho] at hown
 cases hb : β id with
 | none => rw [hb] at hown; simp [ObOk] at hown
 | some l =>
 have key : ∃ m', (∀ b o, m' b = some o → w.heap[b]? = some o) ∧ Frz id k rows' m β m' β ∧ (∀ b, m' b = m b ∨ (∃ cap, l = some (b, cap)) ∨ β.hid id b) := by
  cases l with
  | none =>
   rw [hb] at hown
   have : rows = [] := hown
   subst this
   have : rows' = [] := List.length_eq_zero_iff.1 hl.symm
   subst this
   refine ⟨m, r.imm, ⟨Mem.le_refl _, rfl, fun n x hx hn => ?_, fun i o row x hr => by simp at hr⟩, fun b => .inl rfl⟩
   simp at hn; subst hn
   cases hx with
   | imm h => cases h
   | ownNil h => exact .nil k _ 0
   | own h => rw [hb] at h; simp at h
  | some p =>
   obtain ⟨b, cap⟩ := p
   rw [hb] at hown
   obtain ⟨arr, bl, h1, h2, h3, h4, h5, hBl, h6⟩ := hown
   have hp' := r.priv id b cap hlid hb
   classical
   let m' : Mem := fun b' => if b' = b ∨ β.hid id b' then w.heap[b']? else m b'
   have hmb : ∀ x, (x = b ∨ β.hid id x) → m' x = w.heap[x]? := fun x h => by simp only [m']; rw [if_pos h]
   have hmo : ∀ x, ¬ (x = b ∨ β.hid id x) → m' x = m x := fun x h => by simp only [m']; rw [if_neg h]
   have hle : m.le m' := by
    intro b' o h
    rw [hmo]
    ·exact h
    ·rintro (e' | e')
     ·subst e'; rw [hp'.1] at h; simp at h
     ·rw [(r.hid id b' hlid e').m] at h; simp at h
   have hcells : ∀ i, i < rows.length * k → arr[cap.off + i]? = some (arr.getD (cap.off + i) undef) := by
    intro i hi'
    have : cap.off + i < arr.size := by rw [h2]; have := Nat.lt_of_lt_of_le hi' (Nat.mul_le_mul_right k h3); omega
    simp [Array.getD_eq_getD_getElem?, this]
   have hold : ∀ (i : Nat) (r' : List V), rows'[i]? = some r' → ∃ r : List V, rows[i]? = some r ∧ r.length = r'.length := by
    intro i r' hr
    have hlt : i < rows.length := by rw [hl]; exact (List.getElem?_eq_some_iff.1 hr).1
    exact ⟨rows[i], List.getElem?_eq_getElem hlt, h0 i _ r' (List.getElem?_eq_getElem hlt) hr⟩
   have hrel : ∀ (i j : Nat) (row : List V) (c : V), rows'[i]? = some row → row[j]? = some c → IRel m' c (arr.getD (cap.off + (i * k + j)) undef) := by
    intro i j row' c' hr hj
    obtain ⟨row, hr0, hlen⟩ := hold i row' hr
    have hj1 := (List.getElem?_eq_some_iff.1 hj).1
    have hc0 : row[j]? = some row[j] := List.getElem?_eq_getElem (by omega)
    obtain ⟨v, a1, a2, _⟩ := h6 i j row _ hr0 hc0
    obtain ⟨u1, u2⟩ := hu i j row row' _ c' hr0 hr hc0 hj
    have hd : DRel m w (bl (i * k + j)) row[j] v := a2.elim (fun h => .imm (u2 _ _ _ h)) (fun h => h)
    simp only [Array.getD_eq_getD_getElem?, a1, Option.getD_some]
    exact hd.und hle c' u1 (fun x hx => hmb x (.inr (hBl.1 _ x hx)))
   have hk' : ∀ row, row ∈ rows' → row.length = k := by
    intro row hr
    obtain ⟨i, hi⟩ := List.mem_iff_getElem?.1 hr
    obtain ⟨r0, hr0, hlen⟩ := hold i row hi
    rw [← hlen]; exact h5 r0 (List.mem_of_getElem? hr0)
   refine ⟨m', ?_, ⟨hle, rfl, ?_, ?_⟩, ?_⟩
   ·intro b' o h
    by_cases hbb : b' = b ∨ β.hid id b'
    ·rw [hmb b' hbb] at h; exact h
    ·rw [hmo b' hbb] at h; exact r.imm _ _ h
   ·intro n x hx hn
    cases hx with
    | imm h => cases h
    | ownNil h => exact .nil k _ 0
    | @own _ _ b2 cap2 h =>
     rw [hb] at h
     simp only [Option.some.injEq, Prod.mk.injEq] at h
     obtain ⟨rfl, rfl⟩ := h
     refine .lst (T := e) (arr := arr) (fr := (0, 0)) (fun i => arr.getD (cap.off + i) undef) (by rw [hmb b (.inl rfl), h1]) rfl (by simp; omega) (by omega) (by omega) (fun row hr => hk' row (List.mem_of_mem_take hr)) ?_ ?_
     ·intro i hi'
      refine hcells i (Nat.lt_of_lt_of_le hi' (Nat.mul_le_mul_right _ ?_))
      rw [List.length_take, hl]; exact Nat.min_le_right _ _
     ·intro i j row c hr hj
      rw [List.getElem?_take] at hr
      split at hr
      ·exact hrel i j row c hr hj
      ·simp at hr
   ·intro i o row x hr hx
    cases hx with
    | imm h => cases h
    | @ptr _ _ _ _ b2 cap2 h =>
     rw [hb] at h
     simp only [Option.some.injEq, Prod.mk.injEq] at h
     obtain ⟨rfl, rfl⟩ := h
     have hrk := hk' row (List.mem_of_getElem? hr)
     refine .iptr (T := e) (arr := arr) (fr := (0, 0)) (fun j => arr.getD (cap.off + (i * k + j)) undef) (cap.off + i * k) (by rw [hmb b (.inl rfl), h1]) rfl (by simp; omega) ?_ ?_
     ·intro j hj
      rw [Nat.add_assoc]
      refine hcells _ ?_
      calc i * k + j < i * k + k := by omega
       _ = (i + 1) * k := by rw [Nat.add_mul, Nat.one_mul]
       _ ≤ rows.length * k := Nat.mul_le_mul_right _ (by rw [hl]; exact (List.getElem?_eq_some_iff.1 hr).1)
     ·exact fun j c hj => hrel i j row c hr hj
   ·intro b'
    by_cases hbb : b' = b ∨ β.hid id b'
    ·rcases hbb with h | h
     ·exact .inr (.inl ⟨cap, by rw [h]⟩)
     ·exact .inr (.inr h)
    ·exact .inl (hmo b' hbb)
 obtain ⟨m', k1, hy, k2⟩ := key
 have hlive : ∀ i, hget hp i ≠ .dead → hget S.hp i ≠ .dead ∧ i ≠ id := by
  intro i h
  have h2 := hhp i
  refine ⟨fun hdd => ?_, fun he => h (by rw [he]; exact hd)⟩
  rw [hdd] at h2
  cases ho' : hget hp i with
  | dead => exact h ho'
  | arr => rw [ho'] at h2; simp [ObSub] at h2
  | res => rw [ho'] at h2; simp [ObSub] at h2
  | map => rw [ho'] at h2; simp [ObSub] at h2
  | iter => rw [ho'] at h2; simp [ObSub] at h2
  | bld => rw [ho'] at h2; simp [ObSub] at h2
 refine ⟨m', β, ?_⟩
 constructor
 ·exact k1
 ·exact Mem.le_trans r.ext hy.1
 ·intro b hb' hold
  rcases k2 b with h | ⟨cap, h⟩ | h
  ·rw [h]; exact r.mold b hb' hold
  ·subst h
   exact absurd hold ((r.priv id b cap hlid hb).2 hb')
  ·exact absurd hold ((r.hid id b hlid h).old hb')
 ·exact r.frame
 ·exact r.size
 ·exact r.same
 ·exact r.tn
 ·exact r.df
 ·exact fun t => henv t _ _ _ _ _ hy (r.env t)
 ·intro i
  exact (hhp i).ok hy (r.own i)
 ·intro i b cap hl hb'
  obtain ⟨h1, h2⟩ := hlive i hl
  have hp' := r.priv i b cap h1 hb'
  refine ⟨?_, hp'.2⟩
  rcases k2 b with h | ⟨cap', h⟩ | h
  ·rw [h]; exact hp'.1
  ·subst h
   exact absurd (r.inj i id b cap cap' h1 hlid hb' hb) h2
  ·exact absurd rfl ((r.hid id b hlid h).ne i b cap h1 hb')
 ·intro i i' b cap cap' hl hl'
  exact r.inj i i' b cap cap' (hlive i hl).1 (hlive i' hl').1
 ·intro i x hl hx
  obtain ⟨h1, h2⟩ := hlive i hl
  have h := r.hid i x h1 hx
  refine ⟨h.lt, ?_, h.old, fun i' b c hi' => h.ne i' b c (hlive i' hi').1, fun i' hi' => h.un i' (hlive i' hi').1⟩
  rcases k2 x with h' | ⟨cap', h'⟩ | h'
  ·rw [h']; exact h.m
  ·subst h'
   exact absurd rfl (h.ne id x cap' hlid hb)
  ·exact absurd (h.un id hlid h') (Ne.symm h2)
 ·exact r.nx
 ·exact r.pin
end
end Go.Pv
namespace Go.Pv
open Go
set_option linter.unusedVariables false
set_option linter.unusedSimpArgs false
section
variable {K : Ctx} {Q : Post} {S : St}
variable {m : Mem} {β : Locs} {w : World} {a : Act}
variable {ops : Array Oper} {rest : List Oper} {ty : TypeId} {pos : String} {after : Array Edge} {g : Option (Nat × Bool)}
inductive LookT (x : Value) (nx e k : Nat) : List (Value × V) → List (Value × V) → List (List V) → Prop
 | nil : LookT x nx e k [] [] []
 | here {rws : List (List V)} {es : List (Value × V)} : LookT x nx e k ((x, .dsl e k rws) :: es) ((x, .own nx rws.length) :: es) rws
 | there {q : Value} {v : V} {es es' : List (Value × V)} {rws : List (List V)} (h : q ≠ x) (h' : LookT x nx e k es es' rws) : LookT x nx e k ((q, v) :: es) ((q, v) :: es') rws
theorem LookT.cases {x : Value} {nx e k : Nat} {es es' : List (Value × V)} {rws : List (List V)} (h : LookT x nx e k es es' rws) :
  (es' = es ∧ rws = [] ∧ ∀ p, p ∈ es → p.1 ≠ x) ∨ ∃ i, es[i]? = some (x, .dsl e k rws) ∧ es' = es.set i (x, .own nx rws.length) ∧ Look x es' (some (.own nx rws.length)) := by
 induction h with
 | nil => exact .inl ⟨rfl, rfl, by simp⟩
 | here => exact .inr ⟨0, rfl, rfl, .here⟩
 | @there q v es es' rws h h' ih =>
  rcases ih with ⟨h1, h2, h3⟩ | ⟨i, h1, h2, h3⟩
  ·refine .inl ⟨by rw [h1], h2, fun p hp => ?_⟩
   rcases List.mem_cons.1 hp with e | e
   ·rw [e]; exact h
   ·exact h3 p e
  ·exact .inr ⟨i + 1, by simpa using h1, by rw [h2]; rfl, .there h h3⟩
end
end Go.Pv
namespace Go.Pv
open Go
section
variable {K : Ctx} {Q : Post} {S : St}
variable {m : Mem} {β : Locs} {w : World} {a : Act}
variable {ops : Array Oper} {rest : List Oper} {ty : TypeId} {pos : String} {after : Array Edge} {g : Option (Nat × Bool)}
theorem Puts.other {x : Value} {v : V} {es es3 : List (Value × V)} (h : Puts x v es es3) (v' : V) : ∃ es2 i, Puts x v' es es2 ∧ es2[i]? = some (x, v') ∧ es3 = es2.set i (x, v) := by
 induction h with
 | nil => exact ⟨[(x, v')], 0, .nil, rfl, rfl⟩
 | @here v0 es => exact ⟨(x, v') :: es, 0, .here, rfl, rfl⟩
 | @there k v0 es es3 h h' ih =>
  obtain ⟨es2, i, h1, h2, h3⟩ := ih
  exact ⟨(k, v0) :: es2, i + 1, .there h h1, by simpa using h2, by rw [h3]; rfl⟩
variable {κ α : Type} [DecidableEq κ]
end
end Go.Pv
namespace Go.Pv
open Go
set_option linter.unusedVariables false
set_option linter.unusedSimpArgs false
section
variable {K : Ctx} {S : St}
variable {m : Mem} {β : Locs} {w : World} {a : Act}
theorem Rel.takeG (r : Rel K m β w a S) (id0 nx' : Nat) (hfree : β id0 = none) (hpid : ∀ q, q < K.pins → q ≠ id0) (hidn : id0 < nx') (hnn : S.nx ≤ nx') {id : Nat} (hl0 : hget S.hp id ≠ .dead) (hnid : id ≠ id0) (Bc Bn : Nat → Prop) (loc : Option (Nat × Cap)) (ob' ob2 : Ob) (hsub : ∀ x, Bc x → β.hid id x) (hBn : ∀ x, Bn x → Bc x)
  (hloc : ∀ b' c', loc = some (b', c') → Bc b' ∧ ¬ Bn b') (hobj : ∀ β' : Locs, ObOk m β' w Bn (some loc) ob2)
  (hob : ∀ β' : Locs, β.le β' → β' id0 = some loc → ObOk m β' w (fun x => β.hid id x ∧ ¬ Bc x) (β id) ob') :
  ∃ m' β', Rel K m' β' w a ⟨S.env, (id, ob') :: (id0, ob2) :: S.hp, nx'⟩ := by
 let β' : Locs := ⟨fun q => if q = id0 then some loc else β q, fun q => if q = id0 then Bn else if q = id then (fun x => β.hid id x ∧ ¬ Bc x) else β.hid q⟩
 have en : β' id0 = some loc := by show (if _ then _ else _) = _; rw [if_pos rfl]
 have eo : ∀ q, q ≠ id0 → β' q = β q := fun q h => by show (if _ then _ else _) = _; rw [if_neg h]
 have hn : β'.hid id0 = Bn := by show (if _ then _ else _) = _; rw [if_pos rfl]
 have hid' : β'.hid id = fun x => β.hid id x ∧ ¬ Bc x := by show (if _ then _ else if _ then _ else _) = _; rw [if_neg hnid, if_pos rfl]
 have hoth : ∀ q, q ≠ id0 → q ≠ id → β'.hid q = β.hid q := fun q h1 h2 => by show (if _ then _ else if _ then _ else _) = _; rw [if_neg h1, if_neg h2]
 have hle : β.le β' := by
  intro q l h
  rw [eo q]
  ·exact h
  ·intro e; rw [e, hfree] at h; simp at h
 have hg : ∀ q, hget ((id, ob') :: (id0, ob2) :: S.hp) q = if id = q then ob' else if id0 = q then ob2 else hget S.hp q := fun q => by rw [hget_put, hget_put]
 have live : ∀ q, q ≠ id0 → hget ((id, ob') :: (id0, ob2) :: S.hp) q ≠ .dead → hget S.hp q ≠ .dead := by
  intro q hq h
  rw [hg] at h
  split at h
  ·rename_i e; rw [← e]; exact hl0
  ·rw [if_neg (Ne.symm hq)] at h; exact h
 -- the hidden blocks of the new state, seen in the old one
 have hh : ∀ q x, hget ((id, ob') :: (id0, ob2) :: S.hp) q ≠ .dead → β'.hid q x → (q = id0 ∧ Bn x) ∨ (q ≠ id0 ∧ hget S.hp q ≠ .dead ∧ β.hid q x ∧ (q = id → ¬ Bc x)) := by
  intro q x hl hx
  by_cases e1 : q = id0
  ·subst e1; rw [hn] at hx; exact .inl ⟨rfl, hx⟩
  ·refine .inr ⟨e1, live q e1 hl, ?_⟩
   by_cases e2 : q = id
   ·subst e2; rw [hid'] at hx; exact ⟨hx.1, fun _ => hx.2⟩
   ·rw [hoth q e1 e2] at hx; exact ⟨hx, fun h => absurd h e2⟩
 refine ⟨m, β', r.imm, r.ext, r.mold, r.frame, r.size, r.same, r.tn, r.df, fun t => (r.env t).mono (Mem.le_refl _) hle, fun q => ?_, fun q b1 c1 hl hb1 => ?_, fun q q' b1 c1 c2 hl hl' hb1 hb2 => ?_, fun q x hl hx => ?_, fun q hq => ?_, fun q hq => ?_⟩
 ·rw [hg]
  split
  ·rename_i h; subst h
   show ObOk m β' w (β'.hid id) (β' id) _
   rw [hid', eo id hnid]; exact hob β' hle en
  ·split
   ·rename_i h; subst h
    show ObOk m β' w (β'.hid id0) (β' id0) _
    rw [hn, en]; exact hobj β'
   ·rename_i h1 h2
    show ObOk m β' w (β'.hid q) (β' q) _
    rw [hoth q (Ne.symm h2) (Ne.symm h1), eo q (Ne.symm h2)]
    exact ObOk.mono (Mem.le_refl _) hle (fun _ _ h => h) (fun _ _ => rfl) (r.own q)
 ·by_cases e1 : q = id0
  ·subst e1; rw [en] at hb1
   simp only [Option.some.injEq] at hb1
   have h := r.hid id b1 hl0 (hsub _ (hloc b1 c1 hb1).1)
   exact ⟨h.m, h.old⟩
  ·rw [eo q e1] at hb1; exact r.priv q b1 c1 (live q e1 hl) hb1
 ·have key : ∀ q c, q ≠ id0 → hget S.hp q ≠ .dead → β q = some (some (b1, c)) → ∀ c', loc = some (b1, c') → False := by
   intro q c _ hl hbq c' hc
   exact (r.hid id b1 hl0 (hsub _ (hloc b1 c' hc).1)).ne q b1 c hl hbq rfl
  by_cases e1 : q = id0 <;> by_cases e2 : q' = id0
  ·rw [e1, e2]
  ·exfalso; subst e1
   rw [en] at hb1; rw [eo q' e2] at hb2
   simp only [Option.some.injEq] at hb1
   exact key q' c2 e2 (live q' e2 hl') hb2 c1 hb1
  ·exfalso; subst e2
   rw [en] at hb2; rw [eo q e1] at hb1
   simp only [Option.some.injEq] at hb2
   exact key q c1 e1 (live q e1 hl) hb1 c2 hb2
  ·rw [eo q e1] at hb1; rw [eo q' e2] at hb2
   exact r.inj q q' b1 c1 c2 (live q e1 hl) (live q' e2 hl') hb1 hb2
 ·-- a hidden block
  have hx0 := hh q x hl hx
  have hidx : ∃ q0, hget S.hp q0 ≠ .dead ∧ β.hid q0 x ∧ (q = id0 → q0 = id ∧ Bc x) ∧ (q ≠ id0 → q0 = q) := by
   rcases hx0 with ⟨e1, h1⟩ | ⟨e1, h1, h2, h3⟩
   ·exact ⟨id, hl0, hsub x (hBn x h1), fun _ => ⟨rfl, hBn x h1⟩, fun h => absurd e1 h⟩
   ·exact ⟨q, h1, h2, fun h => absurd h e1, fun _ => rfl⟩
  obtain ⟨q0, g1, g2, g3, g4⟩ := hidx
  have hr := r.hid q0 x g1 g2
  refine ⟨hr.lt, hr.m, hr.old, fun p b1 c1 hl1 hb1 => ?_, fun p hl1 hx1 => ?_⟩
  ·by_cases e2 : p = id0
   ·subst e2
    rw [en] at hb1
    simp only [Option.some.injEq] at hb1
    intro e; subst e
    obtain ⟨k1, k2⟩ := hloc _ c1 hb1
    rcases hx0 with ⟨e1, h1⟩ | ⟨e1, h1, h2, h3⟩
    ·exact k2 h1
    ·have := (r.hid q _ h1 h2).un id hl0 (hsub _ k1)
     exact h3 this.symm k1
   ·rw [eo p e2] at hb1
    exact hr.ne p b1 c1 (live p e2 hl1) hb1
  ·rcases hh p x hl1 hx1 with ⟨e2, h2⟩ | ⟨e2, h2, h3, h4⟩
   ·rcases hx0 with ⟨e1, h1⟩ | ⟨e1, h1, h2', h3'⟩
    ·rw [e1, e2]
    ·exfalso
     have := (r.hid q _ h1 h2').un id hl0 (hsub _ (hBn x h2))
     exact h3' this.symm (hBn x h2)
   ·rcases hx0 with ⟨e1, h1⟩ | ⟨e1, h1, h2', h3'⟩
    ·exfalso
     have := (r.hid id _ hl0 (hsub _ (hBn x h1))).un p h2 h3
     exact h4 this (hBn x h1)
    ·exact (r.hid q _ h1 h2').un p h2 h3
 ·have hq : nx' ≤ q := hq
  rw [eo q (by omega)]; exact r.nx q (by omega)
 ·obtain ⟨p1, p2⟩ := r.pin q hq
  exact ⟨Nat.lt_of_lt_of_le p1 hnn, by rw [eo q (hpid q hq)]; exact p2⟩
def ovl : V → Nat → Option (V × Ob)
 | .dsl e k rws, nx => some (.own nx rws.length, .arr e k rws)
 | .dmp es, nx => some (.map nx, .map es)
 | _, _ => none
theorem ovl_live {d o : V} {ob : Ob} {id : Nat} (h : ovl d id = some (o, ob)) : ob ≠ .dead ∧ o.deep = false ∧ d.deep = true := by
 cases d <;> simp [ovl] at h
 ·obtain ⟨rfl, rfl⟩ := h; exact ⟨by simp, rfl, rfl⟩
 ·obtain ⟨rfl, rfl⟩ := h; exact ⟨by simp, rfl, rfl⟩
theorem deepG_inv {B : Nat → Prop} {d : V} {v : Value} (hd : d.deep = true) (h : CRel m β w B d v) : DRel m w B d v := by
 rcases h with h | h
 ·cases h with
  | imm h => exact .imm h
  | _ => simp [V.deep] at hd
 ·exact h
theorem deep_take {B : Nat → Prop} {d o : V} {ob : Ob} {v : Value} {id0 : Nat} (h : DRel m w B d v) (hov : ovl d id0 = some (o, ob)) :
  ∃ (loc : Option (Nat × Cap)) (Bn : Nat → Prop), (∀ β' : Locs, β' id0 = some loc → VRel m β' o v) ∧ (∀ x, Bn x → B x) ∧ (∀ b' c', loc = some (b', c') → B b' ∧ ¬ Bn b') ∧ ∀ β' : Locs, ObOk m β' w Bn (some loc) ob := by
 cases h with
 | imm h => cases h <;> simp [ovl] at hov
 | nil e k a =>
  simp only [ovl, Option.some.injEq, Prod.mk.injEq] at hov
  obtain ⟨rfl, rfl⟩ := hov
  exact ⟨none, fun _ => False, fun β' h => .ownNil h, fun _ h => h.elim, fun _ _ h => by simp at h, fun _ => rfl⟩
 | @sl _ k b' cap' off' e rows arr' bl' f hb' hbb hB hw hs hr hcap hk hf h =>
  simp only [ovl, Option.some.injEq, Prod.mk.injEq] at hov
  obtain ⟨rfl, rfl⟩ := hov
  refine ⟨some (b', ⟨cap', off'⟩), fun x => ∃ p, bl' p x, fun β' h => .own h, fun x ⟨p, hx⟩ => hB.1 p x hx, fun b2 c2 h => ?_, fun β' => ?_⟩
  ·simp only [Option.some.injEq, Prod.mk.injEq] at h; obtain ⟨rfl, _⟩ := h; exact ⟨hb', fun ⟨p, hx⟩ => hbb p hx⟩
  ·refine ⟨arr', bl', hw, hs, hr, hcap, hk, ⟨fun p x hx => ⟨p, hx⟩, hB.2⟩, fun i2 j2 row2 c2 h1 h2 => ?_⟩
   obtain ⟨f1, f2⟩ := hf i2 j2 row2 c2 h1 h2
   exact ⟨_, f1, .inr (h i2 j2 row2 c2 h1 h2), f2⟩
 | @mp _ b' es ents clock bl' hb' hbb hB hw hl hk h =>
  simp only [ovl, Option.some.injEq, Prod.mk.injEq] at hov
  obtain ⟨rfl, rfl⟩ := hov
  refine ⟨some (b', ⟨0, 0⟩), fun x => ∃ p, bl' p x, fun β' h => .map h, fun x ⟨p, hx⟩ => hB.1 p x hx, fun b2 c2 h => ?_, fun β' => ?_⟩
  ·simp only [Option.some.injEq, Prod.mk.injEq] at h; obtain ⟨rfl, _⟩ := h; exact ⟨hb', fun ⟨p, hx⟩ => hbb p hx⟩
  ·exact ⟨ents, clock, bl', hw, hl, ⟨fun p x hx => ⟨p, hx⟩, hB.2⟩, fun i2 p2 e2 h1 h2 => ⟨hk i2 p2 e2 h1 h2, .inr (h i2 p2 e2 h1 h2)⟩⟩
 | pt => simp [ovl] at hov
theorem Rel.takeC (r : Rel K m β w a S) (id i j id0 nx' : Nat) (hfree : β id0 = none) (hpid : ∀ q, q < K.pins → q ≠ id0) (hidn : id0 < nx') (hnn : S.nx ≤ nx') {e k : Nat} {rows : List (List V)} {row : List V} {d o : V} {ob : Ob} (ho : hget S.hp id = .arr e k rows) (hi : rows[i]? = some row) (hj : row[j]? = some d) (hov : ovl d id0 = some (o, ob)) :
  ∃ m' β', Rel K m' β' w a ⟨S.env, (id, .arr e k (setC rows i row j o)) :: (id0, ob) :: S.hp, nx'⟩ := by
 have hl0 : hget S.hp id ≠ .dead := by rw [ho]; simp
 have hown := r.own id
 rw [ho] at hown
 obtain ⟨b, cap, hb⟩ : ∃ b cap, β id = some (some (b, cap)) := by
  match hh : β id, hown with
  | none, hown => simp [ObOk] at hown
  | some none, hown => have hown : rows = [] := hown; subst hown; simp at hi
  | some (some (b, cap)), _ => exact ⟨b, cap, rfl⟩
 rw [hb] at hown
 obtain ⟨arr, bl, q1, q2, q3, q4, q5, q6, q7⟩ := hown
 obtain ⟨v, v1, v2, v3⟩ := q7 i j row _ hi hj
 have hjk : j < k := by rw [← q5 row (List.mem_of_getElem? hi)]; exact (List.getElem?_eq_some_iff.1 hj).1
 have hnid : id ≠ id0 := fun h => by rw [h, hfree] at hb; simp at hb
 obtain ⟨loc, Bn, hv, hBn, hloc, hobj⟩ := deep_take (deepG_inv (ovl_live hov).2.2 v2) hov
 obtain ⟨m', β', rr⟩ := r.takeG id0 nx' hfree hpid hidn hnn hl0 hnid (bl (i * k + j)) Bn loc (.arr e k (setC rows i row j o)) ob (fun x hx => q6.1 _ x hx) hBn hloc hobj (fun β' hle en => by
  rw [hb]
  refine ⟨arr, fun p => if p = i * k + j then (fun _ => False) else bl p, q1, q2, by rw [setC_len]; exact q3, q4, setC_row hi q5, ⟨fun p x hx => ?_, fun p p' x hx hx' => ?_⟩, fun i2 j2 row2 c2 h1 h2 => ?_⟩
  ·dsimp only at hx
   split at hx
   ·exact hx.elim
   ·rename_i hne; exact ⟨q6.1 p x hx, fun h => hne (q6.2 _ _ x hx h)⟩
  ·dsimp only at hx hx'
   split at hx
   ·exact hx.elim
   ·split at hx'
    ·exact hx'.elim
    ·exact q6.2 _ _ x hx hx'
  ·rcases setC_get hi hj h1 h2 with ⟨rfl, rfl, rfl⟩ | ⟨row3, h3, h4, h5⟩
   ·exact ⟨v, v1, .inl (hv β' en), v3⟩
   ·obtain ⟨u, u1, u2, u3⟩ := q7 i2 j2 row3 c2 h3 h4
    have hj2 : j2 < k := by rw [← q5 row3 (List.mem_of_getElem? h3)]; exact (List.getElem?_eq_some_iff.1 h4).1
    refine ⟨u, u1, ?_, u3⟩
    show CRel _ _ _ (if _ then _ else _) _ _
    rw [if_neg (cell_ne h5 hjk hj2)]
    exact u2.mono (Mem.le_refl _) hle (fun _ h => h) (fun _ _ => rfl))
 exact ⟨m', β', rr⟩
end
section
variable {K : Ctx} {Q : Post} {S : St}
variable {m : Mem} {β : Locs} {w : World} {a : Act}
variable {ops : Array Oper} {rest : List Oper} {ty : TypeId} {pos : String} {after : Array Edge} {g : Option (Nat × Bool)}
inductive LookD (x : Value) (d o : V) : List (Value × V) → List (Value × V) → Prop
 | here {es : List (Value × V)} : LookD x d o ((x, d) :: es) ((x, o) :: es)
 | there {q : Value} {v : V} {es es' : List (Value × V)} (h : q ≠ x) (h' : LookD x d o es es') : LookD x d o ((q, v) :: es) ((q, v) :: es')
theorem LookD.at {x : Value} {d o : V} {es es' : List (Value × V)} (h : LookD x d o es es') : ∃ i, es[i]? = some (x, d) ∧ es' = es.set i (x, o) ∧ Look x es' (some o) := by
 induction h with
 | here => exact ⟨0, rfl, rfl, .here⟩
 | @there q v es es' h h' ih =>
  obtain ⟨i, h1, h2, h3⟩ := ih
  exact ⟨i + 1, by simpa using h1, by rw [h2]; rfl, .there h h3⟩
end
variable {κ α β γ : Type} [DecidableEq κ]
theorem und_rows {e k : Nat} {enc : α → List V} (hi : ∀ x, Imms (enc x)) (l : List α) : Und (.dsl e k (l.map enc)) (.lst k (l.map enc)) :=
 .sl rfl (fun i r r' h h' => by rw [h] at h'; simp at h'; rw [h']) (fun i j r r' c c' h h' hj hj' => by
  rw [h] at h'; simp at h'; subst h'
  rw [hj] at hj'; simp at hj'; subst hj'
  rw [List.getElem?_map, Option.map_eq_some_iff] at h
  obtain ⟨x, _, rfl⟩ := h
  exact .imm (hi x c (List.mem_of_getElem? hj)).1)
section
variable {K : Ctx} {Q : Post} {S : St}
end
section
variable {K : Ctx} {Q : Post} {S : St} {s : List It}
variable {ops : Array Oper} {l : List Oper}
end
section
variable {K : Ctx} {Q : Post} {S : St}
variable {ops : Array Oper} {rest : List Oper} {ty : TypeId} {pos : String} {after : Array Edge} {g : Option (Nat × Bool)}
theorem HpSub.consE {Y : Hy} {n : Nat} {σ : Nat → Nat} {hp e : Heap} {id : Nat} {ob ob' : Ob} (hn : Nat.blt id n = true) (hh : hget hp (σ id) = ob') (h : ObSub Y ob ob') (h' : HpSub Y n σ hp e) : HpSub Y n σ hp ((id, ob) :: e) := .cons hn (by rw [hh]; exact h) h'
theorem aops_mcall_atH {d nx : Nat} {f : FuncId} {args : Array Operand} {at' : Array TypeId} {avs' : List V} {k k' : Nat} {hp hp' : Heap} {dc : V} (res : List Nat) (hnx : S.nx = nx) (hres : ∀ i, i ∈ res → hget S.hp i = .res)
  (dv : V) (avs : List V) (σ τ : Nat → Nat) (u : Heap) (hf : fnOk K.P f = true)
  (hw : Wants ops S ⟨some d, .call ⟨.value (.func f), args, at'⟩, ty, pos, after, g⟩ true) (hN : Nat.blt d K.N = true) (ha : args.toList.map (evl K S) = avs)
  (hsub : Subs (Ren k σ) avs' avs) (hhp : HpSub (Ren k σ) k σ S.hp hp) (hc : MutG K.gl K.P f avs' k hp dc k' hp')
  (hto : toB k k' nx nx σ τ (fun i => res.any fun j => Nat.beq i j) = true) (hτ : injB k' τ = true) (hkk : Nat.ble k k' = true) (hpins : (res.all fun i => Nat.ble K.pins i) = true)
  (hdv : Sub (To k' τ) dv dc) (hu : HpTo (To k' τ) τ hp' k' 0 u)
  (kk : AOps K ops rest Q ⟨(d, dv) :: S.env, u ++ S.hp, S.nx⟩) : AOps K ops (⟨some d, .call ⟨.value (.func f), args, at'⟩, ty, pos, after, g⟩ :: rest) Q S := by
 subst hnx
 have hfree : ∀ i, (res.any fun j => Nat.beq i j) = true → i ∈ res := by
  intro i hi
  obtain ⟨j, hj, e⟩ := List.any_eq_true.1 hi
  rw [Nat.eq_of_beq_eq_true e]; exact hj
 exact aops_mcalls σ τ S.nx u (fun i => res.any fun j => Nat.beq i j) hw rfl hN (mcall_run hf ha) hsub (HpSub.get hhp) hc
  (fun i hi => hres i (hfree i hi)) hto hτ (Nat.ble_eq_true_of_le (by omega)) hkk
  (fun i hi => Nat.le_of_ble_eq_true (List.all_eq_true.1 hpins i (hfree i hi))) hdv hu kk
inductive Zs : List V → List Value → Prop
 | nil : Zs [] []
 | con {v : Value} {cs : List V} {vs : List Value} (h : Zs cs vs) : Zs (.con v :: cs) (v :: vs)
 | sl {k : Nat} {cs : List V} {vs : List Value} (h : Zs cs vs) : Zs (.lst k [] :: cs) (.slice none 0 0 :: vs)
theorem Zs.ok {cs : List V} {vs : List Value} (h : Zs cs vs) (m : Mem) : cs.length = vs.length ∧ ∀ (i : Nat) c v, cs[i]? = some c → vs[i]? = some v → IRel m c v := by
 induction h with
 | nil => exact ⟨rfl, by simp⟩
 | con h ih =>
  refine ⟨by simp [ih.1], fun i c v a b => ?_⟩
  cases i with
  | zero => simp at a b; subst a; subst b; exact .con _
  | succ i => exact ih.2 i c v (by simpa using a) (by simpa using b)
 | sl h ih =>
  refine ⟨by simp [ih.1], fun i c v a b => ?_⟩
  cases i with
  | zero => simp at a b; subst a; subst b; exact .nil _ _ _
  | succ i => exact ih.2 i c v (by simpa using a) (by simpa using b)
end
end Go.Pv
namespace Go.Pv
open Go
set_option linter.unusedVariables false
set_option linter.unusedSimpArgs false
open Go.ChangeMaps (setBlock)
section
variable {K : Ctx} {Q : Post} {S : St}
variable {m : Mem} {β : Locs} {w : World} {a : Act}
variable {ops : Array Oper} {rest : List Oper} {ty : TypeId} {pos : String} {after : Array Edge} {g : Option (Nat × Bool)}
end
inductive EnvFz (Y : Hy) (env : Env) : Env → Prop
 | refl : EnvFz Y env env
 | put {e : Env} {t : Nat} {v v0 : V} (ht : get env t = v0) (hv : Sub Y v v0) (h : EnvFz Y env e) : EnvFz Y env ((t, v) :: e)
theorem EnvFz.get {Y : Hy} {env e : Env} (hk : ∀ v, Sub Y v v) (h : EnvFz Y env e) (t : Nat) : Sub Y (get e t) (get env t) := by
 induction h with
 | refl => exact hk _
 | put ht hv _ ih =>
  rw [get_put]
  split
  ·rename_i he; subst he; rw [ht]; exact hv
  ·exact ih
inductive HpFz (Y : Hy) (hp : Heap) : Heap → Prop
 | refl : HpFz Y hp hp
 | put {e : Heap} {t : Nat} {v v0 : Ob} (ht : hget hp t = v0) (hv : ObSub Y v v0) (h : HpFz Y hp e) : HpFz Y hp ((t, v) :: e)
theorem HpFz.get {Y : Hy} {hp e : Heap} (hk : ∀ v, ObSub Y v v) (h : HpFz Y hp e) (t : Nat) : ObSub Y (hget e t) (hget hp t) := by
 induction h with
 | refl => exact hk _
 | put ht hv _ ih =>
  rw [hget_put]
  split
  ·rename_i he; subst he; rw [ht]; exact hv
  ·exact ih
section
variable {K : Ctx} {S : St}
end
def RM {α : Type} (n : Nat) (l : List α) (P : Prop) : Prop := l.length < n ∧ P
theorem RM.zero {α : Type} {l : List α} {P : Prop} {X : Prop} (h : RM 0 l P) : X := absurd h.1 (Nat.not_lt_zero _)
theorem RM.start {α : Type} {l : List α} {P : Prop} (h : P) : RM (l.length + 1) l P := ⟨Nat.lt_succ_self _, h⟩
theorem RM.step {α : Type} {l l' : List α} {n : Nat} {P P' : Prop} (h : RM (n + 1) l P) (hq : l'.length < l.length) (h' : P') : RM n l' P' := ⟨by have := h.1; omega, h'⟩
section
variable {K : Ctx} {Q : Post} {S : St} {s : List It}
variable {ops : Array Oper} {rest : List Oper} {ty : TypeId} {pos : String} {after : Array Edge} {g : Option (Nat × Bool)}
end
end Go.Pv
namespace Go.Pv
open Go
set_option linter.unusedVariables false
theorem split_rows (s sep : List UInt8) : (Lib.splitB ⟨sep.toArray⟩ 0 (Lib.countB ⟨s.toArray⟩ ⟨sep.toArray⟩) ⟨s.toArray⟩).map (fun b => b.data.toList) = Lib.split s sep := by
 rw [Lib.splitB_data]
 rfl
theorem cell0 {gl : Gl} {m : Mem} {w : World} {g : Nat} {k : IntKind} {z : Int} (himm : ∀ (b : Nat) o, m b = some o → w.heap[b]? = some o) (hgl : GlOk gl m) (hg : glk gl g = some [.con (.int k z)]) : w.cell? ⟨g, 0, none⟩ = some (.int k z) := by
 obtain ⟨hr, arr, T, fr, hm, hsz⟩ := hgl g _ hg
 cases hr with
 | @iptr _ _ _ arr' T' fr' f base hm' hs ho hf h =>
  rw [hm] at hm'
  cases hm'
  have hb : base = 0 := by simp at ho; omega
  subst hb
  have e1 := hf 0 (by simp)
  have e2 := h 0 (V.con (.int k z)) (by simp)
  rw [Nat.zero_add] at e1
  generalize f 0 = v at e1 e2
  cases e2
  simp [World.cell?, himm _ _ hm, e1]
theorem pure_split {gl : Gl} {P : Program} {f : FuncId} {s sep : List UInt8} {g : Nat} {mx : Int} {T : TypeId} (hg : glk gl g = some [.con (.int .i64 mx)]) (hc : s.length < 4294967281 ∧ 1 ≤ sep.length)
  (h : ∀ w : World, (⟨s.toArray⟩ : ByteArray).size < 4294967281 → w.cell? ⟨g, 0, none⟩ = some (.int .i64 mx) → 1 ≤ (⟨sep.toArray⟩ : ByteArray).size → Calls P f #[.string ⟨s.toArray⟩, .string ⟨sep.toArray⟩] w fun e w' =>
   e = .returned (.slice (some ⟨w.heap.size, 0, none⟩) (Lib.countB ⟨s.toArray⟩ ⟨sep.toArray⟩ + 1) (Lib.countB ⟨s.toArray⟩ ⟨sep.toArray⟩ + 1)) ∧
    w' = w.alloc (.cells ((Lib.splitB ⟨sep.toArray⟩ 0 (Lib.countB ⟨s.toArray⟩ ⟨sep.toArray⟩) ⟨s.toArray⟩).map Value.string).toArray T)) :
  PureG gl P f [sV s, sV sep] (.lst 1 ((Lib.split s sep).map fun x => [sV x])) := by
 have e1 : (⟨s.toArray⟩ : ByteArray).size = s.length := by simp [ByteArray.size]
 have e2 : (⟨sep.toArray⟩ : ByteArray).size = sep.length := by simp [ByteArray.size]
 have hle := Lib.countB_le ⟨sep.toArray⟩ (by rw [e2]; exact hc.2) _ ⟨s.toArray⟩ (Nat.le_refl _)
 have hlen := Lib.splitB_all ⟨sep.toArray⟩ (by rw [e2]; exact hc.2) 0 _ ⟨s.toArray⟩ rfl
 intro m w vs himm hgl hvs
 obtain rfl := irels_con (l := [str s, str sep]) hvs
 refine (h w (by rw [e1]; exact hc.1) (cell0 himm hgl hg) (by rw [e2]; exact hc.2)).mono ?_
 rintro e w' ⟨rfl, rfl⟩
 rw [← World.alloc_eq]
 generalize hB : Lib.splitB ⟨sep.toArray⟩ 0 (Lib.countB ⟨s.toArray⟩ ⟨sep.toArray⟩) ⟨s.toArray⟩ = B at hlen
 have hrows : (Lib.split s sep).map (fun x => [sV x]) = B.map (fun b => [V.con (.string b)]) := by
  rw [← split_rows, hB, List.map_map]
  apply List.map_congr_left
  intro b _
  rfl
 let o : Obj := .cells (B.map Value.string).toArray T
 let m' : Mem := fun b => if b = w.heap.size then some o else m b
 have hnone : m w.heap.size = none := by
  cases hm : m w.heap.size with
  | none => rfl
  | some o' => have := lt_of_some (himm _ _ hm); omega
 have hlem : m.le m' := by
  intro b o h
  have : b ≠ w.heap.size := by intro e; rw [e, hnone] at h; simp at h
  simp [m', this, h]
 refine ⟨_, m', rfl, ?_, ⟨hlem, ?_, ?_, ?_, by simp [-World.alloc_eq], ⟨rfl, rfl, rfl, trivial⟩⟩⟩
 ·rw [hrows]
  refine .lst (arr := (B.map Value.string).toArray) (T := T) (fr := (0, 0)) (fun i => ((B.map Value.string).toArray[i]?).getD undef) (show m' w.heap.size = _ by simp [m', o]) rfl (by rw [List.length_map]; exact hlen) (Nat.le_refl _) ?_ ?_ ?_ ?_
  ·unfold maxLen; rw [e1] at hle; have := hc.1; omega
  ·intro row hr
   obtain ⟨b, _, rfl⟩ := List.mem_map.1 hr
   rfl
  ·intro i hi
   rw [List.length_map, Nat.mul_one] at hi
   simp [hi]
  ·intro i j row c hi hj
   rw [List.getElem?_map] at hi
   cases hx : B[i]? with
   | none => rw [hx] at hi; simp at hi
   | some b =>
    rw [hx] at hi
    simp only [Option.map_some, Option.some.injEq] at hi
    subst hi
    match j with
    | 0 =>
     simp only [List.getElem?_cons_zero, Option.some.injEq] at hj
     subst hj
     simp [hx]
     exact .con _
    | j + 1 => simp at hj
 ·intro b o' h
  by_cases hb : b = w.heap.size
  ·subst hb; simp [m', o] at h; simp [-World.alloc_eq, h]
  ·simp [m', hb] at h
   have := lt_of_some (himm _ _ h)
   simp only [Array.getElem?_push]; rw [if_neg hb]; exact himm _ _ h
 ·intro b hb
  have : b ≠ w.heap.size := by omega
  simp [m', this]
 ·intro b hb
  simp only [Array.getElem?_push]; rw [if_neg (by omega)]
theorem pure_atoi {gl : Gl} {P : Program} {f : FuncId} {s : List UInt8} {n : Int} (hl : s.length ≤ 18)
  (h : ∀ w : World, (⟨s.toArray⟩ : ByteArray).size ≤ 18 → Calls P f #[.string ⟨s.toArray⟩] w fun e w' => e = .returned (.tuple #[.int .i64 n, .nilIface]) ∧ ∃ t, w' = Lib.bytesWorld w 5 t) :
  PureG gl P f [sV s] (.tup [iV n, .con .nilIface]) := by
 have e1 : (⟨s.toArray⟩ : ByteArray).size = s.length := by simp [ByteArray.size]
 refine pure_below (l := [str s]) (v := .tuple #[.int .i64 n, .nilIface]) (fun w => (h w (by rw [e1]; exact hl)).mono ?_) (fun m => .tup rfl fun i c v a b => ?_)
 ·rintro e w' ⟨rfl, t, rfl⟩
  exact ⟨rfl, Go.Joins.below_bytesWorld _ w 5 t (Nat.le_refl _), trivial⟩
 ·match i with
  | 0 => simp at a b; subst a b; exact .con _
  | 1 => simp at a b; subst a b; exact .con _
  | i + 2 => simp at a
section
variable {K : Ctx} {Q : Post} {S : St}
variable {ops : Array Oper} {rest : List Oper} {ty : TypeId} {pos : String} {after : Array Edge} {g : Option (Nat × Bool)}
theorem set_set {α : Type} (l : List α) (i : Nat) (a b : α) : (l.set i a).set i b = l.set i b := by
 induction l generalizing i with
 | nil => rfl
 | cons x l ih => cases i with
  | zero => rfl
  | succ i => simp [ih]
theorem csub_nil (e k : Nat) : CSub Idn (.dsl e k []) (.con (.slice none 0 0)) := fun m β m' β' w B x hy hx => by
 have h := hx.v rfl
 have := h.of_con
 subst this
 exact .inr (.nil e k none)
theorem ghost_eqH {env : Env} {hp : Heap} (hp' : Heap) {nx : Nat} (h : ∀ q, hget hp' q = hget hp q) : Ghost K ⟨env, hp, nx⟩ ⟨env, hp', nx⟩ := fun m β w a r => ⟨m, β, r.congr (fun _ => rfl) h rfl⟩
theorem hget_self {i : Nat} {b : Ob} {hp : Heap} : hget ((i, b) :: hp) i = b := by rw [hget_put, if_pos rfl]
end
theorem bk {α β : Type} {o : Option α} {k : α → Option β} {r : β} {P : Prop} (h : o.bind k = some r) (c : ∀ y, o = some y → k y = some r → P) : P := by
 obtain ⟨y, a, b⟩ := bind_some h
 exact c y a b
section
variable {K : Ctx} {Q : Post} {S : St}
variable {ops : Array Oper} {rest : List Oper} {ty : TypeId} {pos : String} {after : Array Edge} {g : Option (Nat × Bool)}
theorem aops_store_untakeS {α β : Type} {id k j p e e2 k2 id2 n2 : Nat} {x y : Operand} {T : TypeId} {xs : List α} {x0 : α} {ys : List β} {c0 : V} (D : α → List V) (enc2 : β → List V) (hkp : ∀ z, Keeps (enc2 z)) (xs' : List α) (hT : tyS K.P T 1 = true)
  (hw : Wants ops S ⟨none, .store T x y, ty, pos, after, g⟩ true) (hx : evl K S x = .ptr id k j p) (hy : evl K S y = .own id2 n2) (ho : hget S.hp id = .arr e k (setC (xs.map D) j (D x0) p c0)) (hp : p < (D x0).length) (hj : j < xs.length)
  (ho2 : hget S.hp id2 = .arr e2 k2 (ys.map enc2)) (hn : n2 = ys.length) (hne : Nat.beq id id2 = false) (hxs : xs'.map D = (xs.map D).set j ((D x0).set p (.dsl e2 k2 (ys.map enc2))))
  (kk : AOps K ops rest Q ⟨S.env, (id, .arr e k (xs'.map D)) :: (id2, .dead) :: S.hp, S.nx⟩) :
  AOps K ops (⟨none, .store T x y, ty, pos, after, g⟩ :: rest) Q S := by
 have hr1 : (setC (xs.map D) j (D x0) p c0)[j]? = some ((D x0).set p c0) := by
  unfold setC
  rw [List.getElem?_set_self (by simpa using hj)]
 have hid : id ≠ id2 := fun h => by rw [h, Nat.beq_refl] at hne; simp at hne
 have hrow : ((D x0).set p c0).take p ++ [.own id2 n2] ++ ((D x0).set p c0).drop (p + [V.own id2 n2].length) = (D x0).set p (.own id2 n2) := by
  rw [List.take_set_of_le (Nat.le_refl _), List.drop_set_of_lt (by simp), List.set_eq_take_append_cons_drop, if_pos hp]
  simp
 have hrows : (setC (xs.map D) j (D x0) p c0).set j ((D x0).set p (.own id2 n2)) = (xs.map D).set j ((D x0).set p (.own id2 n2)) := by
  unfold setC; rw [set_set]
 refine aops_store [.own id2 n2] ((xs.map D).set j ((D x0).set p (.own id2 n2))) hT hw hx hy rfl rfl ho hr1 (by simp; omega) (by rw [hrow, hrows]) ?_
 have h1 : hget ((id, Ob.arr e k ((xs.map D).set j ((D x0).set p (.own id2 n2)))) :: S.hp) id2 = .arr e2 k2 (ys.map enc2) := by rw [hget_put, if_neg hid]; exact ho2
 have hg := ghost_untake (K := K) (S := ⟨S.env, (id, .arr e k ((xs.map D).set j ((D x0).set p (.own id2 n2)))) :: S.hp, S.nx⟩) id j p id2 hget_self (List.getElem?_set_self (show j < (xs.map D).length by simpa using hj)) (List.getElem?_set_self hp)
  h1 (by rw [hn, List.length_map]) hne (fun r hr => by obtain ⟨z, _, rfl⟩ := List.mem_map.1 hr; exact hkp z)
 have he : setC ((xs.map D).set j ((D x0).set p (.own id2 n2))) j ((D x0).set p (.own id2 n2)) p (.dsl e2 k2 (ys.map enc2)) = xs'.map D := by
  unfold setC
  rw [set_set, set_set, hxs]
 rw [he] at hg
 refine aops_ghost hg (aops_ghost (ghost_eqH ((id, .arr e k (xs'.map D)) :: (id2, .dead) :: S.hp) fun q => ?_) kk)
 simp only [hget_put]
 repeat' split
 all_goals rfl
def UndL (a b : List V) : Prop := a.length = b.length ∧ ∀ (j : Nat) (c c' : V), a[j]? = some c → b[j]? = some c' → Und c c' ∧ Keep c
def UndE {α : Type} (D E : α → List V) : Prop := ∀ x, UndL (D x) (E x)
theorem undE_rows {α : Type} {D E : α → List V} (h : UndE D E) (xs : List α) : (xs.map D).length = (xs.map E).length ∧ (∀ (i : Nat) (r r' : List V), (xs.map D)[i]? = some r → (xs.map E)[i]? = some r' → r.length = r'.length) ∧
  ∀ (i j : Nat) (r r' : List V) (c c' : V), (xs.map D)[i]? = some r → (xs.map E)[i]? = some r' → r[j]? = some c → r'[j]? = some c' → Und c c' ∧ Keep c := by
 refine ⟨by simp, fun i r r' h1 h2 => ?_, fun i j r r' c c' h1 h2 h3 h4 => ?_⟩
 ·rw [List.getElem?_map] at h1 h2
  cases hx : xs[i]? with
  | none => rw [hx] at h1; simp at h1
  | some u => rw [hx] at h1 h2; simp at h1 h2; subst h1 h2; exact (h u).1
 ·rw [List.getElem?_map] at h1 h2
  cases hx : xs[i]? with
  | none => rw [hx] at h1; simp at h1
  | some u => rw [hx] at h1 h2; simp at h1 h2; subst h1 h2; exact (h u).2 j c c' h3 h4
theorem ghost_frzSC {α : Type} (id id2 : Nat) {e k : Nat} {xs : List α} {D E : α → List V} (ob : Ob) (hu : UndE D E) (ho : hget S.hp id = .arr e k (xs.map D)) (hob : ObSub (Frz id k (xs.map E)) ob (hget S.hp id2)) :
  Ghost K S ⟨S.env, (id, .dead) :: (id2, ob) :: S.hp, S.nx⟩ :=
 ghost_freezeD id (xs.map E) _ _ ho (undE_rows hu xs).1 (undE_rows hu xs).2.1 (undE_rows hu xs).2.2 (fun _ => Sub.keep) (hpFrz ob id2 hob) (by simp [hget_put])
inductive CSubs : List V → List V → Prop
 | nil : CSubs [] []
 | cons {c c' : V} {l l' : List V} (h : CSub Idn c c') (h' : CSubs l l') : CSubs (c :: l) (c' :: l')
theorem CSubs.len {l l' : List V} (h : CSubs l l') : l.length = l'.length := by
 induction h with
 | nil => rfl
 | cons _ _ ih => simp [ih]
theorem CSubs.at {l l' : List V} (h : CSubs l l') : ∀ (j : Nat) (c c' : V), l[j]? = some c → l'[j]? = some c' → CSub Idn c c' := by
 induction h with
 | nil => intro j c c' h; simp at h
 | cons h _ ih =>
  intro j c c' h1 h2
  cases j with
  | zero => simp at h1 h2; subst h1 h2; exact h
  | succ j => exact ih j c c' (by simpa using h1) (by simpa using h2)
theorem csub_keep (c : V) : CSub Idn c c := CSub.same HyMC.h Sub.keepI
theorem UndL.nil : UndL [] [] := ⟨rfl, fun j c c' h => by simp at h⟩
theorem UndL.cons {c c' : V} {l l' : List V} (h : Und c c' ∧ Keep c) (r : UndL l l') : UndL (c :: l) (c' :: l') := ⟨by simp [r.1], fun j x x' h1 h2 => by
 cases j with
 | zero => simp at h1 h2; subst h1 h2; exact h
 | succ j => exact r.2 j x x' (by simpa using h1) (by simpa using h2)⟩
theorem und_con (v : Value) : Und (.con v) (.con v) ∧ Keep (.con v) := ⟨.imm rfl, (Imm.con v).2⟩
theorem und_dsl {α : Type} (e k : Nat) {enc : α → List V} (hi : ∀ x, Imms (enc x)) (l : List α) : Und (.dsl e k (l.map enc)) (.lst k (l.map enc)) ∧ Keep (.dsl e k (l.map enc)) := ⟨und_rows hi l, Keep.dsl _ _ _⟩
end
section
variable {K : Ctx} {Q : Post} {S : St}
variable {ops : Array Oper} {rest : List Oper} {ty : TypeId} {pos : String} {after : Array Edge} {g : Option (Nat × Bool)}
theorem aops_load_takeS_at {α β : Type} {d nx id k j p e e2 k2 n : Nat} {x : Operand} {T : TypeId} {xs : List α} {x0 : α} {l : List β} (idn : Nat) (hid : (Nat.blt idn nx && Nat.ble K.pins idn) = true) (hnxx : S.nx = nx) (hres : hget S.hp idn = .res) (D : α → List V) (enc2 : β → List V) (hD : (D x0)[p]? = some (.dsl e2 k2 (l.map enc2))) (hT : tyC K.P T = true)
  (hw : Wants ops S ⟨some d, .load T x, ty, pos, after, g⟩ true) (hx : evl K S x = .ptr id k j p) (ho : hget S.hp id = .arr e k (xs.map D)) (hr : xs[j]? = some x0) (hn : n = l.length) (hN : Nat.blt d K.N = true)
  (kk : AOps K ops rest Q ⟨(d, .own idn n) :: S.env, (id, .arr e k (setC (xs.map D) j (D x0) p (.own idn n))) :: (idn, .arr e2 k2 (l.map enc2)) :: S.hp, S.nx⟩) :
  AOps K ops (⟨some d, .load T x, ty, pos, after, g⟩ :: rest) Q S := by
 subst hn
 have hrow : (xs.map D)[j]? = some (D x0) := by rw [List.getElem?_map, hr]; rfl
 have hg : Ghost K S ⟨S.env, (id, .arr e k (setC (xs.map D) j (D x0) p (.own idn (l.map enc2).length))) :: (idn, .arr e2 k2 (l.map enc2)) :: S.hp, S.nx⟩ := fun m β w a r => r.takeC id j p idn S.nx (r.free hres) (fun q hq => by have := Nat.le_of_ble_eq_true (Bool.and_eq_true_iff.1 hid).2; omega) (by rw [hnxx]; exact Nat.le_of_ble_eq_true (Bool.and_eq_true_iff.1 hid).1) (Nat.le_refl _) ho hrow hD rfl
 rw [List.length_map] at hg
 refine aops_ghost hg ?_
 have hj : j < xs.length := (List.getElem?_eq_some_iff.1 hr).1
 have hp : p < (D x0).length := (List.getElem?_eq_some_iff.1 hD).1
 refine aops_load_cell (id := id) (k := k) (i := j) (o := p) (e := e) (rows := setC (xs.map D) j (D x0) p (.own idn l.length)) (.own idn l.length) hT hw ?_ hget_self (row := (D x0).set p (.own idn l.length)) ?_ (List.getElem?_set_self hp) rfl hN kk
 ·cases x <;> exact hx
 ·unfold setC
  rw [List.getElem?_set_self (by simpa using hj)]
theorem aops_appendS_at {α : Type} {d nx T T' e e2 k bytes n n' id id2 : Nat} {s x : Operand} {xs : List α} {r : List V} (idn : Nat) (hid : (Nat.blt idn nx && Nat.ble K.pins idn) = true) (hnxx : S.nx = nx) (hres : hget S.hp idn = .res) (D : α → List V) (y : α) (hT : tyEl K.P T e k bytes = true) (hT' : tySlice K.P T' = true)
  (hpos : Nat.blt 0 bytes = true) (hkp : Nat.blt 0 k = true)
  (hw : Wants ops S ⟨some d, .call ⟨.builtin .append, #[s, x], #[T, T']⟩, ty, pos, after, g⟩ true)
  (hs : evl K S s = .own id n) (ho : hget S.hp id = .arr e k (xs.map D)) (hn : xs.length = n) (hx : evl K S x = .own id2 1) (ho2 : hget S.hp id2 = .arr e2 k [r]) (hnd : ndB r = true) (hsub : CSubs (D y) r)
  (hn' : (xs ++ [y]).length = n') (hb : n' * bytes ≤ 140737488355328) (hN : Nat.blt d K.N = true)
  (kk : AOps K ops rest Q ⟨(d, .own idn n') :: S.env, (idn, .arr e k ((xs ++ [y]).map D)) :: (id, .dead) :: S.hp, S.nx⟩) :
  AOps K ops (⟨some d, .call ⟨.builtin .append, #[s, x], #[T, T']⟩, ty, pos, after, g⟩ :: rest) Q S := by
 refine aops_append_at idn hid hnxx hres [r] (xs.map D ++ [r]) hT hT' hpos hkp hw hs ho (by simpa using hn) hx (.own ho2 rfl (fun row hr c hc => by
  simp only [List.mem_singleton] at hr
  subst hr
  obtain ⟨j, hj⟩ := List.getElem?_of_mem hc
  exact ndB_at hnd hj)) rfl (by rw [← hn']; simp) hb hN ?_
 refine aops_ghost (ghost_tellC idn (.arr e k ((xs ++ [y]).map D)) (ob0 := .arr e k (xs.map D ++ [r])) hget_self ?_) (aops_ghost (ghost_eqH ((idn, .arr e k ((xs ++ [y]).map D)) :: (id, .dead) :: S.hp) (fun q => ?_)) kk)
 ·refine ⟨rfl, rfl, by simp, fun i r1 r2 h1 h2 => ?_⟩
  rw [List.map_append, List.map_cons, List.map_nil] at h1
  by_cases hi : i < (xs.map D).length
  ·rw [List.getElem?_append_left hi] at h1 h2
   rw [h1] at h2
   simp only [Option.some.injEq] at h2
   subst h2
   exact ⟨rfl, fun j c c' a b => by rw [a] at b; simp only [Option.some.injEq] at b; subst b; exact csub_keep c⟩
  ·rw [List.getElem?_append_right (by omega)] at h1 h2
   cases hj : i - (xs.map D).length with
   | zero =>
    rw [hj] at h1 h2
    simp at h1 h2
    subst h1 h2
    exact ⟨hsub.len, hsub.at⟩
   | succ j => rw [hj] at h1; simp at h1
 ·simp only [hget_put]
  split <;> rfl
theorem ghost_frzSV {α : Type} (id t : Nat) {e k : Nat} {xs : List α} {D E : α → List V} (v : V) (ho : hget S.hp id = .arr e k (xs.map D)) (hu : UndE D E) {v0 : V} (ht : get S.env t = v0) (hv : Sub (Frz id k (xs.map E)) v v0) :
  Ghost K S ⟨(t, v) :: S.env, (id, .dead) :: S.hp, S.nx⟩ :=
 ghost_freezeD id (xs.map E) _ _ ho (undE_rows hu xs).1 (undE_rows hu xs).2.1 (undE_rows hu xs).2.2 (envPut (fun _ => Sub.keep) (by rw [ht]; exact hv)) hpFrz0 (by simp [hget_put])
end
end Go.Pv
