/- The framework of walks over abstract values (own text), part H. -/
import Derived.Test.YtpbkggamiipdmaaGreatR3PvG
namespace Go.Pv
open Go
set_option linter.unusedVariables false
section
variable {K : Ctx} {Q : Post} {S S' : St} {ops : Array Oper} {rest : List Oper} {op : Op} {ty : TypeId} {pos : String} {after : Array Edge} {g : Option (Nat × Bool)}
variable {m : Mem} {β : Locs} {w : World} {a : Act}
/-- What is known is told otherwise; nothing runs. -/
def Ghost (K : Ctx) (S S' : St) : Prop := ∀ m β w a, Rel K m β w a S → ∃ m' β', Rel K m' β' w a S'
theorem Ghost.trans {S'' : St} (h : Ghost K S S') (h' : Ghost K S' S'') : Ghost K S S'' := fun m β w a r =>
  let ⟨m', β', r'⟩ := h m β w a r; h' m' β' w a r'
theorem awp_ghost {c : Code} (h : Ghost K S S') (k : AWP K c Q S') : AWP K c Q S := fun m β w a r => let ⟨m', β', r'⟩ := h m β w a r; k m' β' w a r'
theorem aops_ghost {l : List Oper} (h : Ghost K S S') (k : AOps K ops l Q S') : AOps K ops l Q S := fun m β w a r => let ⟨m', β', r'⟩ := h m β w a r; k m' β' w a r'
abbrev Hy := Mem → Locs → Mem → Locs → Prop
/-- Under what is told (Y), whatever v says v' says too. -/
def Sub (Y : Hy) (v' v : V) : Prop := ∀ m β m' β' x, Y m β m' β' → VRel m β v x → VRel m' β' v' x
theorem Sub.any {Y : Hy} {v : V} : Sub Y .any v := fun _ _ _ _ _ _ _ => .imm (.any _)
inductive EnvSub (Y : Hy) (env : Env) : Env → Prop
  | nil : EnvSub Y env []
  | cons {t : Nat} {v : V} {e : Env} (h : Sub Y v (get env t)) (h' : EnvSub Y env e) : EnvSub Y env ((t, v) :: e)
theorem EnvSub.get {Y : Hy} {env env' : Env} (h : EnvSub Y env env') (t : Nat) : Sub Y (get env' t) (get env t) := by
  induction h with
  | nil => exact Sub.any
  | @cons t' v e h h' ih =>
    rw [get_put]
    split
    · rename_i he; subst he; exact h
    · exact ih
/-- The same of a cell of an object. -/
def CSub (Y : Hy) (c c' : V) : Prop := ∀ m β m' β' w B x, Y m β m' β' → CRel m β w B c' x → CRel m' β' w B c x
/-- What is told makes nothing less of the memory that nobody writes. -/
def HyM (Y : Hy) : Prop := ∀ m β m' β', Y m β m' β' → m.le m'
class HyMC (Y : Hy) : Prop where
  h : HyM Y
theorem CSub.sub {Y : Hy} {c c' : V} (h : Sub Y c c') (hd : c'.deep = false) : CSub Y c c' := fun _ _ _ _ _ _ _ hy hx => .inl (h _ _ _ _ _ hy (hx.v hd))
theorem CSub.same {Y : Hy} (hm : HyM Y) {c : V} (h : Sub Y c c) : CSub Y c c := fun _ _ _ _ _ _ _ hy hx => hx.elim (fun hx => .inl (h _ _ _ _ _ hy hx)) (fun hx => .inr (hx.mono (hm _ _ _ _ hy) (fun _ h => h) (fun _ _ => rfl)))
def ObSub (Y : Hy) : Ob → Ob → Prop
  | .dead, _ => True
  | .res, .res => True
  | .arr e k rows, .arr e' k' rows' => e = e' ∧ k = k' ∧ rows.length = rows'.length ∧ (∀ (i : Nat) r r', rows[i]? = some r → rows'[i]? = some r' → r.length = r'.length ∧
      ∀ (j : Nat) c c', r[j]? = some c → r'[j]? = some c' → CSub Y c c')
  | .map es, .map es' => es.length = es'.length ∧ ∀ (i : Nat) p p', es[i]? = some p → es'[i]? = some p' → p.1 = p'.1 ∧ CSub Y p.2 p'.2
  | _, _ => False
theorem ObSub.ok {Y : Hy} {m m' : Mem} {β β' : Locs} {B : Nat → Prop} (hy : Y m β m' β') {l : Option (Option (Nat × Cap))} {ob ob' : Ob} (h : ObSub Y ob ob') (ho : ObOk m β w B l ob') : ObOk m' β' w B l ob := by
  cases ob with
  | dead => exact ObOk.dead' _
  | res =>
    cases ob' with
    | res =>
      match l, ho with
      | none, _ => trivial
      | some none, ho | some (some (b, c)), ho => exact absurd ho (by simp [ObOk])
    | _ => simp [ObSub] at h
  | arr e k rows =>
    cases ob' with
    | dead => simp [ObSub] at h
    | res => simp [ObSub] at h
    | map es => simp [ObSub] at h
    | arr e' k' rows' =>
      obtain ⟨rfl, rfl, hl, hr⟩ := h
      match l, ho with
      | some none, ho =>
        have : rows' = [] := ho
        subst this
        have : rows = [] := List.length_eq_zero_iff.1 (by simpa using hl)
        subst this
        simp [ObOk]
      | some (some (b, cap)), ho =>
        obtain ⟨arr, bl, h1, h2, h3, h4, h5, hBl, h6⟩ := ho
        refine ⟨arr, bl, h1, h2, by rw [hl]; exact h3, h4, ?_, hBl, ?_⟩
        · intro row hrow
          obtain ⟨i, hi, rfl⟩ := List.getElem_of_mem hrow
          have hi' : i < rows'.length := by rw [← hl]; exact hi
          rw [(hr i _ _ (List.getElem?_eq_getElem hi) (List.getElem?_eq_getElem hi')).1]
          exact h5 _ (List.getElem_mem _)
        · intro i j row c hi hj
          have hlt := (List.getElem?_eq_some_iff.1 hi).1
          have hlt' : i < rows'.length := by rw [← hl]; exact hlt
          obtain ⟨a1, a2⟩ := hr i row _ hi (List.getElem?_eq_getElem hlt')
          have hj1 := (List.getElem?_eq_some_iff.1 hj).1
          have hj2 : j < rows'[i].length := by rw [← a1]; exact hj1
          obtain ⟨v, b1, b2, b3⟩ := h6 i j _ _ (List.getElem?_eq_getElem hlt') (List.getElem?_eq_getElem hj2)
          exact ⟨v, b1, a2 j c _ hj (List.getElem?_eq_getElem hj2) _ _ _ _ _ _ _ hy b2, b3⟩
      | none, ho => exact absurd ho (by simp [ObOk])
  | map es =>
    cases ob' with
    | dead => simp [ObSub] at h
    | res => simp [ObSub] at h
    | arr e k rows => simp [ObSub] at h
    | map es' =>
      obtain ⟨hl, hr⟩ := h
      match l, ho with
      | some (some (b, cap)), ho =>
        obtain ⟨ents, clock, bl, h1, h2, hBl, h3⟩ := ho
        refine ⟨ents, clock, bl, h1, by rw [hl]; exact h2, hBl, ?_⟩
        intro i p e hi he
        have hlt := (List.getElem?_eq_some_iff.1 hi).1
        have hlt' : i < es'.length := by rw [← hl]; exact hlt
        obtain ⟨a1, a2⟩ := hr i p _ hi (List.getElem?_eq_getElem hlt')
        obtain ⟨b1, b2⟩ := h3 i _ e (List.getElem?_eq_getElem hlt') he
        exact ⟨by rw [a1]; exact b1, a2 _ _ _ _ _ _ _ hy b2⟩
      | none, ho => exact absurd ho (by simp [ObOk])
      | some none, ho => exact absurd ho (by simp [ObOk])
theorem ObSub.keep' {Y : Hy} (hk : ∀ c, CSub Y c c) (ob : Ob) : ObSub Y ob ob := by
  cases ob with
  | dead => trivial
  | res => trivial
  | arr e k rows =>
    refine ⟨rfl, rfl, rfl, fun i r r' h1 h2 => ?_⟩
    rw [h1, Option.some.injEq] at h2; subst h2
    refine ⟨rfl, fun j c c' h3 h4 => ?_⟩
    rw [h3, Option.some.injEq] at h4; subst h4; exact hk c
  | map es =>
    refine ⟨rfl, fun i p p' h1 h2 => ?_⟩
    rw [h1, Option.some.injEq] at h2; subst h2; exact ⟨rfl, hk _⟩
def Ren (n : Nat) (σ : Nat → Nat) : Hy := fun m β m' β' => m' = m ∧ ∀ id, id < n → β' id = β (σ id)
instance {n : Nat} {σ : Nat → Nat} : HyMC (Ren n σ) := ⟨fun m β m' β' hy => by rw [hy.1]; exact Mem.le_refl _⟩
theorem Sub.kp {n : Nat} {σ : Nat → Nat} {v : V} (h : Keep v) : Sub (Ren n σ) v v := fun m β m' β' x hy hx => by
  obtain ⟨rfl, _⟩ := hy
  exact .imm (h _ β x hx)
theorem Sub.imm {n : Nat} {σ : Nat → Nat} {v : V} (h : Imm v) : Sub (Ren n σ) v v := fun m β m' β' x hy hx => by
  obtain ⟨rfl, _⟩ := hy
  exact .imm (h.2 _ β x hx)
theorem Sub.nil {Y : Hy} (k : Nat) : Sub Y (.lst k []) (.con (.slice none 0 0)) := fun m β m' β' x _ hx => by
  rw [hx.of_con]; exact .imm (.nil k none 0)
theorem Sub.own {n id j l : Nat} {σ : Nat → Nat} (hn : Nat.blt id n = true) (hj : σ id = j) : Sub (Ren n σ) (.own id l) (.own j l) := fun m β m' β' x hy hx => by
  have h := hy.2 id (Nat.le_of_ble_eq_true hn)
  rw [hj] at h
  cases hx with
  | imm h => cases h
  | ownNil hb => exact .ownNil (by rw [h]; exact hb)
  | own hb => exact .own (by rw [h]; exact hb)
theorem Sub.ptr {n id j k i o : Nat} {σ : Nat → Nat} (hn : Nat.blt id n = true) (hj : σ id = j) : Sub (Ren n σ) (.ptr id k i o) (.ptr j k i o) := fun m β m' β' x hy hx => by
  have h := hy.2 id (Nat.le_of_ble_eq_true hn)
  rw [hj] at h
  cases hx with
  | imm h => cases h
  | ptr hb => exact .ptr (by rw [h]; exact hb)
theorem Sub.map {n id j : Nat} {σ : Nat → Nat} (hn : Nat.blt id n = true) (hj : σ id = j) : Sub (Ren n σ) (.map id) (.map j) := fun m β m' β' x hy hx => by
  have h := hy.2 id (Nat.le_of_ble_eq_true hn)
  rw [hj] at h
  cases hx with
  | imm h => cases h
  | map hb => exact .map (by rw [h]; exact hb)
inductive Subs (Y : Hy) : List V → List V → Prop
  | nil : Subs Y [] []
  | cons {v v' : V} {l l' : List V} (h : Sub Y v v') (h' : Subs Y l l') : Subs Y (v :: l) (v' :: l')
theorem Subs.len {Y : Hy} {l l' : List V} (h : Subs Y l l') : l.length = l'.length := by
  induction h with
  | nil => rfl
  | cons _ _ ih => simp [ih]
theorem Subs.get {Y : Hy} {l l' : List V} (h : Subs Y l l') : ∀ (i : Nat) c c', l[i]? = some c → l'[i]? = some c' → Sub Y c c' := by
  induction h with
  | nil => intro i c c' h; simp at h
  | cons h _ ih =>
    intro i c c' h1 h2
    cases i with
    | zero => simp at h1 h2; subst h1; subst h2; exact h
    | succ i => simp at h1 h2; exact ih i c c' h1 h2
theorem Sub.agg {Y : Hy} {l l' : List V} (h : Subs Y l l') : Sub Y (.agg l) (.agg l') := fun m β m' β' x hh hx => by
  cases hx with
  | imm hx => cases hx with
    | agg hl hx =>
      refine .agg (by rw [h.len]; exact hl) fun i c v h1 h2 => ?_
      have h3 : i < l'.length := by rw [← h.len]; exact (List.getElem?_eq_some_iff.1 h1).1
      exact h.get i c _ h1 (List.getElem?_eq_getElem h3) _ _ _ _ _ hh (.imm (hx i _ v (List.getElem?_eq_getElem h3) h2))
  | agg hl hx =>
    refine .agg (by rw [h.len]; exact hl) fun i c v h1 h2 => ?_
    have h3 : i < l'.length := by rw [← h.len]; exact (List.getElem?_eq_some_iff.1 h1).1
    exact h.get i c _ h1 (List.getElem?_eq_getElem h3) _ _ _ _ _ hh (hx i _ v (List.getElem?_eq_getElem h3) h2)
inductive HpSub (Y : Hy) (n : Nat) (σ : Nat → Nat) (hp : Heap) : Heap → Prop
  | nil : HpSub Y n σ hp []
  | cons {id : Nat} {ob : Ob} {e : Heap} (hn : Nat.blt id n = true) (h : ObSub Y ob (hget hp (σ id))) (h' : HpSub Y n σ hp e) : HpSub Y n σ hp ((id, ob) :: e)
theorem HpSub.get {Y : Hy} {n : Nat} {σ : Nat → Nat} {hp hp' : Heap} (h : HpSub Y n σ hp hp') (id : Nat) : (hget hp' id = .dead ∨ id < n) ∧ ObSub Y (hget hp' id) (hget hp (σ id)) := by
  induction h with
  | nil => exact ⟨.inl rfl, trivial⟩
  | @cons id' ob e hn h h' ih =>
    rw [hget_put]
    split
    · rename_i he; subst he; exact ⟨.inr (Nat.le_of_ble_eq_true hn), h⟩
    · exact ih
def HpOk (Y : Hy) (n : Nat) (σ : Nat → Nat) (hp hp' : Heap) : Prop := ∀ id, (hget hp' id = .dead ∨ id < n) ∧ ObSub Y (hget hp' id) (hget hp (σ id))
/-- One place is told anew. -/
theorem envPut {Y : Hy} {env : Env} {t : Nat} {v : V} (hk : ∀ v, Sub Y v v) (h : Sub Y v (get env t)) : ∀ t', Sub Y (get ((t, v) :: env) t') (get env t') := by
  intro t'
  rw [get_put]
  split
  · rename_i he; subst he; exact h
  · exact hk _
def pinsOk (n : Nat) (σ : Nat → Nat) : Nat → Bool
  | 0 => true
  | q + 1 => Nat.blt q n && Nat.beq (σ q) q && pinsOk n σ q
theorem pinsOk_at {n : Nat} {σ : Nat → Nat} : ∀ {p q : Nat}, pinsOk n σ p = true → q < p → q < n ∧ σ q = q
  | p + 1, q, h, hq => by
    simp only [pinsOk, Bool.and_eq_true] at h
    by_cases e : q = p
    · subst e; exact ⟨Nat.le_of_ble_eq_true h.1.1, Nat.eq_of_beq_eq_true h.1.2⟩
    · exact pinsOk_at h.2 (by omega)
theorem ghost_ren (n : Nat) (σ : Nat → Nat) (env : Env) (hp : Heap) (hσ : ∀ i, i < n → ∀ j, j < n → σ i = σ j → i = j) (henv : ∀ t, Sub (Ren n σ) (get env t) (get S.env t)) (hhp : HpOk (Ren n σ) n σ S.hp hp)
    (hpin : pinsOk n σ K.pins = true) : Ghost K S ⟨env, hp, n⟩ := by
  intro m β w a r
  let β' : Locs := ⟨fun id => if id < n then β (σ id) else none, fun id => β.hid (σ id)⟩
  have eβ : ∀ id, id < n → β' id = β (σ id) := fun id h => by show (if _ then _ else _) = _; rw [if_pos h]
  have hy : Ren n σ m β m β' := ⟨rfl, eβ⟩
  have hlive : ∀ id, hget hp id ≠ .dead → id < n ∧ hget S.hp (σ id) ≠ .dead := by
    intro id h
    obtain ⟨h1, h2⟩ := hhp id
    refine ⟨h1.resolve_left h, fun hd => ?_⟩
    rw [hd] at h2
    cases ho : hget hp id with
    | dead => exact h ho
    | arr => rw [ho] at h2; simp [ObSub] at h2
    | res => rw [ho] at h2; simp [ObSub] at h2
    | map => rw [ho] at h2; simp [ObSub] at h2
  refine ⟨m, β', ?_⟩
  constructor
  · exact r.imm
  · exact r.ext
  · exact r.mold
  · exact r.frame
  · exact r.size
  · exact r.same
  · exact r.tn
  · exact r.df
  · exact fun t => henv t _ _ _ _ _ hy (r.env t)
  · intro id
    obtain ⟨h1, h2⟩ := hhp id
    rcases h1 with h1 | h1
    · show ObOk m β' w _ _ (hget hp id); rw [h1]; exact ObOk.dead' _
    · show ObOk m β' w (β.hid (σ id)) (β' id) (hget hp id)
      rw [eβ id h1]
      exact h2.ok hy (r.own (σ id))
  · intro id b cap hl hb
    obtain ⟨h1, h2⟩ := hlive id hl
    have := eβ id h1
    rw [this] at hb
    exact r.priv _ _ _ h2 hb
  · intro id id' b cap cap' hl hl' hb hb'
    obtain ⟨h1, h2⟩ := hlive id hl
    obtain ⟨h1', h2'⟩ := hlive id' hl'
    have e1 := eβ id h1
    have e2 := eβ id' h1'
    rw [e1] at hb; rw [e2] at hb'
    exact hσ id h1 id' h1' (r.inj _ _ _ _ _ h2 h2' hb hb')
  · intro id x hl hx
    obtain ⟨h1, h2⟩ := hlive id hl
    have h := r.hid (σ id) x h2 hx
    refine ⟨h.lt, h.m, h.old, fun i b c hi hb => ?_, fun i hi hx' => ?_⟩
    · obtain ⟨h1', h2'⟩ := hlive i hi
      rw [eβ i h1'] at hb
      exact h.ne _ b c h2' hb
    · obtain ⟨h1', h2'⟩ := hlive i hi
      exact hσ i h1' id h1 (h.un _ h2' hx')
  · intro id hid
    have : ¬ id < n := Nat.not_lt.2 hid
    show (if _ then _ else _) = _
    rw [if_neg this]
  · intro q hq
    obtain ⟨h1, h2⟩ := pinsOk_at hpin hq
    refine ⟨h1, ?_⟩
    rw [eβ q h1, h2]; exact (r.pin q hq).2
/-- 'own id ..' and 'ptr id ..' may be read as slices of, and pointers into, memory that nobody writes. -/
def Frz (id k : Nat) (rows : List (List V)) : Hy := fun m β m' β' => m.le m' ∧ β' = β ∧ (∀ n x, VRel m β (.own id n) x → n ≤ rows.length → IRel m' (.lst k (rows.take n)) x) ∧
  ∀ i o row x, rows[i]? = some row → VRel m β (.ptr id k i o) x → IRel m' (.iptr row o) x
instance {id k : Nat} {rows : List (List V)} : HyMC (Frz id k rows) := ⟨fun m β m' β' hy => hy.1⟩
theorem Sub.keep {id k : Nat} {rows : List (List V)} {v : V} : Sub (Frz id k rows) v v := fun _ _ _ _ _ hy hx => by
  obtain ⟨h1, rfl, _⟩ := hy
  exact hx.mono h1 (Locs.le_refl _)
theorem Sub.frz {id k n : Nat} {rows rows' : List (List V)} (hn : n ≤ rows.length) (hr : rows.take n = rows') : Sub (Frz id k rows) (.lst k rows') (.own id n) := fun _ _ _ _ _ hy hx => by
  subst hr
  exact .imm (hy.2.2.1 n _ hx hn)
theorem Sub.frzptr {id k i o : Nat} {rows : List (List V)} {row : List V} (hr : rows[i]? = some row) : Sub (Frz id k rows) (.iptr row o) (.ptr id k i o) := fun _ _ _ _ _ hy hx => .imm (hy.2.2.2 i o row _ hr hx)
theorem ghost_freeze (id : Nat) {e : TypeId} {k : Nat} {rows : List (List V)} (env : Env) (hp : Heap) (ho : hget S.hp id = .arr e k rows) (hi : ∀ row, row ∈ rows → Imms row)
    (henv : ∀ t, Sub (Frz id k rows) (get env t) (get S.env t)) (hhp : ∀ i, ObSub (Frz id k rows) (hget hp i) (hget S.hp i)) (hd : hget hp id = .dead) : Ghost K S ⟨env, hp, S.nx⟩ := by
  intro m β w a r
  have hown := r.own id
  rw [ho] at hown
  cases hb : β id with
  | none => rw [hb] at hown; simp [ObOk] at hown
  | some l =>
  have key : ∃ m', (∀ b o, m' b = some o → w.heap[b]? = some o) ∧ Frz id k rows m β m' β ∧ (∀ b, m' b = m b ∨ ∃ cap, l = some (b, cap)) := by
    cases l with
    | none =>
      rw [hb] at hown
      have : rows = [] := hown
      subst this
      refine ⟨m, r.imm, ⟨Mem.le_refl _, rfl, fun n x hx hn => ?_, fun i o row x hr => by simp at hr⟩, fun b => .inl rfl⟩
      simp at hn; subst hn
      cases hx with
      | imm h => cases h
      | ownNil h => exact .nil k _ 0
      | own h => rw [hb] at h; simp at h
    | some p =>
      obtain ⟨b, cap⟩ := p
      rw [hb] at hown
      obtain ⟨arr, bl, h1, h2, h3, h4, h5, hBl, h6⟩ := hown
      have hp' := r.priv id b cap (by rw [ho]; simp) hb
      let m' : Mem := fun b' => if b' = b then some (.cells arr e (0, 0)) else m b'
      have hle : m.le m' := by
        intro b' o h
        have : b' ≠ b := by intro e'; subst e'; rw [hp'.1] at h; simp at h
        simp [m', this, h]
      have hcells : ∀ i, i < rows.length * k → arr[cap.off + i]? = some (arr.getD (cap.off + i) undef) := by
        intro i hi'
        have : cap.off + i < arr.size := by rw [h2]; have := Nat.lt_of_lt_of_le hi' (Nat.mul_le_mul_right k h3); omega
        simp [Array.getD_eq_getD_getElem?, this]
      have hrel : ∀ (i j : Nat) (row : List V) (c : V), rows[i]? = some row → row[j]? = some c → IRel m' c (arr.getD (cap.off + (i * k + j)) undef) := by
        intro i j row c hr hj
        obtain ⟨v, a1, a2, _⟩ := h6 i j row c hr hj
        have hcc := hi row (List.mem_of_getElem? hr) c (List.mem_of_getElem? hj)
        have := hcc.2 m β v (a2.v hcc.1)
        simp only [Array.getD_eq_getD_getElem?, a1, Option.getD_some]
        exact this.mono hle
      refine ⟨m', ?_, ⟨hle, rfl, ?_, ?_⟩, ?_⟩
      · intro b' o h
        by_cases hbb : b' = b
        · subst hbb; simp [m'] at h; rw [h1, h]
        · simp [m', hbb] at h; exact r.imm _ _ h
      · intro n x hx hn
        cases hx with
        | imm h => cases h
        | ownNil h => exact .nil k _ 0
        | @own _ _ b2 cap2 h =>
          rw [hb] at h
          simp only [Option.some.injEq, Prod.mk.injEq] at h
          obtain ⟨rfl, rfl⟩ := h
          refine .lst (T := e) (arr := arr) (fr := (0, 0)) (fun i => arr.getD (cap.off + i) undef) (by simp [m']) rfl (by simp; omega) (by omega) (by omega) (fun row hr => h5 row (List.mem_of_mem_take hr)) ?_ ?_
          · intro i hi'
            refine hcells i (Nat.lt_of_lt_of_le hi' (Nat.mul_le_mul_right _ ?_))
            simp; exact Nat.min_le_right _ _
          · intro i j row c hr hj
            rw [List.getElem?_take] at hr
            split at hr
            · exact hrel i j row c hr hj
            · simp at hr
      · intro i o row x hr hx
        cases hx with
        | imm h => cases h
        | @ptr _ _ _ _ b2 cap2 h =>
          rw [hb] at h
          simp only [Option.some.injEq, Prod.mk.injEq] at h
          obtain ⟨rfl, rfl⟩ := h
          have hrk := h5 row (List.mem_of_getElem? hr)
          refine .iptr (T := e) (arr := arr) (fr := (0, 0)) (fun j => arr.getD (cap.off + (i * k + j)) undef) (cap.off + i * k) (by simp [m']) rfl (by simp; omega) ?_ ?_
          · intro j hj
            rw [Nat.add_assoc]
            refine hcells _ ?_
            calc i * k + j < i * k + k := by omega
              _ = (i + 1) * k := by rw [Nat.add_mul, Nat.one_mul]
              _ ≤ rows.length * k := Nat.mul_le_mul_right _ (List.getElem?_eq_some_iff.1 hr).1
          · exact fun j c hj => hrel i j row c hr hj
      · intro b'
        by_cases hbb : b' = b
        · exact .inr ⟨cap, by rw [hbb]⟩
        · exact .inl (by simp [m', hbb])
  obtain ⟨m', k1, hy, k2⟩ := key
  have hlid : hget S.hp id ≠ .dead := by rw [ho]; simp
  have hlive : ∀ i, hget hp i ≠ .dead → hget S.hp i ≠ .dead ∧ i ≠ id := by
    intro i h
    have h2 := hhp i
    refine ⟨fun hdd => ?_, fun he => h (by rw [he]; exact hd)⟩
    rw [hdd] at h2
    cases ho' : hget hp i with
    | dead => exact h ho'
    | arr => rw [ho'] at h2; simp [ObSub] at h2
    | res => rw [ho'] at h2; simp [ObSub] at h2
    | map => rw [ho'] at h2; simp [ObSub] at h2
  refine ⟨m', β, ?_⟩
  constructor
  · exact k1
  · exact Mem.le_trans r.ext hy.1
  · intro b hb' hold
    rcases k2 b with h | ⟨cap, h⟩
    · rw [h]; exact r.mold b hb' hold
    · subst h
      have hp' := r.priv id b cap (by rw [ho]; simp) hb
      exact absurd hold (hp'.2 hb')
  · exact r.frame
  · exact r.size
  · exact r.same
  · exact r.tn
  · exact r.df
  · exact fun t => henv t _ _ _ _ _ hy (r.env t)
  · intro i
    exact (hhp i).ok hy (r.own i)
  · intro i b cap hl hb'
    obtain ⟨h1, h2⟩ := hlive i hl
    have hp' := r.priv i b cap h1 hb'
    refine ⟨?_, hp'.2⟩
    rcases k2 b with h | ⟨cap', h⟩
    · rw [h]; exact hp'.1
    · subst h
      exact absurd (r.inj i id b cap cap' h1 (by rw [ho]; simp) hb' hb) h2
  · intro i i' b cap cap' hl hl'
    exact r.inj i i' b cap cap' (hlive i hl).1 (hlive i' hl').1
  · intro i x hl hx
    have h := r.hid i x (hlive i hl).1 hx
    refine ⟨h.lt, ?_, h.old, fun i' b c hi' => h.ne i' b c (hlive i' hi').1, fun i' hi' => h.un i' (hlive i' hi').1⟩
    rcases k2 x with h' | ⟨cap', h'⟩
    · rw [h']; exact h.m
    · subst h'
      exact absurd rfl (h.ne id x cap' hlid hb)
  · exact r.nx
  · exact r.pin
end
end Go.Pv
