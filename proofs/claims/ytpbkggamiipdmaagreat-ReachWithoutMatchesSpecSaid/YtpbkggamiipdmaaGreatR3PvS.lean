/- The framework of walks over abstract values (own text), part S. -/
import Derived.Test.YtpbkggamiipdmaaGreatR3PvR
namespace Go.Pv
open Go
section
variable {K : Ctx} {Q : Post} {S S' : St} {ops : Array Oper} {rest : List Oper} {op : Op} {ty : TypeId} {pos : String} {after : Array Edge} {g : Option (Nat × Bool)}
variable {m : Mem} {β : Locs} {w : World} {a : Act}
theorem evm_nil : ([] : List Operand).map (evl K S) = [] := rfl
theorem evm_cons {x : Operand} {v : V} {xs : List Operand} {vs : List V} (h : evl K S x = v) (t : xs.map (evl K S) = vs) : (x :: xs).map (evl K S) = v :: vs := by rw [List.map_cons, h, t]
theorem evp_nil : ([] : List (Nat × Operand)).map (fun p => (p.1, evl K S p.2)) = [] := rfl
theorem evp_cons {i : Nat} {x : Operand} {v : V} {xs : List (Nat × Operand)} {vs : List (Nat × V)} (h : evl K S x = v) (t : xs.map (fun p => (p.1, evl K S p.2)) = vs) :
    ((i, x) :: xs).map (fun p => (p.1, evl K S p.2)) = (i, v) :: vs := by rw [List.map_cons, h, t]
/-- A list of rows, one by one. -/
inductive ImmRows : List (List V) → Prop
  | nil : ImmRows []
  | cons {r : List V} {rs : List (List V)} (h : Imms r) (t : ImmRows rs) : ImmRows (r :: rs)
theorem imms_rows {rows : List (List V)} (h : ImmRows rows) : ∀ row, row ∈ rows → Imms row := by
  induction h with
  | nil => intro row h; simp at h
  | cons h _ ih =>
    intro row hr
    rcases List.mem_cons.1 hr with rfl | hr
    · exact h
    · exact ih row hr
def mput {α β : Type} [DecidableEq α] : List (α × β) → α → β → List (α × β)
  | [], k, v => [(k, v)]
  | p :: r, k, v => if p.1 = k then (k, v) :: r else p :: mput r k v
def mget {α β : Type} [DecidableEq α] : List (α × β) → α → Option β
  | [], _ => none
  | p :: r, k => if p.1 = k then some p.2 else mget r k
theorem puts_map {α β : Type} [DecidableEq α] {kv : α → Value} {ev : β → V} (hinj : ∀ a b, kv a = kv b → a = b) (xs : List (α × β)) (k : α) (v : β) :
    Puts (kv k) (ev v) (xs.map fun p => (kv p.1, ev p.2)) ((mput xs k v).map fun p => (kv p.1, ev p.2)) := by
  induction xs with
  | nil => exact .nil
  | cons p r ih =>
    simp only [List.map_cons, mput]
    split
    · rename_i h; subst h; exact .here
    · rename_i h; exact .there (fun e => h (hinj _ _ e)) ih
theorem look_map {α β : Type} [DecidableEq α] {kv : α → Value} {ev : β → V} (hinj : ∀ a b, kv a = kv b → a = b) (xs : List (α × β)) (k : α) :
    Look (kv k) (xs.map fun p => (kv p.1, ev p.2)) ((mget xs k).map ev) := by
  induction xs with
  | nil => exact .nil
  | cons p r ih =>
    simp only [List.map_cons, mget]
    split
    · rename_i h; subst h; exact .here
    · rename_i h; exact .there (fun e => h (hinj _ _ e)) ih
theorem getD_map {β : Type} (ev : β → V) (o : Option β) (z : β) : (o.map ev).getD (ev z) = ev (o.getD z) := by cases o <;> rfl
theorem isSome_map {β : Type} (ev : β → V) (o : Option β) : (o.map ev).isSome = o.isSome := by cases o <;> rfl
theorem inj_int {k : IntKind} : ∀ a b : Int, (Value.int k a) = .int k b → a = b := by intro a b h; cases h; rfl
theorem inj_str : ∀ a b : List UInt8, str a = str b → a = b := by
  intro a b h
  simp only [str, Value.string.injEq, ByteArray.mk.injEq] at h
  simpa using congrArg Array.toList h
theorem rel_frzM (r : Rel K m β w a S) (id : Nat) {es : List (Value × V)} (ho : hget S.hp id = .map es) (hi : ∀ p, p ∈ es → Imm p.2) :
    ∃ m', (∀ (b : Nat) o, m' b = some o → w.heap[b]? = some o) ∧ m.le m' ∧ (∀ x, VRel m β (.map id) x → IRel m' (.imap es) x) ∧ (∀ b, b < K.w0.heap.size → K.old b → m' b = K.m0 b) ∧
      ∀ b, m' b = m b ∨ ∃ cap, β id = some (some (b, cap)) := by
  have hown := r.own id
  rw [ho] at hown
  cases hb : β id with
  | none => rw [hb] at hown; simp [ObOk] at hown
  | some l =>
  cases l with
  | none => rw [hb] at hown; simp [ObOk] at hown
  | some p =>
  obtain ⟨b, cap⟩ := p
  rw [hb] at hown
  obtain ⟨ents, clock, bl, h1, h2, hBl, h3⟩ := hown
  have hp' := r.priv id b cap (by rw [ho]; simp) hb
  let m' : Mem := fun b' => if b' = b then some (.map ents clock) else m b'
  have hle : m.le m' := by
    intro b' o h
    have : b' ≠ b := by intro e'; subst e'; rw [hp'.1] at h; simp at h
    simp [m', this, h]
  refine ⟨m', ?_, hle, ?_, ?_, ?_⟩
  · intro b' o h
    by_cases hbb : b' = b
    · subst hbb; simp [m'] at h; rw [h1, h]
    · simp [m', hbb] at h; exact r.imm _ _ h
  · intro x hx
    cases hx with
    | imm h => cases h
    | @map _ b2 cap2 h =>
      rw [hb] at h
      simp only [Option.some.injEq, Prod.mk.injEq] at h
      obtain ⟨rfl, rfl⟩ := h
      refine .imap (ents := ents) (clock := clock) (by simp [m']) h2 (fun i p e a1 a2 => (h3 i p e a1 a2).1) fun i p e a1 a2 => ?_
      have hii := hi p (List.mem_of_getElem? a1)
      exact (hii.2 m β e.val ((h3 i p e a1 a2).2.v hii.1)).mono hle
  · intro b' hb' hold
    by_cases hbb : b' = b
    · subst hbb; exact absurd hold (hp'.2 hb')
    · simp [m', hbb]; exact r.mold b' hb' hold
  · intro b'
    by_cases hbb : b' = b
    · exact .inr ⟨cap, by rw [hbb]⟩
    · exact .inl (by simp [m', hbb])
def FrzM (id : Nat) (es : List (Value × V)) : Hy := fun m β m' β' => m.le m' ∧ β' = β ∧ ∀ x, VRel m β (.map id) x → IRel m' (.imap es) x
instance {id : Nat} {es : List (Value × V)} : HyMC (FrzM id es) := ⟨fun m β m' β' hy => hy.1⟩
theorem Sub.keepM {id : Nat} {es : List (Value × V)} {v : V} : Sub (FrzM id es) v v := fun _ _ _ _ _ hy hx => by
  obtain ⟨h1, rfl, _⟩ := hy
  exact hx.mono h1 (Locs.le_refl _)
theorem Sub.frzM {id : Nat} {es : List (Value × V)} : Sub (FrzM id es) (.imap es) (.map id) := fun _ _ _ _ _ hy hx => .imm (hy.2.2 _ hx)
theorem ghost_freezeM (id : Nat) {es : List (Value × V)} (env : Env) (hp : Heap) (ho : hget S.hp id = .map es) (hi : ∀ p, p ∈ es → Imm p.2)
    (henv : ∀ t, Sub (FrzM id es) (get env t) (get S.env t)) (hhp : ∀ i, ObSub (FrzM id es) (hget hp i) (hget S.hp i)) (hd : hget hp id = .dead) : Ghost K S ⟨env, hp, S.nx⟩ := by
  intro m β w a r
  obtain ⟨m', k1, hle, hfr, hmold, k2⟩ := rel_frzM r id ho hi
  have hy : FrzM id es m β m' β := ⟨hle, rfl, hfr⟩
  have hlive : ∀ i, hget hp i ≠ .dead → hget S.hp i ≠ .dead ∧ i ≠ id := by
    intro i h
    have h2 := hhp i
    refine ⟨fun hdd => ?_, fun he => h (by rw [he]; exact hd)⟩
    rw [hdd] at h2
    cases ho' : hget hp i with
    | dead => exact h ho'
    | arr => rw [ho'] at h2; simp [ObSub] at h2
    | res => rw [ho'] at h2; simp [ObSub] at h2
    | map => rw [ho'] at h2; simp [ObSub] at h2
  refine ⟨m', β, k1, Mem.le_trans r.ext hle, hmold, r.frame, r.size, r.same, r.tn, r.df, fun t => henv t _ _ _ _ _ hy (r.env t), fun i => (hhp i).ok hy (r.own i), fun i b cap hl hb' => ?_,
    fun i i' b cap cap' hl hl' => r.inj i i' b cap cap' (hlive i hl).1 (hlive i' hl').1, fun i x hl hx => ?_, r.nx, r.pin⟩
  rotate_left
  · have q := (r.hid i x (hlive i hl).1 hx).weak (fun i h => (hlive i h).1)
    refine ⟨q.lt, ?_, q.old, q.ne, q.un⟩
    rcases k2 x with h | ⟨cap', h⟩
    · rw [h]; exact q.m
    · exact absurd rfl ((r.hid i x (hlive i hl).1 hx).ne id x cap' (by rw [ho]; simp) h)
  obtain ⟨h1, h2⟩ := hlive i hl
  have hp' := r.priv i b cap h1 hb'
  refine ⟨?_, hp'.2⟩
  rcases k2 b with h | ⟨cap', h⟩
  · rw [h]; exact hp'.1
  · exact absurd (r.inj i id b cap cap' h1 (by rw [ho]; simp) hb' h) h2
theorem ghost_frzMC (id id2 : Nat) {es : List (Value × V)} (ob : Ob) (ho : hget S.hp id = .map es) (hi : ∀ p, p ∈ es → Imm p.2) (hob : ObSub (FrzM id es) ob (hget S.hp id2)) :
    Ghost K S ⟨S.env, (id, .dead) :: (id2, ob) :: S.hp, S.nx⟩ :=
  ghost_freezeM id _ _ ho hi (fun _ => Sub.keepM) (fun i => by
    rw [hget_put]
    split
    · trivial
    · rw [hget_put]
      split
      · rename_i h; subst h; exact hob
      · exact ObSub.keep (fun _ => Sub.keepM) _) (by simp [hget_put])
/-- A slot's value is told anew. -/
theorem ghost_frzV (id t : Nat) {e k : Nat} {rows : List (List V)} (v : V) (ho : hget S.hp id = .arr e k rows) (hi : ∀ row, row ∈ rows → Imms row)
    {v0 : V} (ht : get S.env t = v0) (hv : Sub (Frz id k rows) v v0) : Ghost K S ⟨(t, v) :: S.env, (id, .dead) :: S.hp, S.nx⟩ :=
  ghost_freeze id _ _ ho hi (envPut (fun _ => Sub.keep) (by rw [ht]; exact hv)) hpFrz0 (by simp [hget_put])
/-- What a function value has caught. -/
theorem Sub.fnc {Y : Hy} {f : Fn} {cs cs' : List V} (h : Subs Y cs cs') : Sub Y (.fn f [] cs) (.fn f [] cs') := fun m β m' β' x hy hx => by
  have key : ∀ us : Array Value, cs'.length = us.size → (∀ (i : Nat) (c : V) (v : Value), cs'[i]? = some c → us[i]? = some v → VRel m β c v) →
      ∀ (i : Nat) (c : V) (v : Value), cs[i]? = some c → us[i]? = some v → VRel m' β' c v := by
    intro us hl hh i c v h1 h2
    have h3 : i < cs'.length := by rw [← h.len]; exact (List.getElem?_eq_some_iff.1 h1).1
    exact h.get i c _ h1 (List.getElem?_eq_getElem h3) _ _ _ _ _ hy (hh i _ v (List.getElem?_eq_getElem h3) h2)
  cases hx with
  | imm hx => cases hx with
    | fn h1 h2 h3 h4 => exact .fn h1 (by rw [h.len]; exact h2) (fun i c v q => by simp at q) (key _ h2 fun i c v q1 q2 => .imm (h4 i c v q1 q2))
  | fn h1 h2 h3 h4 => exact .fn h1 (by rw [h.len]; exact h2) (fun i c v q => by simp at q) (key _ h2 h4)
def Idn : Hy := fun m β m' β' => m' = m ∧ β' = β
instance : HyMC Idn := ⟨fun m β m' β' hy => by rw [hy.1]; exact Mem.le_refl _⟩
theorem Sub.keepI {v : V} : Sub Idn v v := fun _ _ _ _ _ hy hx => by obtain ⟨rfl, rfl⟩ := hy; exact hx
theorem ghost_idn (env : Env) (hp : Heap) (henv : ∀ t, Sub Idn (get env t) (get S.env t)) (hhp : ∀ i, ObSub Idn (hget hp i) (hget S.hp i)) : Ghost K S ⟨env, hp, S.nx⟩ := by
  intro m β w a r
  have hy : Idn m β m β := ⟨rfl, rfl⟩
  have hlive : ∀ i, hget hp i ≠ .dead → hget S.hp i ≠ .dead := by
    intro i h hdd
    have h2 := hhp i
    rw [hdd] at h2
    cases ho' : hget hp i with
    | dead => exact h ho'
    | arr => rw [ho'] at h2; simp [ObSub] at h2
    | res => rw [ho'] at h2; simp [ObSub] at h2
    | map => rw [ho'] at h2; simp [ObSub] at h2
  exact ⟨m, β, r.imm, r.ext, r.mold, r.frame, r.size, r.same, r.tn, r.df, fun t => henv t _ _ _ _ _ hy (r.env t), fun i => (hhp i).ok hy (r.own i), fun i b c h => r.priv i b c (hlive i h),
    fun i i' b c c' h h' => r.inj i i' b c c' (hlive i h) (hlive i' h'), fun i x h hx => (r.hid i x (hlive i h) hx).weak hlive, r.nx, r.pin⟩
theorem ghost_tell (t : Nat) (v : V) {v0 : V} (ht : get S.env t = v0) (hv : Sub Idn v v0) : Ghost K S ⟨(t, v) :: S.env, S.hp, S.nx⟩ :=
  ghost_idn _ _ (envPut (fun _ => Sub.keepI) (by rw [ht]; exact hv)) fun _ => ObSub.keep (fun _ => Sub.keepI) _
def upd {α : Type} (f : Nat → α) (j : Nat) (x : α) : Nat → α := fun i => if i = j then x else f i
theorem aops_nilCheck_ptr {d id k i o : Nat} {x : Operand} (hw : Wants ops S ⟨some d, .nilCheck x, ty, pos, after, g⟩ true) (hx : evl K S x = .ptr id k i o) (hN : Nat.blt d K.N = true)
    (kk : AOps K ops rest Q (S.put d (.ptr id k i o))) : AOps K ops (⟨some d, .nilCheck x, ty, pos, after, g⟩ :: rest) Q S :=
  aops_val _ hw hN (fun m β w a r => by
    have h := r.reads x
    rw [hx] at h
    obtain ⟨b, cap, hb, hv⟩ := h.ptr_inv
    exact ⟨a.eval x, by simp only [execOp, hv]; rfl, h⟩) kk
theorem aops_nilCheck_iptr {d o : Nat} {row : List V} {x : Operand} (hw : Wants ops S ⟨some d, .nilCheck x, ty, pos, after, g⟩ true) (hx : evl K S x = .iptr row o) (hN : Nat.blt d K.N = true)
    (kk : AOps K ops rest Q (S.put d (.iptr row o))) : AOps K ops (⟨some d, .nilCheck x, ty, pos, after, g⟩ :: rest) Q S :=
  aops_val _ hw hN (fun m β w a r => by
    have h := r.reads x
    rw [hx] at h
    obtain ⟨ad, arr, T', fr, f, base, hv, _⟩ := h.iptr_inv
    exact ⟨a.eval x, by simp only [execOp, hv]; rfl, h⟩) kk
end
end Go.Pv
