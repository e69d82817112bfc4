/- Part of the proof: RS. -/
import Derived.Test.YtpbkggamiipdmaaMRW
namespace Go.Proofs.Ytpbkggamiipdmaa
open Go Go.Pv
set_option linter.unusedVariables false
set_option linter.unusedSimpArgs false
set_option maxRecDepth 100000
def tru (l : List Bool) (n : Nat) : Prop := l[n]? = some true
def fls (l : List Bool) : Nat := l.countP fun b => !b
theorem tru_set {l : List Bool} {i n : Nat} (hi : i < l.length) : tru (l.set i true) n ↔ n = i ∨ tru l n := by
  unfold tru
  rw [List.getElem?_set]
  by_cases h : i = n
  · subst h; simp [hi]
  · rw [if_neg h]
    constructor
    · exact .inr
    · rintro (h2 | h2)
      · exact absurd h2.symm h
      · exact h2
theorem fls_set {l : List Bool} {i : Nat} (hi : i < l.length) (h : l[i] = false) : fls (l.set i true) + 1 = fls l := by
  induction l generalizing i with
  | nil => simp at hi
  | cons x l ih =>
    cases i with
    | zero =>
      simp only [List.getElem_cons_zero] at h
      subst h
      simp [fls]
    | succ i =>
      have := ih (i := i) (by simpa using hi) (by simpa using h)
      unfold fls at this ⊢
      rw [List.set_cons_succ, List.countP_cons, List.countP_cons]
      omega
structure Grow (A : Nat → Prop) (l : List Bool) (q : List Int) (l' : List Bool) (q' : List Int) : Prop where
  len : l'.length = l.length
  mu : q'.length + fls l' = q.length + fls l
  old : ∀ n, tru l n → tru l' n
  new : ∀ n, tru l' n → tru l n ∨ (A n ∧ (n : Int) ∈ q')
  qold : ∀ x, x ∈ q → x ∈ q'
  qnew : ∀ x, x ∈ q' → x ∈ q ∨ ∃ n : Nat, x = n ∧ A n ∧ tru l' n
theorem Grow.refl {A : Nat → Prop} {l : List Bool} {q : List Int} : Grow A l q l q := ⟨rfl, rfl, fun _ h => h, fun _ h => .inl h, fun _ h => h, fun _ h => .inl h⟩
theorem Grow.trans {A : Nat → Prop} {l l' l'' : List Bool} {q q' q'' : List Int} (h : Grow A l q l' q') (g : Grow A l' q' l'' q'') : Grow A l q l'' q'' where
  len := g.len.trans h.len
  mu := g.mu.trans h.mu
  old := fun n hn => g.old n (h.old n hn)
  new := fun n hn => by
    rcases g.new n hn with h1 | h1
    · rcases h.new n h1 with h2 | h2
      · exact .inl h2
      · exact .inr ⟨h2.1, g.qold _ h2.2⟩
    · exact .inr h1
  qold := fun x hx => g.qold x (h.qold x hx)
  qnew := fun x hx => by
    rcases g.qnew x hx with h1 | h1
    · rcases h.qnew x h1 with h2 | ⟨n, h2, h3, h4⟩
      · exact .inl h2
      · exact .inr ⟨n, h2, h3, g.old n h4⟩
    · exact .inr h1
theorem Grow.weak {A B : Nat → Prop} {l l' : List Bool} {q q' : List Int} (h : Grow A l q l' q') (hab : ∀ n, A n → B n) : Grow B l q l' q' where
  len := h.len
  mu := h.mu
  old := h.old
  new := fun n hn => (h.new n hn).imp id (fun x => ⟨hab n x.1, x.2⟩)
  qold := h.qold
  qnew := fun x hx => (h.qnew x hx).imp id (fun ⟨n, h1, h2, h3⟩ => ⟨n, h1, hab n h2, h3⟩)
theorem add_eq (F : Nat) (w : Treach_world) (l md : List Bool) (m : List (Treach_slot × Bool)) (o : List Treach_slot) (ty q : List Int) (n : Nat) (hn : n < l.length) (hb : q.length + fls l ≤ 100000) :
    ∃ l' q', M68 F (n : Int) w l md m o ty q = some (l', q') ∧ Grow (fun k => k = n) l q l' q' ∧ tru l' n := by
  unfold M68
  rw [idx_nat hn, Option.bind_some]
  cases hl : l[n]
  · rw [if_pos (by simp), Option.bind_some, if_pos (by simp; omega), Int.toNat_natCast]
    refine ⟨l.set n true, q ++ [(n : Int)], rfl, ⟨by simp, ?_, fun k hk => (tru_set hn).2 (.inr hk), fun k hk => ?_, fun x hx => List.mem_append_left _ hx, fun x hx => ?_⟩, (tru_set hn).2 (.inl rfl)⟩
    · have := fls_set hn hl
      simp; omega
    · rcases (tru_set hn).1 hk with rfl | hk
      · exact .inr ⟨rfl, by simp⟩
      · exact .inl hk
    · rcases List.mem_append.1 hx with hx | hx
      · exact .inl hx
      · simp at hx
        exact .inr ⟨n, hx, rfl, (tru_set hn).2 (.inl rfl)⟩
  · rw [if_neg (by simp)]
    exact ⟨l, q, rfl, Grow.refl, by unfold tru; rw [List.getElem?_eq_getElem hn, hl]⟩
def fI (w : Treach_world) (x : Tx) : Int := (mget w.funcs x).getD 0
def tI (w : Treach_world) (x : Tx) : Int := (mget w.types x).getD 0
def onB (w : Treach_world) (x : Tx) : Bool := (mget w.on x).getD false
def fitL (w : Treach_world) (x : Tx) : List Int := (mget w.fitting x).getD []
def slotOf (c : TCall) : Treach_slot := Treach_slot.mk c.Target c.Method
inductive RR (F : Nat) (w : Treach_world) : Bool → Int → Prop
  | entry {e : Tx} (h : e ∈ w.g.Entries) : RR F w false (fI w e)
  | dir {f : Int} {x : TFunc} {c : TCall} (hf : RR F w false f) (hx : idx w.g.Funcs f = some x) (hc : c ∈ x.Calls) (ho : onB w c.Feature = true) (k : c.Kind = 1) : RR F w false (fI w c.Target)
  | dis {f t v : Int} {x : TFunc} {c : TCall} (hf : RR F w false f) (hx : idx w.g.Funcs f = some x) (hc : c ∈ x.Calls) (ho : onB w c.Feature = true) (k : c.Kind ≠ 1) (ht : t ∈ fitL w c.Target) (hm : w.made = true → RR F w true t) (hv : M82 F w c t = some v) : RR F w false v
  | mk {f : Int} {x : TFunc} {t : Tx} (hf : RR F w false f) (hx : idx w.g.Funcs f = some x) (ht : t ∈ x.Makes) : RR F w true (tI w t)
theorem M82_m (F : Nat) (w : Treach_world) {c c' : TCall} (h : c.Method = c'.Method) (t : Int) : M82 F w c t = M82 F w c' t := by unfold M82; rw [h]
/-- What a world must have, for the runs to go through. -/
structure WOk (F : Nat) (w : Treach_world) : Prop where
  fl : w.g.Funcs.length ≤ 3000
  tl : w.g.Types.length ≤ 500
  ent : ∀ e, e ∈ w.g.Entries → ∃ i : Nat, i < w.g.Funcs.length ∧ fI w e = i
  cl : ∀ x, x ∈ w.g.Funcs → x.Calls.length ≤ 200
  mks : ∀ x, x ∈ w.g.Funcs → ∀ t, t ∈ x.Makes → ∃ i : Nat, i < w.g.Types.length ∧ tI w t = i
  dir : ∀ x, x ∈ w.g.Funcs → ∀ c, c ∈ x.Calls → ∃ i : Nat, i < w.g.Funcs.length ∧ fI w c.Target = i
  fit : ∀ s t, t ∈ fitL w s → ∃ i : Nat, i < w.g.Types.length ∧ t = i
  tgt : ∀ c (t : Int), (∃ i : Nat, i < w.g.Types.length ∧ t = i) → 0 < w.g.Funcs.length → ∃ i : Nat, i < w.g.Funcs.length ∧ M82 F w c t = some (i : Int)
def SC (s : Treach_slot) : TCall := TCall.mk 0 s.iface s.method []
def Done (F : Nat) (w : Treach_world) (l md : List Bool) (o : List Treach_slot) (n : Nat) : Prop :=
  ∀ x, idx w.g.Funcs (n : Int) = some x → (∀ t, t ∈ x.Makes → ∀ i : Nat, tI w t = i → tru md i) ∧ ∀ c, c ∈ x.Calls → onB w c.Feature = true → (c.Kind = 1 → ∀ i : Nat, fI w c.Target = i → tru l i) ∧ (c.Kind ≠ 1 → slotOf c ∈ o)
structure Inv (F : Nat) (w : Treach_world) (l md : List Bool) (m : List (Treach_slot × Bool)) (o : List Treach_slot) (q : List Int) (b z : Nat) (E : Nat → Prop) : Prop where
  ll : l.length = w.g.Funcs.length
  ml : md.length = w.g.Types.length
  mu : o.length + 200 * (q.length + fls l) + b ≤ 600000
  qm : q.length + fls l = z ∧ z ≤ 3000
  qr : ∀ x, x ∈ q → ∃ n : Nat, x = n ∧ tru l n
  sf : ∀ n, tru l n → RR F w false n
  st : ∀ n, tru md n → RR F w true n
  ms : ∀ s, (mget m s).getD false = true ↔ s ∈ o
  so : ∀ s, s ∈ o → ∃ f x c, RR F w false f ∧ idx w.g.Funcs f = some x ∧ c ∈ x.Calls ∧ onB w c.Feature = true ∧ c.Kind ≠ 1 ∧ s = slotOf c
  cls : ∀ s, s ∈ o → ∀ t, t ∈ fitL w s.iface → (w.made = true → tru md t.toNat) → ∀ n : Nat, M82 F w (SC s) t = some (n : Int) → tru l n
  dn : ∀ n, tru l n → (n : Int) ∈ q ∨ Done F w l md o n ∨ E n
theorem Done.mono {F : Nat} {w : Treach_world} {l md l' md' : List Bool} {o o' : List Treach_slot} {n : Nat} (h : Done F w l md o n) (hl : ∀ n, tru l n → tru l' n) (hm : ∀ n, tru md n → tru md' n) (ho : ∀ s, s ∈ o → s ∈ o') : Done F w l' md' o' n := fun x hx =>
  ⟨fun t ht i hi => hm i ((h x hx).1 t ht i hi), fun c hc hon => ⟨fun k i hi => hl i (((h x hx).2 c hc hon).1 k i hi), fun k => ho _ (((h x hx).2 c hc hon).2 k)⟩⟩
theorem tru_lt {l : List Bool} {n : Nat} (h : tru l n) : n < l.length := (List.getElem?_eq_some_iff.1 h).1
/-- What a growth by functions that are reached leaves as it was. -/
theorem Inv.grow {F : Nat} {w : Treach_world} {l md l' : List Bool} {m : List (Treach_slot × Bool)} {o : List Treach_slot} {q q' : List Int} {b z : Nat} {E A : Nat → Prop} (I : Inv F w l md m o q b z E) (G : Grow A l q l' q') (hA : ∀ n, A n → RR F w false n) : Inv F w l' md m o q' b z E where
  ll := G.len.trans I.ll
  ml := I.ml
  mu := by rw [G.mu]; exact I.mu
  qm := by rw [G.mu]; exact I.qm
  qr := fun x hx => by
    rcases G.qnew x hx with h | ⟨n, h1, _, h3⟩
    · obtain ⟨n, h1, h2⟩ := I.qr x h
      exact ⟨n, h1, G.old n h2⟩
    · exact ⟨n, h1, h3⟩
  sf := fun n hn => by
    rcases G.new n hn with h | h
    · exact I.sf n h
    · exact hA n h.1
  st := I.st
  ms := I.ms
  so := I.so
  cls := fun s hs t ht hm n hn => G.old n (I.cls s hs t ht hm n hn)
  dn := fun n hn => by
    rcases G.new n hn with h | h
    · rcases I.dn n h with h1 | h1 | h1
      · exact .inl (G.qold _ h1)
      · exact .inr (.inl (h1.mono G.old (fun _ h => h) (fun _ h => h)))
      · exact .inr (.inr h1)
    · exact .inl h.2
theorem call_loop (F : Nat) (w : Treach_world) (c : TCall) (md : List Bool) (m : List (Treach_slot × Bool)) (o : List Treach_slot) (ty : List Int) (hml : md.length = w.g.Types.length) :
    ∀ (ts : List Int) (l : List Bool) (q : List Int), (∀ t, t ∈ ts → (∃ i : Nat, i < w.g.Types.length ∧ t = i) ∧ ∃ i : Nat, i < l.length ∧ M82 F w c t = some (i : Int)) → q.length + fls l ≤ 100000 →
    ∃ l' q', M70_L1 F c w md m o ty ts l q = some (l', mput m (slotOf c) true, o ++ [slotOf c], q') ∧ Grow (fun n => ∃ t, t ∈ ts ∧ (w.made = true → tru md t.toNat) ∧ M82 F w c t = some (n : Int)) l q l' q' ∧
      ∀ t, t ∈ ts → (w.made = true → tru md t.toNat) → ∀ n : Nat, M82 F w c t = some (n : Int) → tru l' n
  | [], l, q, _, _ => ⟨l, q, rfl, Grow.refl, by simp⟩
  | t :: ts, l, q, h, hb => by
    obtain ⟨⟨i, hi, rfl⟩, v, hv, hM⟩ := h t (by simp)
    -- the step, if it is taken
    have step : (w.made = true → tru md i) → ∃ l' q', (M68 F (v : Int) w l md (mput m (slotOf c) true) (o ++ [slotOf c]) ty q = some (l', q')) ∧ (∃ l'' q'', M70_L1 F c w md m o ty ts l' q' = some (l'', mput m (slotOf c) true, o ++ [slotOf c], q'') ∧ Grow (fun n => ∃ u, u ∈ (i : Int) :: ts ∧ (w.made = true → tru md u.toNat) ∧ M82 F w c u = some (n : Int)) l q l'' q'' ∧
        ∀ u, u ∈ (i : Int) :: ts → (w.made = true → tru md u.toNat) → ∀ n : Nat, M82 F w c u = some (n : Int) → tru l'' n) := by
      intro hm
      obtain ⟨l', q', e1, g1, t1⟩ := add_eq F w l md (mput m (slotOf c) true) (o ++ [slotOf c]) ty q v hv hb
      obtain ⟨l'', q'', e2, g2, t2⟩ := call_loop F w c md m o ty hml ts l' q' (fun u hu => by rw [g1.len]; exact h u (List.mem_cons_of_mem _ hu)) (by rw [g1.mu]; exact hb)
      refine ⟨l', q', e1, l'', q'', e2, (g1.weak (fun n hn => ⟨(i : Int), by simp, by simpa using hm, by subst hn; exact hM⟩)).trans (g2.weak fun n ⟨u, h1, h2⟩ => ⟨u, List.mem_cons_of_mem _ h1, h2⟩), fun u hu hmu n hn => ?_⟩
      rcases List.mem_cons.1 hu with rfl | hu
      · rw [hM] at hn; simp only [Option.some.injEq] at hn; obtain rfl : v = n := by omega
        exact g2.old _ t1
      · exact t2 u hu hmu n hn
    have skip : ¬ (w.made = true → tru md i) → ∃ l'' q'', M70_L1 F c w md m o ty ts l q = some (l'', mput m (slotOf c) true, o ++ [slotOf c], q'') ∧ Grow (fun n => ∃ u, u ∈ (i : Int) :: ts ∧ (w.made = true → tru md u.toNat) ∧ M82 F w c u = some (n : Int)) l q l'' q'' ∧
        ∀ u, u ∈ (i : Int) :: ts → (w.made = true → tru md u.toNat) → ∀ n : Nat, M82 F w c u = some (n : Int) → tru l'' n := by
      intro hm
      obtain ⟨l'', q'', e2, g2, t2⟩ := call_loop F w c md m o ty hml ts l q (fun u hu => h u (List.mem_cons_of_mem _ hu)) hb
      refine ⟨l'', q'', e2, g2.weak fun n ⟨u, h1, h2⟩ => ⟨u, List.mem_cons_of_mem _ h1, h2⟩, fun u hu hmu n hn => ?_⟩
      rcases List.mem_cons.1 hu with rfl | hu
      · exact absurd (by simpa using hmu) hm
      · exact t2 u hu hmu n hn
    rw [M70_L1]
    simp only [jn_def]
    by_cases hmade : w.made = true
    · rw [if_neg (by simp [hmade]), idx_nat (by omega : i < md.length), Option.bind_some]
      cases hmd : md[i]
      · rw [if_neg (by simp)]
        exact skip (fun h => by have := h hmade; unfold tru at this; rw [List.getElem?_eq_getElem (by omega), hmd] at this; simp at this)
      · rw [if_pos rfl, hM, Option.bind_some]
        obtain ⟨l', q', e1, r⟩ := step (fun _ => by unfold tru; rw [List.getElem?_eq_getElem (by omega), hmd])
        have e1' : M68 F (v : Int) w l md (mput m (Treach_slot.mk c.Target c.Method) true) (o ++ ([(Treach_slot.mk c.Target c.Method)] : List Treach_slot)) ty q = some (l', q') := e1
        rw [e1', Option.bind_some]
        exact r
    · rw [if_pos (by simpa using hmade), hM, Option.bind_some]
      obtain ⟨l', q', e1, r⟩ := step (fun h => absurd h hmade)
      have e1' : M68 F (v : Int) w l md (mput m (Treach_slot.mk c.Target c.Method) true) (o ++ ([(Treach_slot.mk c.Target c.Method)] : List Treach_slot)) ty q = some (l', q') := e1
      rw [e1', Option.bind_some]
      exact r
end Go.Proofs.Ytpbkggamiipdmaa
