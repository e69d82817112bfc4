/- Part of the proof: K6P8b, K6P8c, ZT, ZC6Ord, ZP6a, ZP6b, ZP6c. -/
import Derived.Test.YtpbkggamiipdmaaGreatC6K6P8a
import Derived.Test.YtpbkggamiipdmaaGreatC6ZS
import Derived.Test.YtpbkggamiipdmaaGreatC6K6B
import Derived.Test.YtpbkggamiipdmaaGreatC6PvX
namespace Go.Proofs.YtpbkggamiipdmaaGreat
open Go Go.Pv
set_option linter.unusedVariables false
set_option maxRecDepth 100000
section
variable {g : q1c} {fs : List Tx} {F : Nat} {m : List (Tx × q5a)}
def Nums (g : q1c) (l : List Int) (xs : List Tx) : Prop := (∀ v, v ∈ l → ∃ i : Nat, i < g.Funcs.length ∧ v = i) ∧ ∀ i : Nat, ∀ h : i < g.Funcs.length, (i : Int) ∈ l ↔ (g.Funcs[i]).Name ∈ xs
theorem Nums.nil : Nums g [] [] := ⟨by simp, by simp⟩
theorem Nums.app {l l' : List Int} {xs xs' : List Tx} (a : Nums g l xs) (b : Nums g l' xs') : Nums g (l ++ l') (xs ++ xs') :=
 ⟨fun v h => by
  rcases List.mem_append.1 h with h | h
  ·exact a.1 v h
  ·exact b.1 v h, fun i h => by rw [List.mem_append, List.mem_append, a.2 i h, b.2 i h]⟩
theorem Nums.of {c : TCall} {l : List Int} (T : TgtOk g c l) : Nums g l ((aimsG g c).map (·.to)) := ⟨T.nat, fun i h => (T.mem i h).trans (by simp)⟩
theorem name_inj (R : q8e g) {i j : Nat} (hi : i < g.Funcs.length) (hj : j < g.Funcs.length) (h : (g.Funcs[i]).Name = (g.Funcs[j]).Name) : i = j := by
 have h1 := fget_at R 1 [] hi
 rw [h, fget_at R 1 [] hj] at h1
 simp only [Option.some.injEq] at h1
 omega
theorem Nums.one (R : q8e g) (how : Int) (fs : List Tx) {x : Tx} (hx : fsOf g x = true) : Nums g [((mget (wOf g how fs).funcs x).getD 0)] [x] := by
  obtain ⟨i, hi, rfl⟩ := fs_at hx
  rw [fget_at R how fs hi]
  refine ⟨fun v hv => ?_, fun j hj => ?_⟩
  · simp only [Option.getD_some, List.mem_singleton] at hv; exact ⟨i, hi, hv⟩
  · simp only [Option.getD_some, List.mem_singleton]
    exact ⟨fun h => by have : j = i := by omega
                       subst this; rfl, fun h => by rw [name_inj R hj hi h]⟩
def ldC (g : q1c) (fs : List Tx) (l : List TCall) : List Tx := l.flatMap fun c => if onF fs c.Feature = true then (aimsG g c).map (·.to) else []
def ldO (g : q1c) (l : List q6a) : List Tx := l.flatMap fun o => (aimsG g (ocall o)).map (·.to)
def ldN (g : q1c) (fs : List Tx) (m : List (Tx × q5a)) (x : TFunc) : List Tx :=
 match mget m x.Name with
 | none => ldC g fs x.Calls
 | some s => s.Within ++ ldO g s.Outer
theorem M88_L1_eq (R : q8e g) (hF : 1000 ≤ F) (how : Int) (k : List Int → Option (List Int)) : ∀ (l : List TCall) (a : List Int), (∀ c, c ∈ l → CallOk g c) → a.length + l.length * 500 ≤ 1000000000000 →
  ∃ l', M88_L1 F (wOf g how fs) k l a = k (a ++ l') ∧ Nums g l' (ldC g fs l) ∧ l'.length ≤ l.length * 500
 | [], a, _, _ => ⟨[], by simp [M88_L1], Nums.nil, by simp⟩
 | c :: l, a, h, hl => by
  simp only [List.length_cons] at hl
  rw [M88_L1]
  simp only [q6d]
  have ho : (mget (wOf g how fs).on c.Feature).getD false = onF fs c.Feature := has_onF fs c.Feature
  rw [ho]
  cases hq : onF fs c.Feature
  ·obtain ⟨l', e1, e2, e3⟩ := M88_L1_eq R hF how k l a (fun c hc => h c (List.mem_cons_of_mem _ hc)) (by omega)
   refine ⟨l', by rw [if_neg (by simp), e1], ?_, by simp; omega⟩
   unfold ldC
   rw [List.flatMap_cons, hq, if_neg (by simp), List.nil_append]; exact e2
  ·obtain ⟨t, t1, T⟩ := M92_gen F hF R how fs (h c (by simp))
   have := T.len
   obtain ⟨l', e1, e2, e3⟩ := M88_L1_eq R hF how k l (a ++ t) (fun c hc => h c (List.mem_cons_of_mem _ hc)) (by simp; omega)
   refine ⟨t ++ l', by rw [if_pos rfl, t1, Option.bind_some, if_pos (by simp; omega), e1, List.append_assoc], ?_, by simp; omega⟩
   unfold ldC
   rw [List.flatMap_cons, hq, if_pos rfl]
   exact (Nums.of T).app e2
theorem M88_L2_eq (R : q8e g) (how : Int) (k : List Int → Option (List Int)) : ∀ (l : List Tx) (a : List Int), (∀ x, x ∈ l → fsOf g x = true) → a.length + l.length ≤ 1000000000000 →
  ∃ l', M88_L2 F (wOf g how fs) k l a = k (a ++ l') ∧ Nums g l' l ∧ l'.length ≤ l.length
 | [], a, _, _ => ⟨[], by simp [M88_L2], Nums.nil, by simp⟩
 | x :: l, a, h, hl => by
  simp only [List.length_cons] at hl
  rw [M88_L2]
  obtain ⟨l', e1, e2, e3⟩ := M88_L2_eq R how k l (a ++ [((mget (wOf g how fs).funcs x).getD 0)]) (fun c hc => h c (List.mem_cons_of_mem _ hc)) (by simp; omega)
  exact ⟨[((mget (wOf g how fs).funcs x).getD 0)] ++ l', by rw [if_pos (by simp; omega), e1, List.append_assoc], (Nums.one R how fs (h x (by simp))).app e2, by simp; omega⟩
theorem M88_L3_eq (R : q8e g) (hF : 1000 ≤ F) (how : Int) (k : List Int → Option (List Int)) : ∀ (l : List q6a) (a : List Int), (∀ c, c ∈ l → outOk g c = true) → a.length + l.length * 500 ≤ 1000000000000 →
  ∃ l', M88_L3 F (wOf g how fs) k l a = k (a ++ l') ∧ Nums g l' (ldO g l) ∧ l'.length ≤ l.length * 500
 | [], a, _, _ => ⟨[], by simp [M88_L3], Nums.nil, by simp⟩
 | o :: l, a, h, hl => by
  simp only [List.length_cons] at hl
  rw [M88_L3]
  simp only [q6d]
  have e : ∀ b : List Int → Option (List Int), (if (!(o.Method == ([] : Tx))) = true then (M92 F (wOf g how fs) (TCall.mk 2 o.Target o.Method [])).bind b else (M92 F (wOf g how fs) (TCall.mk 1 o.Target o.Method [])).bind b) = (M92 F (wOf g how fs) (ocall o)).bind b := by
   intro b
   unfold ocall
   by_cases he : o.Method = []
   ·rw [if_neg (by simp [he]), if_pos he]
   ·rw [if_pos (by simpa using he), if_neg he]
  rw [e]
  obtain ⟨t, t1, T⟩ := M92_gen F hF R how fs (CallOk.outer R (h o (by simp)))
  have := T.len
  obtain ⟨l', e1, e2, e3⟩ := M88_L3_eq R hF how k l (a ++ t) (fun c hc => h c (List.mem_cons_of_mem _ hc)) (by simp; omega)
  refine ⟨t ++ l', by rw [t1, Option.bind_some, if_pos (by simp; omega), e1, List.append_assoc], ?_, by simp; omega⟩
  unfold ldO
  rw [List.flatMap_cons]
  exact (Nums.of T).app e2
def SmOk (g : q1c) (m : List (Tx × q5a)) : Prop := ∀ x s, mget m x = some s → sumOk g s = true ∧ s.Within.length ≤ 1048576 ∧ s.Outer.length ≤ 1048576
theorem sumOk_parts {s : q5a} (h : sumOk g s = true) : (∀ x, x ∈ s.Within → fsOf g x = true) ∧ ∀ o, o ∈ s.Outer → outOk g o = true := by
 unfold sumOk at h
 rw [Bool.and_eq_true, List.all_eq_true, List.all_eq_true] at h
 exact ⟨fun x hx => h.1 x (List.mem_cons_of_mem _ hx), h.2⟩
theorem M88_eq (R : q8e g) (hF : 1000 ≤ F) (how : Int) (hm : SmOk g m) {i : Nat} (hi : i < g.Funcs.length) : ∃ l, M88 F (wOf g how fs) (i : Int) m = some l ∧ Nums g l (ldN g fs m g.Funcs[i]) ∧ l.length ≤ 526000000 := by
 have hf := R.f _ (List.getElem_mem hi)
 have e0 : idx (wOf g how fs).g.Funcs (i : Int) = some g.Funcs[i] := q7g hi
 unfold M88 ldN
 rw [e0, Option.bind_some, Option.bind_some]
 cases hg : mget m (g.Funcs[i]).Name with
 | none =>
  rw [if_pos (by simp), q6d]
  obtain ⟨l', e1, e2, e3⟩ := M88_L1_eq (F := F) (fs := fs) R hF how (fun l10 => some l10) (g.Funcs[i]).Calls [] (fun c hc => CallOk.of R (List.getElem_mem hi) hc) (by have := hf.len; simp; omega)
  exact ⟨l', e1, e2, by have := hf.len; omega⟩
 | some s =>
  obtain ⟨h1, h2, h3⟩ := hm _ _ hg
  obtain ⟨p1, p2⟩ := sumOk_parts h1
  rw [if_neg (by simp), q6d]
  simp only [Option.getD_some, q6d]
  obtain ⟨l', e1, e2, e3⟩ := M88_L2_eq (F := F) (fs := fs) R how (fun l26 => M88_L3 F (wOf g how fs) (fun l37 => some l37) s.Outer l26) s.Within [] p1 (by simp; omega)
  rw [e1, List.nil_append]
  obtain ⟨l'', f1, f2, f3⟩ := M88_L3_eq (F := F) (fs := fs) R hF how (fun l37 => some l37) s.Outer l' p2 (by omega)
  exact ⟨l' ++ l'', f1, e2.app f2, by simp; omega⟩
inductive RCo (g : q1c) (fs : List Tx) (m : List (Tx × q5a)) : Tx → Prop
 | entry {x : Tx} : x ∈ g.Entries → RCo g fs m x
 | step {x : TFunc} {y : Tx} : RCo g fs m x.Name → x ∈ g.Funcs → y ∈ ldN g fs m x → RCo g fs m y
structure BInv (g : q1c) (fs : List Tx) (m : List (Tx × q5a)) (seen : List Bool) (queue : List Int) : Prop where
 len : seen.length = g.Funcs.length
 q : ∀ v, v ∈ queue → ∃ i : Nat, ∃ h : i < g.Funcs.length, v = i ∧ RCo g fs m (g.Funcs[i]).Name
 s : ∀ i (h : i < g.Funcs.length), seen[i]? = some true → RCo g fs m (g.Funcs[i]).Name
 e : ∀ i (h : i < g.Funcs.length), (g.Funcs[i]).Name ∈ g.Entries → seen[i]? = some true ∨ (i : Int) ∈ queue
 l : ∀ i (h : i < g.Funcs.length), seen[i]? = some true → ∀ j (h' : j < g.Funcs.length), (g.Funcs[j]).Name ∈ ldN g fs m g.Funcs[i] → seen[j]? = some true ∨ (j : Int) ∈ queue
theorem BInv.done {seen : List Bool} (I : BInv g fs m seen []) (i : Nat) (h : i < g.Funcs.length) : seen[i]? = some true ↔ RCo g fs m (g.Funcs[i]).Name := by
 refine ⟨I.s i h, fun hr => ?_⟩
 have key : ∀ y, RCo g fs m y → ∀ i (h : i < g.Funcs.length), (g.Funcs[i]).Name = y → seen[i]? = some true := by
  intro y hy
  induction hy with
  | entry he => exact fun i h e => (I.e i h (by rw [e]; exact he)).resolve_right (by simp)
  | @step x y hx hm hl ih =>
   intro i h e
   obtain ⟨j, hj, rfl⟩ := List.getElem_of_mem hm
   exact (I.l j hj (ih j hj rfl) i h (by rw [e]; exact hl)).resolve_right (by simp)
 exact key _ hr i h rfl
theorem BInv.skip {seen : List Bool} {i : Nat} {q : List Int} (I : BInv g fs m seen ((i : Int) :: q)) (h : seen[i]? = some true) : BInv g fs m seen q := by
 have w : ∀ j : Nat, (j : Int) ∈ (i : Int) :: q → seen[j]? = some true ∨ (j : Int) ∈ q := by
  intro j hj
  rcases List.mem_cons.1 hj with e | e
  ·have : j = i := by omega
   subst this; exact .inl h
  ·exact .inr e
 exact ⟨I.len, fun v hv => I.q v (List.mem_cons_of_mem _ hv), I.s, fun j hj he => (I.e j hj he).elim .inl (w j), fun a ha hs j hj hl => (I.l a ha hs j hj hl).elim .inl (w j)⟩
theorem BInv.take {seen : List Bool} {i : Nat} {q l : List Int} (hi : i < g.Funcs.length) (I : BInv g fs m seen ((i : Int) :: q)) (N : Nums g l (ldN g fs m g.Funcs[i])) : BInv g fs m (seen.set i true) (q ++ l) := by
 have hri : RCo g fs m (g.Funcs[i]).Name := by
  obtain ⟨j, hj, e, hr⟩ := I.q (i : Int) (by simp)
  have : i = j := by omega
  subst this; exact hr
 have hl : i < seen.length := by rw [I.len]; exact hi
 have st : ∀ j, (seen.set i true)[j]? = some true ↔ j = i ∨ seen[j]? = some true := by
  intro j
  rw [List.getElem?_set]
  by_cases e : i = j
  ·subst e; simp [hl]
  ·rw [if_neg e]; exact ⟨.inr, fun h => h.resolve_left (fun e' => e e'.symm)⟩
 have w : ∀ j : Nat, seen[j]? = some true ∨ (j : Int) ∈ (i : Int) :: q → (seen.set i true)[j]? = some true ∨ (j : Int) ∈ q ++ l := by
  intro j hj
  rw [st, List.mem_append]
  rcases hj with h | h
  ·exact .inl (.inr h)
  ·rcases List.mem_cons.1 h with e | e
   ·exact .inl (.inl (by omega))
   ·exact .inr (.inl e)
 refine ⟨by simp [I.len], fun v hv => ?_, fun j hj hs => ?_, fun j hj he => w j (I.e j hj he), fun a ha hs j hj hl' => ?_⟩
 ·rcases List.mem_append.1 hv with h | h
  ·exact I.q v (List.mem_cons_of_mem _ h)
  ·obtain ⟨j, hj, rfl⟩ := N.1 v h
   exact ⟨j, hj, rfl, .step hri (List.getElem_mem hi) ((N.2 j hj).1 h)⟩
 ·rcases (st j).1 hs with e | e
  ·subst e; exact hri
  ·exact I.s j hj e
 ·rcases (st a).1 hs with e | e
  ·subst e
   exact .inr (List.mem_append.2 (.inr ((N.2 j hj).2 hl')))
  ·exact w j (I.l a ha e j hj hl')
theorem M24_L4_eq (R : q8e g) (hF : 1000 ≤ F) (hm : SmOk g m) (k : List Bool → Option (List Tx × Int)) : ∀ (n : Nat) (seen : List Bool) (q : List Int), BInv g fs m seen q → q.length + seen.count false * 526000001 < n → q.length + seen.count false * 526000001 ≤ 5000000000000 →
  ∃ seen', M24_L4 F (wOf g 1 fs).g.Ifaces (wOf g 1 fs).g.Types (wOf g 1 fs).g.Funcs (wOf g 1 fs).g.Entries (wOf g 1 fs).funcs (wOf g 1 fs).types (wOf g 1 fs).fitting (wOf g 1 fs).on (wOf g 1 fs).made m k n seen q = k seen' ∧ seen'.length = g.Funcs.length ∧ ∀ i (h : i < g.Funcs.length), seen'[i]? = some true ↔ RCo g fs m (g.Funcs[i]).Name
 | 0, _, _, _, hn, _ => by omega
 | n + 1, seen, [], I, _, _ => ⟨seen, by rw [M24_L4]; simp, I.len, I.done⟩
 | n + 1, seen, v :: q, I, hn, hb => by
  obtain ⟨i, hi, rfl, _⟩ := I.q v (by simp)
  have hl : i < seen.length := by rw [I.len]; exact hi
  have e1 : idx seen (i : Int) = some seen[i] := q7g hl
  rw [M24_L4, if_pos (by simp), show idx ((i : Int) :: q) 0 = some (i : Int) from rfl, Option.bind_some, if_pos (by simp), e1, Option.bind_some, Option.bind_some]
  simp only [List.length_cons] at hn hb
  by_cases hs : seen[i] = true
  ·rw [if_pos hs, show ((i : Int) :: q).drop 1 = q from rfl]
   exact M24_L4_eq R hF hm k n seen q (I.skip (by rw [List.getElem?_eq_getElem hl, hs])) (by omega) (by omega)
  ·have hs' : seen[i] = false := by simpa using hs
   rw [if_neg hs]
   obtain ⟨l, f1, f2, f3⟩ := M88_eq (F := F) (fs := fs) R hF 1 hm hi
   have ew : q7a.mk (q1c.mk (wOf g 1 fs).g.Ifaces (wOf g 1 fs).g.Types (wOf g 1 fs).g.Funcs (wOf g 1 fs).g.Entries) (wOf g 1 fs).funcs (wOf g 1 fs).types (wOf g 1 fs).fitting (wOf g 1 fs).on (wOf g 1 fs).made = wOf g 1 fs := rfl
   have hc : (seen.set i true).count false + 1 = seen.count false := by
    have h1 := List.count_set (l := seen) (i := i) (a := true) (b := false) hl
    have h2 : 0 < seen.count false := List.count_pos_iff.2 (by rw [← hs']; exact List.getElem_mem hl)
    rw [hs'] at h1
    simp at h1
    omega
   rw [ew, f1, Option.bind_some, show ((i : Int) :: q).drop 1 = q from rfl, if_pos (by simp; omega), show ((i : Int)).toNat = i from Int.toNat_natCast i]
   exact M24_L4_eq R hF hm k n _ _ (I.take hi f2) (by simp; omega) (by simp; omega)
theorem M24_L3_eq (R : q8e g) (k : List Int → Option (List Tx × Int)) : ∀ (l : List Tx) (a : List Int), (∀ x, x ∈ l → fsOf g x = true) → a.length + l.length ≤ 100000 →
  ∃ l', M24_L3 F (wOf g 1 fs).funcs k l a = k (a ++ l') ∧ Nums g l' l ∧ l'.length ≤ l.length
 | [], a, _, _ => ⟨[], by simp [M24_L3], Nums.nil, by simp⟩
 | x :: l, a, h, hl => by
  simp only [List.length_cons] at hl
  rw [M24_L3]
  obtain ⟨l', e1, e2, e3⟩ := M24_L3_eq R k l (a ++ [((mget (wOf g 1 fs).funcs x).getD 0)]) (fun c hc => h c (List.mem_cons_of_mem _ hc)) (by simp; omega)
  exact ⟨[((mget (wOf g 1 fs).funcs x).getD 0)] ++ l', by rw [if_pos (by simp; omega), e1, List.append_assoc], (Nums.one R 1 fs (h x (by simp))).app e2, by simp; omega⟩
theorem M24_L5_eq (hl : g.Funcs.length ≤ 3000) (k : List Tx → Option (List Tx × Int)) : ∀ (l : List Bool) (r : List TFunc) (n : Nat) (o : List Tx), g.Funcs.drop n = r → l.length = r.length → o.length + l.length ≤ 100000 → M24_L5 F g k l (n : Int) o = k (o ++ pick (·.Name) r l)
 | [], r, n, o, _, _, _ => by cases r <;> simp [M24_L5, pick]
 | b :: l, [], n, o, _, h, _ => by simp at h
 | b :: l, f :: r, n, o, hd, h, ho => by
  obtain ⟨hn, hx, hr⟩ := drop_at hd
  simp only [List.length_cons] at h ho
  have ih := fun o' ho' => M24_L5_eq hl k l r (n + 1) o' hr (by omega) ho'
  rw [show ((n + 1 : Nat) : Int) = (n : Int) + 1 from rfl] at ih
  rw [M24_L5, pick]
  simp only [q6d]
  cases b
  ·rw [if_neg (by simp), if_neg (by simp), ih o (by omega)]
  ·rw [if_pos rfl, if_pos rfl, q7g hn, Option.bind_some, if_pos (by simp; omega), ih _ (by simp; omega), hx, List.append_assoc]
   rfl
end
section
variable {g : q1c} {fs : List Tx} {F : Nat} {m : List (Tx × q5a)}
def setOf (l : List Tx) : SetM := l.map fun x => (x, true)
def add (l : List Tx) (x : Tx) : List Tx := if l.contains x = true then l else l ++ [x]
def NL (g : q1c) (l : List Tx) : Prop := l.Nodup ∧ ∀ x, x ∈ l → fsOf g x = true
theorem NL.len (R : q8e g) {l : List Tx} (h : NL g l) : l.length ≤ 3000 := by
 have := List.Nodup.length_le_of_subset (l₂ := g.Funcs.map (·.Name)) h.1 (fun x hx => by have := h.2 x hx; simpa [fsOf] using this)
 have := R.fl
 simp at *; omega
theorem ldN_fs (R : q8e g) (hm : SmOk g m) {x : TFunc} (hx : x ∈ g.Funcs) {y : Tx} (hy : y ∈ ldN g fs m x) : fsOf g y = true := by
 unfold ldN at hy
 cases hg : mget m x.Name with
 | none =>
  rw [hg] at hy
  obtain ⟨c, hc, h⟩ := List.mem_flatMap.1 hy
  split at h
  ·obtain ⟨a, ha, rfl⟩ := List.mem_map.1 h
   exact aim_fs R hx hc ha
  ·simp at h
 | some s =>
  rw [hg] at hy
  obtain ⟨h1, _, _⟩ := hm _ _ hg
  obtain ⟨p1, p2⟩ := sumOk_parts h1
  rcases List.mem_append.1 hy with h | h
  ·exact p1 y h
  ·obtain ⟨o, ho, h⟩ := List.mem_flatMap.1 h
   obtain ⟨a, ha, rfl⟩ := List.mem_map.1 h
   exact (CallOk.outer R (p2 o ho)).1 a ha
end
theorem M105_setOf (F : Nat) (hF : 10000 ≤ F) {l : List Tx} (h : l.Nodup) (hl : l.length ≤ 5000) : ∃ r, M105 F (setOf l) = some r ∧ r.Pairwise (fun a b => Op.bytesLess a b = true) ∧ ∀ x, x ∈ r ↔ x ∈ l := by
 have e : (setOf l).map (·.1) = l := by unfold setOf; rw [List.map_map]; simp [Function.comp_def]
 obtain ⟨r, r1, r2, r3⟩ := M105_gen F hF (setOf l) (by rw [e]; exact h) (by unfold setOf; simpa using hl)
 exact ⟨r, r1, r2, fun x => by rw [r3, e]⟩
end Go.Proofs.YtpbkggamiipdmaaGreat
namespace Go.Pv
open Go
set_option linter.unusedVariables false
set_option linter.unusedSimpArgs false
theorem swoM_spec {T : Type} {cmp : T → T → Option Int} {l : List T} (hswo : swoM cmp l = true) : ∀ x ∈ l, cltM cmp x x = false ∧ ∀ y ∈ l, (cmp x y).isSome = true ∧ ∀ z ∈ l, (cltM cmp x y = true → cltM cmp y z = true → cltM cmp x z = true) ∧ (cltM cmp x y = false → cltM cmp y z = false → cltM cmp x z = false) := by
 intro x hx
 unfold swoM at hswo
 have h1 := List.all_eq_true.1 hswo x hx
 simp only [Bool.and_eq_true, Bool.not_eq_true', List.all_eq_true] at h1
 refine ⟨h1.1, fun y hy => ?_⟩
 have h2 := h1.2 y hy
 refine ⟨h2.1, fun z hz => ?_⟩
 have h3 := h2.2 z hz
 revert h3
 cases cltM cmp x y <;> cases cltM cmp y z <;> cases cltM cmp x z <;> simp
theorem swoM_perm {T : Type} {cmp : T → T → Option Int} {l l' : List T} (hp : l.Perm l') (h : swoM cmp l = true) : swoM cmp l' = true := by
 have e : ∀ p : T → Bool, l'.all p = l.all p := fun p => by
  rw [Bool.eq_iff_iff, List.all_eq_true, List.all_eq_true]
  exact ⟨fun q x hx => q x (hp.mem_iff.1 hx), fun q x hx => q x (hp.mem_iff.2 hx)⟩
 unfold swoM at *
 simp only [e]
 exact h
theorem dstM_pw {T : Type} {cmp : T → T → Option Int} : ∀ {l : List T}, dstM cmp l = true ↔ l.Pairwise fun x y => (cltM cmp x y || cltM cmp y x) = true
 | [] => by simp [dstM]
 | x :: l => by rw [dstM, Bool.and_eq_true, List.pairwise_cons, dstM_pw, List.all_eq_true]
theorem dstM_perm {T : Type} {cmp : T → T → Option Int} {l l' : List T} (hp : l.Perm l') (h : dstM cmp l = true) : dstM cmp l' = true := by
 rw [dstM_pw] at *
 exact hp.pairwise h (fun {x y} q => by rw [Bool.or_comm]; exact q)
theorem ascM_of {T : Type} {cmp : T → T → Option Int} : ∀ {l : List T}, (l.Pairwise fun x y => cltM cmp y x = false) → ascM cmp l = true
 | [], _ => rfl
 | x :: l, h => by
  rw [List.pairwise_cons] at h
  simp only [ascM, Bool.and_eq_true, List.all_eq_true, Bool.not_eq_true']
  exact ⟨h.1, ascM_of h.2⟩
theorem ms_asc {T : Type} {cmp : T → T → Option Int} {l : List T} (h : swoM cmp l = true) : (l.mergeSort fun x y => !cltM cmp y x).Pairwise fun x y => cltM cmp y x = false := by
 have hs := swoM_spec h
 have h1 : (l.attach.mergeSort fun x y => !cltM cmp y.1 x.1).Pairwise fun x y => (!cltM cmp y.1 x.1) = true := by
  refine List.pairwise_mergeSort (le := fun x y : {x // x ∈ l} => !cltM cmp y.1 x.1) (fun a b c g g' => ?_) (fun a b => ?_) _
  ·simp only [Bool.not_eq_true'] at *
   exact (((hs c.1 c.2).2 b.1 b.2).2 a.1 a.2).2 g' g
  ·cases e1 : cltM cmp b.1 a.1 with
   | false => rfl
   | true =>
    cases e2 : cltM cmp a.1 b.1 with
    | false => rfl
    | true =>
     have := (((hs a.1 a.2).2 b.1 b.2).2 a.1 a.2).1 e2 e1
     rw [(hs a.1 a.2).1] at this
     simp at this
 have h2 := List.map_mergeSort (r := fun x y : {x // x ∈ l} => !cltM cmp y.1 x.1) (s := fun x y => !cltM cmp y x) (f := Subtype.val) (l := l.attach) (fun a _ b _ => rfl)
 rw [List.attach_map_subtype_val] at h2
 rw [← h2, List.pairwise_map]
 exact h1.imp fun q => by simpa using q
theorem srtM_perm {T : Type} {cmp : T → T → Option Int} {l l' r : List T} (hp : l.Perm l') (h : srtM cmp l = some r) : srtM cmp l' = some r := by
 unfold srtM at *
 cases hg : (swoM cmp l && dstM cmp l && ascM cmp (l.mergeSort fun x y => !cltM cmp y x) && Nat.blt l.length 4611686018427387904) with
 | false => rw [hg] at h; simp at h
 | true =>
  rw [hg] at h
  simp only [cond_true, Option.some.injEq] at h
  simp only [Bool.and_eq_true] at hg
  obtain ⟨⟨⟨g1, g2⟩, g3⟩, g4⟩ := hg
  have k1 := swoM_perm hp g1
  have k2 := dstM_perm hp g2
  have k3 := ascM_of (ms_asc k1)
  rw [k1, k2, k3, ← hp.length_eq, g4]
  simp only [Bool.and_true, cond_true, Option.some.injEq]
  rw [← h]
  have hq := ((List.mergeSort_perm l' (fun x y => !cltM cmp y x)).trans hp.symm).trans (List.mergeSort_perm l (fun x y => !cltM cmp y x)).symm
  refine List.Perm.eq_of_pairwise (le := fun x y => cltM cmp y x = false) (fun x y hx hy q q' => ?_) (ms_asc k1) (ms_asc g1) hq
  exact dstM_uniq g2 x (hp.mem_iff.2 ((List.mergeSort_perm _ _).mem_iff.1 hx)) y ((List.mergeSort_perm _ _).mem_iff.1 hy) q' q
structure SLt {α : Type} (lt : α → α → Bool) : Prop where
 irr : ∀ x, lt x x = false
 tr : ∀ {x y z}, lt x y = true → lt y z = true → lt x z = true
 tri : ∀ x y, lt x y = true ∨ x = y ∨ lt y x = true
section
variable {α : Type} {lt : α → α → Bool}
theorem SLt.asy (h : SLt lt) {x y : α} (g : lt x y = true) : lt y x = false := by
 cases e : lt y x with
 | false => rfl
 | true => have := h.tr g e; rw [h.irr] at this; simp at this
theorem SLt.ntr (h : SLt lt) {x y z : α} (g : lt x y = false) (g' : lt y z = false) : lt x z = false := by
 cases e : lt x z with
 | false => rfl
 | true =>
  rcases h.tri x y with q | q | q
  ·rw [q] at g; simp at g
  ·rw [q, g'] at e; simp at e
  ·have := h.tr q e; rw [this] at g'; simp at g'
theorem SLt.ext (h : SLt lt) {a b : List α} (ha : a.Pairwise fun x y => lt x y = true) (hb : b.Pairwise fun x y => lt x y = true) (hm : ∀ z, z ∈ a ↔ z ∈ b) : a = b := by
 have nd : ∀ {c : List α}, (c.Pairwise fun x y => lt x y = true) → c.Nodup := fun hc => hc.imp fun {x y} q e => by subst e; rw [h.irr] at q; simp at q
 exact List.Perm.eq_of_pairwise (le := fun x y => lt x y = true) (fun _ _ _ _ g g' => by rw [h.asy g] at g'; simp at g') ha hb ((List.perm_ext_iff_of_nodup (nd ha) (nd hb)).2 hm)
theorem srtM_lt (h : SLt lt) {cmp : α → α → Option Int} (hc : ∀ x y, (cmp x y).isSome = true ∧ cltM cmp x y = lt x y) {l : List α} (hn : l.Nodup) (hl : l.length < 4611686018427387904) : ∃ s, srtM cmp l = some s ∧ (s.Pairwise fun x y => lt x y = true) ∧ s.Perm l := by
 have hlt : ∀ x y, cltM cmp x y = lt x y := fun x y => (hc x y).2
 have h1 : swoM cmp l = true := by
  unfold swoM
  refine List.all_eq_true.2 fun x _ => ?_
  rw [Bool.and_eq_true]
  refine ⟨by rw [hlt, h.irr]; rfl, List.all_eq_true.2 fun y _ => ?_⟩
  rw [Bool.and_eq_true]
  refine ⟨(hc x y).1, List.all_eq_true.2 fun z _ => ?_⟩
  rw [hlt, hlt, hlt]
  cases e1 : lt x y <;> cases e2 : lt y z
  ·rw [h.ntr e1 e2]; rfl
  ·simp
  ·simp
  ·rw [h.tr e1 e2]; rfl
 have h2 : dstM cmp l = true := by
  rw [dstM_pw]
  refine List.Pairwise.imp ?_ (List.nodup_iff_pairwise_ne.1 hn)
  intro x y hne
  rw [hlt, hlt]
  rcases h.tri x y with q | q | q
  ·rw [q]; rfl
  ·exact absurd q hne
  ·rw [q]; simp
 have h3 := ms_asc h1
 refine ⟨l.mergeSort fun x y => !cltM cmp y x, ?_, ?_, List.mergeSort_perm _ _⟩
 ·unfold srtM
  rw [h1, h2, ascM_of h3, show Nat.blt l.length 4611686018427387904 = true from by rw [Nat.blt_eq]; exact hl]
  rfl
 ·have hnd : (l.mergeSort fun x y => !cltM cmp y x).Nodup := (List.mergeSort_perm _ _).nodup_iff.2 hn
  refine List.Pairwise.imp₂ (fun x y g g' => ?_) h3 (List.nodup_iff_pairwise_ne.1 hnd)
  rw [hlt] at g
  rcases h.tri x y with q | q | q
  ·exact q
  ·exact absurd q g'
  ·rw [q] at g; simp at g
end
end Go.Pv
namespace Go.Proofs.YtpbkggamiipdmaaGreat
open Go Go.Pv
set_option linter.unusedVariables false
set_option linter.unusedSimpArgs false
set_option maxRecDepth 100000
def fin80 (F : Nat) (x : TFunc) (l : List (List UInt8)) (o : List q6a) : Option q5a :=
 (M70 F l).bind fun y109 => if y109.length = l.length then (M144 F o).bind fun y112 => if y112.length = o.length then some (q5a.mk x.Name y109 y112) else none else none
theorem M80_L5_eq (F : Nat) (x : TFunc) (ns : List (List UInt8)) : ∀ (l : List (q6a × Bool)) (o : List q6a), M80_L5 F x ns l o = if l.length = 0 ∨ (o.length + l.length) * 32 ≤ 140737488355328 then fin80 F x ns (o ++ l.map (·.1)) else none
 | [], o => by rw [M80_L5, if_pos (.inl rfl), List.map_nil, List.append_nil]; rfl
 | e :: l, o => by
  rw [M80_L5]
  by_cases h : (o ++ [e.1]).length * 32 ≤ 140737488355328
  ·rw [if_pos h, M80_L5_eq F x ns l]
   simp only [List.length_append, List.length_cons, List.length_nil] at h ⊢
   by_cases h2 : l.length = 0 ∨ (o.length + (0 + 1) + l.length) * 32 ≤ 140737488355328
   ·rw [if_pos h2, if_pos (by omega)]; simp
   ·rw [if_neg h2, if_neg (by omega)]
  ·rw [if_neg h, if_neg (by simp at h ⊢; omega)]
theorem fin80_perm {F : Nat} {x : TFunc} {l l' : List (List UInt8)} {o o' : List q6a} {r : q5a} (hl : l.Perm l') (ho : o.Perm o') (h : fin80 F x l o = some r) : fin80 F x l' o' = some r := by
 unfold fin80 at *
 have e1 : M70 F l' = M70 F l := by
  unfold M70
  rw [hl.length_eq, tsort_eq, tsort_eq, srtT_congr hl]
 rw [e1]
 cases h1 : M70 F l with
 | none => rw [h1] at h; simp at h
 | some y =>
  rw [h1] at h
  rw [Option.bind_some] at h ⊢
  rw [← hl.length_eq]
  by_cases h2 : y.length = l.length
  ·rw [if_pos h2] at h ⊢
   cases h3 : M144 F o with
   | none => rw [h3] at h; simp at h
   | some z =>
    have e3 : M144 F o' = some z := by
     unfold M144 at h3 ⊢
     exact srtM_perm ho h3
    rw [h3] at h
    rw [e3]
    rw [Option.bind_some] at h ⊢
    rw [← ho.length_eq]
    exact h
  ·rw [if_neg h2] at h; simp at h
theorem ord_M80_L5 {F : Nat} {x : TFunc} {ns : List (List UInt8)} {l l' : List (q6a × Bool)} {o : List q6a} {r : q5a} (hp : l.Perm l') (h : M80_L5 F x ns l o = some r) : M80_L5 F x ns l' o = some r := by
 rw [M80_L5_eq] at *
 rw [← hp.length_eq]
 split at h
 ·rename_i hc
  rw [if_pos hc]
  exact fin80_perm (List.Perm.refl _) ((hp.map _).append_left o) h
 ·simp at h
theorem M80_L5_names {F : Nat} {x : TFunc} {ns ns' : List (List UInt8)} {l : List (q6a × Bool)} {o : List q6a} {r : q5a} (hp : ns.Perm ns') (h : M80_L5 F x ns l o = some r) : M80_L5 F x ns' l o = some r := by
 rw [M80_L5_eq] at *
 split at h
 ·rename_i hc
  rw [if_pos hc]
  exact fin80_perm hp (List.Perm.refl _) h
 ·simp at h
def nmI (g : q1c) (v : Int) : List UInt8 := (idx g.Funcs v).elim [] TFunc.Name
theorem M80_L4_iff (F : Nat) (w : q7a) (m : List (q6a × Bool)) (x : TFunc) (r : q5a) : ∀ (l : List (Int × Bool)) (o : List (List UInt8)),
  M80_L4 F w m x l o = some r ↔ (∀ e, e ∈ l → (idx w.g.Funcs e.1).isSome = true) ∧ (l.length = 0 ∨ (o.length + l.length) * 16 ≤ 140737488355328) ∧ M80_L5 F x (o ++ l.map fun e => nmI w.g e.1) m [] = some r
 | [], o => by rw [M80_L4]; simp
 | e :: l, o => by
  rw [M80_L4]
  cases he : idx w.g.Funcs e.1 with
  | none =>
   rw [Option.bind_none]
   constructor
   ·intro h; simp at h
   ·intro h; have := h.1 e (List.mem_cons_self ..); rw [he] at this; simp at this
  | some y =>
   rw [Option.bind_some]
   have hn : nmI w.g e.1 = y.Name := by unfold nmI; rw [he]; rfl
   by_cases h : (o ++ [y.Name]).length * 16 ≤ 140737488355328
   ·rw [if_pos h, M80_L4_iff F w m x r l]
    simp only [List.length_append, List.length_cons, List.length_nil, List.map_cons, hn, List.append_assoc, List.singleton_append, List.mem_cons] at h ⊢
    constructor
    ·rintro ⟨a, b, c⟩
     refine ⟨fun q hq => ?_, by omega, c⟩
     rcases hq with rfl | hq
     ·rw [he]; rfl
     ·exact a q hq
    ·rintro ⟨a, b, c⟩
     exact ⟨fun q hq => a q (.inr hq), by omega, c⟩
   ·rw [if_neg h]
    simp only [List.length_append, List.length_cons, List.length_nil] at h ⊢
    constructor
    ·intro q; simp at q
    ·rintro ⟨_, b, _⟩; omega
theorem ord_M80_L4 {F : Nat} {w : q7a} {m : List (q6a × Bool)} {x : TFunc} {l l' : List (Int × Bool)} {o : List (List UInt8)} {r : q5a} (hp : l.Perm l') (h : M80_L4 F w m x l o = some r) : M80_L4 F w m x l' o = some r := by
 rw [M80_L4_iff] at *
 obtain ⟨a, b, c⟩ := h
 exact ⟨fun e he => a e (hp.mem_iff.2 he), by rw [← hp.length_eq]; exact b, M80_L5_names ((hp.map _).append_left o) c⟩
def ltO (a b : q6a) : Bool := Op.bytesLess a.Target b.Target || (a.Target == b.Target && Op.bytesLess a.Method b.Method)
theorem ltO_slt : SLt ltO where
 irr := fun x => by simp [ltO, q5m]
 tr := fun {x y z} h h' => by
  unfold ltO at *
  simp only [Bool.or_eq_true, Bool.and_eq_true, beq_iff_eq] at *
  rcases h with h | ⟨h1, h2⟩
  ·rcases h' with g | ⟨g1, g2⟩
   ·exact .inl (q9k h g)
   ·rw [g1] at h; exact .inl h
  ·rcases h' with g | ⟨g1, g2⟩
   ·rw [← h1] at g; exact .inl g
   ·exact .inr ⟨h1.trans g1, q9k h2 g2⟩
 tri := fun x y => by
  unfold ltO
  simp only [Bool.or_eq_true, Bool.and_eq_true, beq_iff_eq]
  rcases bl_tri x.Target y.Target with h | h | h
  ·exact .inl (.inl h)
  ·rcases bl_tri x.Method y.Method with g | g | g
   ·exact .inl (.inr ⟨h, g⟩)
   ·refine .inr (.inl ?_)
    cases x; cases y; simp at h g; rw [h, g]
   ·exact .inr (.inr (.inr ⟨h.symm, g⟩))
  ·exact .inr (.inr (.inl h))
def posO (l : List q6a) (e : q6a) : Nat → Nat
 | 0 => 0
 | n + 1 => match l[n]? with | some a => if ltO e a = true then posO l e n else n + 1 | none => n + 1
def insB (e : q6a) : List q6a → List q6a
 | [] => [e]
 | a :: r => if ltO e a = true then a :: insB e r else e :: a :: r
theorem insB_len (e : q6a) : ∀ r : List q6a, (insB e r).length = r.length + 1
 | [] => rfl
 | a :: r => by rw [insB]; split <;> simp [insB_len e r]
theorem insB_mem (e : q6a) (z : q6a) : ∀ r : List q6a, z ∈ insB e r ↔ z = e ∨ z ∈ r
 | [] => by simp [insB]
 | a :: r => by
  rw [insB]
  split
  ·rw [List.mem_cons, insB_mem e z r, List.mem_cons]
   constructor
   ·rintro (h | h | h)
    ·exact .inr (.inl h)
    ·exact .inl h
    ·exact .inr (.inr h)
   ·rintro (h | h | h)
    ·exact .inr (.inl h)
    ·exact .inl h
    ·exact .inr (.inr h)
  ·simp
theorem insB_srt (e : q6a) : ∀ r : List q6a, (r.Pairwise fun x y => ltO y x = true) → e ∉ r → (insB e r).Pairwise fun x y => ltO y x = true
 | [], _, _ => by simp [insB]
 | a :: r, h, hn => by
  rw [List.pairwise_cons] at h
  simp only [List.mem_cons, not_or] at hn
  rw [insB]
  split
  ·rename_i h1
   rw [List.pairwise_cons]
   refine ⟨fun z hz => ?_, insB_srt e r h.2 hn.2⟩
   rcases (insB_mem e z r).1 hz with q | q
   ·rw [q]; exact h1
   ·exact h.1 z q
  ·rename_i h1
   have h2 : ltO a e = true := by
    rcases ltO_slt.tri e a with q | q | q
    ·exact absurd q h1
    ·exact absurd q hn.1
    ·exact q
   rw [List.pairwise_cons]
   refine ⟨fun z hz => ?_, List.pairwise_cons.2 h⟩
   rcases List.mem_cons.1 hz with q | q
   ·rw [q]; exact h2
   ·exact ltO_slt.tr (h.1 z q) h2
theorem insB_comm (x y : q6a) : ∀ r : List q6a, insB y (insB x r) = insB x (insB y r)
 | [] => by
  cases h1 : ltO y x <;> cases h2 : ltO x y
  ·rcases ltO_slt.tri x y with q | q | q
   ·rw [h2] at q; simp at q
   ·rw [q]
   ·rw [h1] at q; simp at q
  ·simp [insB, h1, h2]
  ·simp [insB, h1, h2]
  ·rw [ltO_slt.asy h1] at h2; simp at h2
 | a :: r => by
  have ih := insB_comm x y r
  cases h1 : ltO x a <;> cases h2 : ltO y a
  ·cases h3 : ltO y x <;> cases h4 : ltO x y
   ·rcases ltO_slt.tri x y with q | q | q
    ·rw [h4] at q; simp at q
    ·rw [q]
    ·rw [h3] at q; simp at q
   ·simp [insB, h1, h2, h3, h4]
   ·simp [insB, h1, h2, h3, h4]
   ·rw [ltO_slt.asy h3] at h4; simp at h4
  ·have h3 : ltO y x = true := by
    rcases ltO_slt.tri y x with q | q | q
    ·exact q
    ·rw [q, h1] at h2; simp at h2
    ·rw [ltO_slt.tr q h2] at h1; simp at h1
   simp [insB, h1, h2, h3]
  ·have h3 : ltO x y = true := by
    rcases ltO_slt.tri x y with q | q | q
    ·exact q
    ·rw [q, h2] at h1; simp at h1
    ·rw [ltO_slt.tr q h1] at h2; simp at h2
   simp [insB, h1, h2, h3]
  ·simp [insB, h1, h2, ih]
theorem posO_pre (e : q6a) (l l' : List q6a) : ∀ n, n ≤ l.length → posO (l ++ l') e n = posO l e n
 | 0, _ => rfl
 | n + 1, h => by
  rw [posO, posO, List.getElem?_append_left (by omega), posO_pre e l l' n (by omega)]
theorem posO_le (l : List q6a) (e : q6a) : ∀ n, posO l e n ≤ n
 | 0 => Nat.le_refl _
 | n + 1 => by
  rw [posO]
  split
  ·split
   ·exact Nat.le_succ_of_le (posO_le l e n)
   ·exact Nat.le_refl _
  ·exact Nat.le_refl _
def inO (l : List q6a) (e : q6a) : List q6a := l.take (posO l e l.length) ++ [e] ++ l.drop (posO l e l.length)
theorem inO_eq (e : q6a) : ∀ r : List q6a, inO r.reverse e = (insB e r).reverse
 | [] => rfl
 | a :: r => by
  unfold inO
  have hl : (a :: r).reverse = r.reverse ++ [a] := by simp
  rw [hl]
  have h1 : (r.reverse ++ [a]).length = r.reverse.length + 1 := by simp
  rw [h1, posO, List.getElem?_append_right (Nat.le_refl _)]
  simp only [Nat.sub_self, List.getElem?_cons_zero]
  rw [insB]
  by_cases h : ltO e a = true
  ·rw [if_pos h, if_pos h, posO_pre _ _ _ _ (Nat.le_refl _)]
   have ih := inO_eq e r
   unfold inO at ih
   rw [List.reverse_cons, ← ih]
   have hp := posO_le r.reverse e r.reverse.length
   rw [List.take_append_of_le_length hp, List.drop_append_of_le_length hp]
   simp
  ·rw [if_neg h, if_neg h]
   rw [List.take_of_length_le (by simp), List.drop_eq_nil_of_le (by simp)]
   simp
theorem inO_comm (l : List q6a) (x y : q6a) : inO (inO l x) y = inO (inO l y) x := by
 have h : ∀ u, inO l u = (insB u l.reverse).reverse := fun u => by rw [← inO_eq, List.reverse_reverse]
 rw [h, h, inO_eq, inO_eq, insB_comm]
theorem inO_len (l : List q6a) (e : q6a) : (inO l e).length = l.length + 1 := by
 have h : inO l e = (insB e l.reverse).reverse := by rw [← inO_eq, List.reverse_reverse]
 rw [h, List.length_reverse, insB_len, List.length_reverse]
theorem gt_bl (a b : List UInt8) : (!(Op.bytesLess a b || a == b)) = Op.bytesLess b a := by
 rcases bl_tri a b with h | h | h
 ·rw [h, q9n h]; simp
 ·rw [h]; simp [q5m]
 ·rw [h, q9n h]
  have : (a == b) = false := by
   simp only [beq_eq_false_iff_ne, ne_eq]
   intro e; rw [e, q5m] at h; simp at h
  rw [this]; rfl
theorem M84_L5_eq (F : Nat) (l : List q6a) (e : q6a × Bool) (k : Int → Option q5a) (hl : l.length ≤ 4611686018427387904) : ∀ (n m : Nat), m ≤ l.length → m < n → M84_L5 F l e k n (m : Int) = k ((posO l e.1 m : Nat) : Int)
 | 0, m, _, h => by omega
 | n + 1, 0, _, _ => by rw [M84_L5, if_neg (by simp)]; rfl
 | n + 1, m + 1, hm, h => by
  have hw : w64 (((m + 1 : Nat) : Int) - 1) = ((m : Nat) : Int) := by rw [w64_id (by omega) (by omega)]; omega
  have hlt : m < l.length := by omega
  rw [M84_L5, if_pos (by simp), hw, q7g hlt, posO, List.getElem?_eq_getElem hlt]
  simp only [Option.bind_some, gt_bl]
  by_cases h1 : Op.bytesLess e.1.Target l[m].Target = true
  ·rw [if_pos h1, if_pos (by simp [ltO, h1]), M84_L5_eq F l e k hl n m (by omega) (by omega)]
  ·rw [if_neg h1]
   by_cases h2 : l[m].Target = e.1.Target
   ·rw [if_pos (by simp [h2])]
    by_cases h3 : Op.bytesLess e.1.Method l[m].Method = true
    ·rw [if_pos h3, if_pos (by simp [ltO, h2, h3]), M84_L5_eq F l e k hl n m (by omega) (by omega)]
    ·rw [if_neg h3, if_neg]
     simp only [ltO, Bool.or_eq_true, Bool.and_eq_true]
     rintro (q | q)
     ·exact h1 q
     ·exact h3 q.2
   ·rw [if_neg (by simp [h2]), if_neg]
    simp only [ltO, Bool.or_eq_true, Bool.and_eq_true, beq_iff_eq]
    rintro (q | q)
    ·exact h1 q
    ·exact h2 q.1.symm
theorem M84_L5_none (F : Nat) (l : List q6a) (e : q6a × Bool) (k : Int → Option q5a) (hk : ∀ n, k n = none) : ∀ (n : Nat) (m : Int), M84_L5 F l e k n m = none
 | 0, m => rfl
 | n + 1, m => by
  rw [M84_L5]
  simp only [M84_L5_none F l e k hk n, hk, ite_self]
  split
  ·cases idx l (w64 (m - 1)) <;> simp
  ·rfl
theorem q8m (F : Nat) (a : List UInt8) (ns : List (List UInt8)) (e : q6a × Bool) (l : List (q6a × Bool)) (o : List q6a) : M84_L4 F a ns (e :: l) o = if o.length < F ∧ (o.length + 1) * 32 ≤ 140737488355328 then M84_L4 F a ns l (inO o e.1) else none := by
 rw [M84_L4]
 simp only [q6d]
 by_cases h1 : o.length < F
 ·rw [if_pos h1]
  by_cases h2 : (o.length + 1) * 32 ≤ 140737488355328
  ·have hp := posO_le o e.1 o.length
   rw [if_pos ⟨h1, h2⟩, M84_L5_eq F o e _ (by omega) F o.length (Nat.le_refl _) h1]
   have ht : (o.take (posO o e.1 o.length)).length = posO o e.1 o.length := by rw [List.length_take]; omega
   simp only [Int.toNat_natCast]
   rw [if_pos ⟨by omega, hp⟩, if_pos (by simp; omega), if_pos (by simp; omega), if_pos ⟨by omega, hp⟩, if_pos (by simp; omega)]
   simp [inO]
  ·rw [if_neg (fun q => h2 q.2)]
   refine M84_L5_none F o e _ (fun n => ?_) _ _
   by_cases h3 : 0 ≤ n ∧ n.toNat ≤ o.length
   ·rw [if_pos h3]
    split
    ·split
     ·rw [if_neg]
      simp only [List.length_append, List.nil_append, List.length_take, List.length_drop, List.length_cons, List.length_nil]
      omega
     ·rfl
    ·rfl
   ·rw [if_neg h3]
 ·rw [if_neg h1, if_neg (fun q => h1 q.1)]
theorem ord_M84_L4 {F : Nat} {a : List UInt8} {ns : List (List UInt8)} {l l' : List (q6a × Bool)} {o : List q6a} {r : q5a} (hp : l.Perm l') (h : M84_L4 F a ns l o = some r) : M84_L4 F a ns l' o = some r := by
 rw [← h]
 clear h
 induction hp generalizing o with
 | nil => rfl
 | cons x _ ih => rw [q8m, q8m, ih]
 | swap x y l =>
  rw [q8m, q8m, q8m, q8m, inO_len, inO_len, inO_comm]
 | trans _ _ ih1 ih2 => rw [ih2, ih1]
section
variable {κ : Type} [DecidableEq κ]
def stG (l : List κ) : List (κ × Bool) := l.map fun x => (x, true)
def adG (l : List κ) (x : κ) : List κ := if x ∈ l then l else l ++ [x]
theorem stG_get (x : κ) : ∀ l : List κ, (mget (stG l) x).getD false = decide (x ∈ l)
 | [] => rfl
 | y :: l => by
  have ih := stG_get x l
  show (mget ((y, true) :: stG l) x).getD false = _
  rw [mget]
  by_cases h : y = x
  ·subst h; simp
  ·rw [if_neg h, ih]
   have : ¬ x = y := fun e => h e.symm
   simp [this]
theorem stG_put (x : κ) : ∀ l : List κ, mput (stG l) x true = stG (adG l x)
 | [] => by simp [stG, adG, mput]
 | y :: l => by
  have ih := stG_put x l
  show mput ((y, true) :: stG l) x true = _
  rw [mput]
  by_cases h : y = x
  ·subst h; simp [adG, stG]
  ·have hn : ¬ x = y := fun e => h e.symm
   rw [if_neg h, ih]
   unfold adG
   by_cases h2 : x ∈ l
   ·rw [if_pos h2, if_pos (List.mem_cons_of_mem _ h2)]; rfl
   ·rw [if_neg h2, if_neg (by simp [hn, h2])]; rfl
theorem adG_mem {l : List κ} {x y : κ} : y ∈ adG l x ↔ y ∈ l ∨ y = x := by
 unfold adG
 split
 ·rename_i h; exact ⟨.inl, fun e => e.elim _root_.id fun e => by rw [e]; exact h⟩
 ·simp
theorem adG_nd {l : List κ} (h : l.Nodup) (x : κ) : (adG l x).Nodup := by
 unfold adG
 split
 ·exact h
 ·rename_i hn
  rw [List.nodup_append]
  exact ⟨h, by simp, fun a ha b hb e => hn (by simp at hb; rw [← hb, ← e]; exact ha)⟩
theorem adG_pre (l : List κ) (x : κ) : l <+: adG l x := by
 unfold adG
 split
 ·exact List.prefix_refl _
 ·exact List.prefix_append _ _
end
section
variable {g : q1c} {fs : List Tx} {comp f : Tx}
def q1k (g : q1c) (x : Tx) : Tx := (g.Funcs.find? fun y => y.Name == x).elim [] TFunc.Component
theorem compOf_at (R : q8e g) {x : TFunc} (hx : x ∈ g.Funcs) : q1k g x.Name = x.Component := by
 unfold q1k
 rw [q2l (f := TFunc.Name) R.fsrt hx]; rfl
inductive WR (g : q1c) (fs : List Tx) (comp f : Tx) : Tx → Prop
 | base : WR g fs comp f f
 | step {x : TFunc} {c : TCall} {a : q3a} (h : WR g fs comp f x.Name) (hx : x ∈ g.Funcs) (hc : c ∈ x.Calls) (ho : onF fs c.Feature = true) (ha : a ∈ aimsG g c) (hk : q1k g a.to = comp) : WR g fs comp f a.to
def OR (g : q1c) (fs : List Tx) (comp f : Tx) (y : q6a) : Prop := ∃ (x : TFunc) (c : TCall), WR g fs comp f x.Name ∧ x ∈ g.Funcs ∧ c ∈ x.Calls ∧ onF fs c.Feature = true ∧
 ((c.Kind = 2 ∧ y = q6a.mk c.Target c.Method) ∨ ∃ a, a ∈ aimsG g c ∧ q1k g a.to ≠ comp ∧ c.Kind = 1 ∧ y = q6a.mk a.to [])
structure GS (g : q1c) (fs : List Tx) (comp f : Tx) (l : List Tx) (o : List q6a) : Prop where
 nd : l.Nodup
 fn : ∀ x, x ∈ l → fsOf g x = true
 snd : ∀ x, x ∈ l → WR g fs comp f x
 ond : o.Nodup
 osn : ∀ y, y ∈ o → OR g fs comp f y
structure Le (l : List Tx) (o : List q6a) (l' : List Tx) (o' : List q6a) : Prop where
 l : l <+: l'
 o : ∀ y, y ∈ o → y ∈ o'
theorem Le.refl (l : List Tx) (o : List q6a) : Le l o l o := ⟨List.prefix_refl _, fun _ h => h⟩
theorem Le.trans {l1 l2 l3 : List Tx} {o1 o2 o3 : List q6a} (h : Le l1 o1 l2 o2) (h' : Le l2 o2 l3 o3) : Le l1 o1 l3 o3 := ⟨h.l.trans h'.l, fun y hy => h'.o y (h.o y hy)⟩
theorem Le.mem {l1 l2 : List Tx} {o1 o2 : List q6a} (h : Le l1 o1 l2 o2) {x : Tx} (hx : x ∈ l1) : x ∈ l2 := h.l.subset hx
theorem GS.addL {l : List Tx} {o : List q6a} (h : GS g fs comp f l o) {x : Tx} (hx : fsOf g x = true) (hw : WR g fs comp f x) : GS g fs comp f (adG l x) o ∧ Le l o (adG l x) o := by
 refine ⟨⟨adG_nd h.nd x, fun y hy => ?_, fun y hy => ?_, h.ond, h.osn⟩, adG_pre l x, fun _ h => h⟩
 ·rcases adG_mem.1 hy with e | e
  ·exact h.fn y e
  ·rw [e]; exact hx
 ·rcases adG_mem.1 hy with e | e
  ·exact h.snd y e
  ·rw [e]; exact hw
theorem GS.addO {l : List Tx} {o : List q6a} (h : GS g fs comp f l o) {y : q6a} (hy : OR g fs comp f y) : GS g fs comp f l (adG o y) ∧ Le l o l (adG o y) :=
 ⟨⟨h.nd, h.fn, h.snd, adG_nd h.ond y, fun z hz => (adG_mem.1 hz).elim (h.osn z) fun e => by rw [e]; exact hy⟩, List.prefix_refl _, fun z hz => adG_mem.2 (.inl hz)⟩
theorem GS.len (R : q8e g) {l : List Tx} {o : List q6a} (h : GS g fs comp f l o) : l.length ≤ 3000 := NL.len R ⟨h.nd, h.fn⟩
def Did (g : q1c) (comp : Tx) (c : TCall) (l : List Tx) (o : List q6a) : Prop :=
 (c.Kind = 2 → q6a.mk c.Target c.Method ∈ o) ∧ ∀ a, a ∈ aimsG g c → (q1k g a.to = comp → a.to ∈ l) ∧ (q1k g a.to ≠ comp → c.Kind = 1 → q6a.mk a.to [] ∈ o)
theorem Did.le {c : TCall} {l l' : List Tx} {o o' : List q6a} (h : Did g comp c l o) (k : Le l o l' o') : Did g comp c l' o' :=
 ⟨fun q => k.o _ (h.1 q), fun a ha => ⟨fun q => k.mem ((h.2 a ha).1 q), fun q q' => k.o _ ((h.2 a ha).2 q q')⟩⟩
structure SInv (g : q1c) (fs : List Tx) (comp f : Tx) (i : Nat) (l : List Tx) (o : List q6a) : Prop where
 gs : GS g fs comp f l o
 f0 : f ∈ l
 le : i ≤ l.length
 done : ∀ (j : Nat) (x : TFunc), j < i → x ∈ g.Funcs → l[j]? = some x.Name → ∀ c, c ∈ x.Calls → onF fs c.Feature = true → Did g comp c l o
theorem SInv.start (hf : fsOf g f = true) : SInv g fs comp f 0 [f] [] :=
 ⟨⟨by simp, fun x hx => by simp at hx; rw [hx]; exact hf, fun x hx => by simp at hx; rw [hx]; exact .base, .nil, fun y hy => by simp at hy⟩, by simp, by simp, fun j x hj => by omega⟩
theorem SInv.next (R : q8e g) {i : Nat} {l l' : List Tx} {o o' : List q6a} (I : SInv g fs comp f i l o) (h : i < l.length) {x : TFunc} (hx : x ∈ g.Funcs) (hn : x.Name = l[i]) (G : GS g fs comp f l' o') (k : Le l o l' o')
  (hd : ∀ c, c ∈ x.Calls → onF fs c.Feature = true → Did g comp c l' o') : SInv g fs comp f (i + 1) l' o' := by
 have hlen := k.l.length_le
 have hget : ∀ j, j < l.length → l'[j]? = l[j]? := fun j hj => by
  obtain ⟨t, ht⟩ := k.l
  rw [← ht, List.getElem?_append_left hj]
 refine ⟨G, k.mem I.f0, by omega, fun j z hj hz hzn c hc ho => ?_⟩
 by_cases e : j = i
 ·subst e
  rw [hget j h, List.getElem?_eq_getElem h, ← hn] at hzn
  have hzx : z = x := by
   have h1 := q2l (f := TFunc.Name) R.fsrt hz
   have h2 := q2l (f := TFunc.Name) R.fsrt hx
   rw [← Option.some.inj hzn, h2] at h1
   exact (Option.some.inj h1).symm
  subst hzx
  exact hd c hc ho
 ·rw [hget j (by omega)] at hzn
  exact (I.done j z (by omega) hz hzn c hc ho).le k
theorem SInv.all {i : Nat} {l : List Tx} {o : List q6a} (I : SInv g fs comp f i l o) (h : l.length ≤ i) : (∀ x, x ∈ l ↔ WR g fs comp f x) ∧ ∀ y, y ∈ o ↔ OR g fs comp f y := by
 have at' : ∀ x, x ∈ l → x ∈ g.Funcs.map TFunc.Name → True := fun _ _ _ => trivial
 have key : ∀ x, WR g fs comp f x → x ∈ l := by
  intro x hx
  induction hx with
  | base => exact I.f0
  | @step x c a _ hx hc ho ha hk ih =>
   obtain ⟨j, hj⟩ := List.getElem?_of_mem ih
   have hjl := (List.getElem?_eq_some_iff.1 hj).1
   exact ((I.done j x (by omega) hx hj c hc ho).2 a ha).1 hk
 refine ⟨fun x => ⟨I.gs.snd x, key x⟩, fun y => ⟨I.gs.osn y, ?_⟩⟩
 rintro ⟨x, c, hw, hx, hc, ho, hy⟩
 obtain ⟨j, hj⟩ := List.getElem?_of_mem (key _ hw)
 have hjl := (List.getElem?_eq_some_iff.1 hj).1
 have D := I.done j x (by omega) hx hj c hc ho
 rcases hy with ⟨k, rfl⟩ | ⟨a, ha, h1, h2, rfl⟩
 ·exact D.1 k
 ·exact (D.2 a ha).2 h1 h2
end
section
variable {g : q1c} {fs : List Tx} {comp f : Tx} {F : Nat}
abbrev ixF (g : q1c) (fs : List Tx) (x : Tx) : Int := fI (wOf g 1 fs) x
theorem ix_mem (R : q8e g) {l : List Tx} (hl : ∀ x, x ∈ l → fsOf g x = true) {j : Nat} (hj : j < g.Funcs.length) : (j : Int) ∈ l.map (ixF g fs) ↔ (g.Funcs[j]).Name ∈ l := by
 rw [List.mem_map]
 constructor
 ·rintro ⟨x, hx, e⟩
  obtain ⟨i, hi, rfl⟩ := fs_at (hl x hx)
  rw [ixF, fI_at R 1 fs hi] at e
  have : i = j := by omega
  subst this; exact hx
 ·intro h; exact ⟨_, h, fI_at R 1 fs hj⟩
theorem drop_add {l : List Tx} (ix : Tx → Int) {i : Nat} (h : i ≤ l.length) (x : Tx) : ((l ++ [x]).map ix).drop i = (l.map ix).drop i ++ [ix x] := by
 rw [List.map_append, List.drop_append_of_le_length (by simpa using h)]; rfl
theorem ix_ad (R : q8e g) {l : List Tx} (hl : ∀ x, x ∈ l → fsOf g x = true) {j : Nat} (hj : j < g.Funcs.length) : adG (l.map (ixF g fs)) (j : Int) = (adG l (g.Funcs[j]).Name).map (ixF g fs) := by
 unfold adG
 by_cases h : (g.Funcs[j]).Name ∈ l
 ·rw [if_pos h, if_pos ((ix_mem R hl hj).2 h)]
 ·rw [if_neg h, if_neg (fun q => h ((ix_mem R hl hj).1 q)), List.map_append]
  simp only [List.map_cons, List.map_nil]
  rw [ixF, fI_at R 1 fs hj]
theorem M80_L3_eq (R : q8e g) {x3 : TFunc} (hcomp : x3.Component = comp) {x : TFunc} {c : TCall} (hw : WR g fs comp f x.Name) (hx : x ∈ g.Funcs) (hc : c ∈ x.Calls) (ho : onF fs c.Feature = true) (k : (List (Int × Bool)) → (List (q6a × Bool)) → (List Int) → Option q5a) (i : Nat) :
  ∀ (ts : List Int) (l : List Tx) (o : List q6a), (∀ v, v ∈ ts → ∃ j : Nat, ∃ h : j < g.Funcs.length, v = j ∧ ∃ a, a ∈ aimsG g c ∧ a.to = (g.Funcs[j]).Name) → GS g fs comp f l o → i ≤ l.length →
  ∃ l' o', M80_L3 F (wOf g 1 fs) x3 c k ts (stG (l.map (ixF g fs))) (stG o) ((l.map (ixF g fs)).drop i) = k (stG (l'.map (ixF g fs))) (stG o') ((l'.map (ixF g fs)).drop i) ∧ GS g fs comp f l' o' ∧ Le l o l' o' ∧
   ∀ (j : Nat) (h : j < g.Funcs.length), (j : Int) ∈ ts → (q1k g (g.Funcs[j]).Name = comp → (g.Funcs[j]).Name ∈ l') ∧ (q1k g (g.Funcs[j]).Name ≠ comp → c.Kind = 1 → q6a.mk (g.Funcs[j]).Name [] ∈ o')
 | [], l, o, _, G, _ => ⟨l, o, rfl, G, Le.refl _ _, fun j h q => by simp at q⟩
 | v :: ts, l, o, hv, G, hi => by
  obtain ⟨j, hj, rfl, a, ha, hat⟩ := hv v (List.mem_cons_self ..)
  have hidx : idx (wOf g 1 fs).g.Funcs (j : Int) = some g.Funcs[j] := q7g hj
  have hco := compOf_at R (List.getElem_mem hj)
  have hfs : fsOf g (g.Funcs[j]).Name = true := in_names.2 ⟨_, List.getElem_mem hj, rfl⟩
  have step : ∀ l1 o1, GS g fs comp f l1 o1 → Le l o l1 o1 → ((q1k g (g.Funcs[j]).Name = comp → (g.Funcs[j]).Name ∈ l1) ∧ (q1k g (g.Funcs[j]).Name ≠ comp → c.Kind = 1 → q6a.mk (g.Funcs[j]).Name [] ∈ o1)) →
    ∃ l' o', M80_L3 F (wOf g 1 fs) x3 c k ts (stG (l1.map (ixF g fs))) (stG o1) ((l1.map (ixF g fs)).drop i) = k (stG (l'.map (ixF g fs))) (stG o') ((l'.map (ixF g fs)).drop i) ∧ GS g fs comp f l' o' ∧ Le l o l' o' ∧
     ∀ (j' : Nat) (h : j' < g.Funcs.length), (j' : Int) ∈ ((j : Int) :: ts) → (q1k g (g.Funcs[j']).Name = comp → (g.Funcs[j']).Name ∈ l') ∧ (q1k g (g.Funcs[j']).Name ≠ comp → c.Kind = 1 → q6a.mk (g.Funcs[j']).Name [] ∈ o') := by
   intro l1 o1 G1 k1 d1
   obtain ⟨l', o', e1, e2, e3, e4⟩ := M80_L3_eq R hcomp hw hx hc ho k i ts l1 o1 (fun v h => hv v (List.mem_cons_of_mem _ h)) G1 (Nat.le_trans hi k1.l.length_le)
   refine ⟨l', o', e1, e2, k1.trans e3, fun j' h hm => ?_⟩
   rcases List.mem_cons.1 hm with e | e
   ·have : j' = j := by omega
    subst this
    exact ⟨fun q => e3.mem (d1.1 q), fun q q' => e3.o _ (d1.2 q q')⟩
   ·exact e4 j' h e
  rw [M80_L3, q6d]
  simp only [q6d]
  rw [hidx, Option.bind_some]
  by_cases h1 : (g.Funcs[j]).Component = comp
  ·have h1' : q1k g (g.Funcs[j]).Name = comp := hco.trans h1
   rw [if_neg (by rw [hcomp, h1]; simp), Option.bind_some, if_pos (by rw [hcomp, h1]; simp), stG_get]
   have hwn : WR g fs comp f (g.Funcs[j]).Name := by rw [← hat]; exact .step hw hx hc ho ha (by rw [hat]; exact h1')
   obtain ⟨G1, k1⟩ := G.addL hfs hwn
   have d1 : (q1k g (g.Funcs[j]).Name = comp → (g.Funcs[j]).Name ∈ adG l (g.Funcs[j]).Name) ∧ (q1k g (g.Funcs[j]).Name ≠ comp → c.Kind = 1 → q6a.mk (g.Funcs[j]).Name [] ∈ o) := ⟨fun _ => adG_mem.2 (.inr rfl), fun q => absurd h1' q⟩
   by_cases hm : (g.Funcs[j]).Name ∈ l
   ·have he : adG l (g.Funcs[j]).Name = l := by unfold adG; rw [if_pos hm]
    rw [if_neg (by rw [decide_eq_true ((ix_mem R G.fn hj).2 hm)]; simp)]
    have := step _ _ G1 k1 d1
    rw [he] at this
    exact this
   ·have he : adG l (g.Funcs[j]).Name = l ++ [(g.Funcs[j]).Name] := by unfold adG; rw [if_neg hm]
    have hlen := G1.len R
    have hll : (l.map (ixF g fs)).length = l.length := List.length_map ..
    rw [he] at hlen
    simp only [List.length_append, List.length_cons, List.length_nil] at hlen
    rw [if_pos (by rw [decide_eq_false (fun q => hm ((ix_mem R G.fn hj).1 q))]; rfl), if_pos (by simp; omega), stG_put, ix_ad R G.fn hj]
    have h3 : ((adG l (g.Funcs[j]).Name).map (ixF g fs)).drop i = (l.map (ixF g fs)).drop i ++ [(j : Int)] := by
     rw [he, drop_add (ixF g fs) hi, ixF, fI_at R 1 fs hj]
    rw [← h3]
    exact step _ _ G1 k1 d1
  ·have h1' : q1k g (g.Funcs[j]).Name ≠ comp := fun q => h1 (hco.symm.trans q)
   rw [if_pos (by rw [hcomp]; simpa using h1)]
   by_cases hk : c.Kind = 1
   ·have hct : c.Target = (g.Funcs[j]).Name := by
     unfold aimsG at ha
     rw [if_pos hk] at ha
     simp only [List.mem_singleton] at ha
     rw [ha] at hat; exact hat
    have hor : OR g fs comp f (q6a.mk (g.Funcs[j]).Name []) := ⟨x, c, hw, hx, hc, ho, .inr ⟨a, ha, by rw [hat]; exact h1', hk, by rw [hat]⟩⟩
    obtain ⟨G1, k1⟩ := G.addO hor
    rw [if_pos (by simp [hk]), hct, stG_put]
    exact step _ _ G1 k1 ⟨fun q => absurd q h1', fun _ _ => adG_mem.2 (.inr rfl)⟩
   ·rw [if_neg (by simp [hk]), Option.bind_some, if_neg (by rw [hcomp]; simpa using h1)]
    exact step _ _ G (Le.refl _ _) ⟨fun q => absurd q h1', fun _ q => absurd q hk⟩
theorem M80_L2_eq (hF : 1000 ≤ F) (R : q8e g) {x3 : TFunc} (hcomp : x3.Component = comp) {x : TFunc} (hw : WR g fs comp f x.Name) (hx : x ∈ g.Funcs) (k : (List (Int × Bool)) → (List (q6a × Bool)) → (List Int) → Option q5a) (i : Nat) :
  ∀ (cs : List TCall) (l : List Tx) (o : List q6a), (∀ c, c ∈ cs → c ∈ x.Calls) → GS g fs comp f l o → i ≤ l.length →
  ∃ l' o', M80_L2 F (wOf g 1 fs) x3 k cs (stG (l.map (ixF g fs))) (stG o) ((l.map (ixF g fs)).drop i) = k (stG (l'.map (ixF g fs))) (stG o') ((l'.map (ixF g fs)).drop i) ∧ GS g fs comp f l' o' ∧ Le l o l' o' ∧
   ∀ c, c ∈ cs → onF fs c.Feature = true → Did g comp c l' o'
 | [], l, o, _, G, _ => ⟨l, o, rfl, G, Le.refl _ _, fun c h => by simp at h⟩
 | c :: cs, l, o, hv, G, hi => by
  have hc := hv c (List.mem_cons_self ..)
  have step : ∀ l1 o1, GS g fs comp f l1 o1 → Le l o l1 o1 → (onF fs c.Feature = true → Did g comp c l1 o1) →
    ∃ l' o', M80_L2 F (wOf g 1 fs) x3 k cs (stG (l1.map (ixF g fs))) (stG o1) ((l1.map (ixF g fs)).drop i) = k (stG (l'.map (ixF g fs))) (stG o') ((l'.map (ixF g fs)).drop i) ∧ GS g fs comp f l' o' ∧ Le l o l' o' ∧
     ∀ c', c' ∈ c :: cs → onF fs c'.Feature = true → Did g comp c' l' o' := by
   intro l1 o1 G1 k1 d1
   obtain ⟨l', o', e1, e2, e3, e4⟩ := M80_L2_eq hF R hcomp hw hx k i cs l1 o1 (fun v h => hv v (List.mem_cons_of_mem _ h)) G1 (Nat.le_trans hi k1.l.length_le)
   refine ⟨l', o', e1, e2, k1.trans e3, fun c' hm ho => ?_⟩
   rcases List.mem_cons.1 hm with e | e
   ·subst e; exact (d1 ho).le e3
   ·exact e4 c' e ho
  rw [M80_L2, q6d]
  simp only [q6d]
  have hon : ((mget (wOf g 1 fs).on c.Feature).getD false) = onF fs c.Feature := onB_eq g 1 fs c.Feature
  rw [hon]
  by_cases ho : onF fs c.Feature = true
  ·rw [if_neg (by rw [ho]; simp)]
   obtain ⟨ts, t1, T⟩ := M92_eq F hF R 1 fs hx hc
   have hts : ∀ v, v ∈ ts → ∃ j : Nat, ∃ h : j < g.Funcs.length, v = j ∧ ∃ a, a ∈ aimsG g c ∧ a.to = (g.Funcs[j]).Name := fun v hv => by
    obtain ⟨j, hj, rfl⟩ := T.nat v hv
    exact ⟨j, hj, rfl, (T.mem j hj).1 hv⟩
   have fin : ∀ o1, GS g fs comp f l o1 → Le l o l o1 → (c.Kind = 2 → q6a.mk c.Target c.Method ∈ o1) →
     ∃ l' o', (M92 F (wOf g 1 fs) c).bind (fun y47 => M80_L3 F (wOf g 1 fs) x3 c (fun m50 m51 l52 => M80_L2 F (wOf g 1 fs) x3 k cs m50 m51 l52) y47 (stG (l.map (ixF g fs))) (stG o1) ((l.map (ixF g fs)).drop i)) = k (stG (l'.map (ixF g fs))) (stG o') ((l'.map (ixF g fs)).drop i) ∧ GS g fs comp f l' o' ∧ Le l o l' o' ∧
      ∀ c', c' ∈ c :: cs → onF fs c'.Feature = true → Did g comp c' l' o' := by
    intro o1 G1 k1 d1
    rw [t1, Option.bind_some]
    obtain ⟨l2, o2, e1, e2, e3, e4⟩ := M80_L3_eq (F := F) R hcomp hw hx hc ho (fun m50 m51 l52 => M80_L2 F (wOf g 1 fs) x3 k cs m50 m51 l52) i ts l o1 hts G1 hi
    rw [e1]
    refine step l2 o2 e2 (k1.trans e3) fun _ => ⟨fun q => e3.o _ (d1 q), fun a ha => ?_⟩
    obtain ⟨j, hj, hjn⟩ := fs_at (aim_fs R hx hc ha)
    have hm : (j : Int) ∈ ts := (T.mem j hj).2 ⟨a, ha, hjn.symm⟩
    have := e4 j hj hm
    rw [hjn] at this
    exact this
   by_cases hk : c.Kind = 2
   ·rw [if_pos (by simp [hk]), stG_put]
    obtain ⟨G1, k1⟩ := G.addO (y := q6a.mk c.Target c.Method) ⟨x, c, hw, hx, hc, ho, .inl ⟨hk, rfl⟩⟩
    exact fin _ G1 k1 fun _ => adG_mem.2 (.inr rfl)
   ·rw [if_neg (by simp [hk])]
    exact fin o G (Le.refl _ _) fun q => absurd q hk
  ·have ho' : onF fs c.Feature = false := by simpa using ho
   rw [if_pos (by rw [ho']; rfl)]
   exact step l o G (Le.refl _ _) fun q => absurd q ho
theorem M80_L1_eq (hF : 1000 ≤ F) (R : q8e g) {x3 : TFunc} (hcomp : x3.Component = comp) (k : (List (Int × Bool)) → (List (q6a × Bool)) → Option q5a) :
  ∀ (n i : Nat) (l : List Tx) (o : List q6a), SInv g fs comp f i l o → 3001 ≤ n + i →
  ∃ l' o', M80_L1 F (wOf g 1 fs) x3 k n (stG (l.map (ixF g fs))) (stG o) ((l.map (ixF g fs)).drop i) = k (stG (l'.map (ixF g fs))) (stG o') ∧ GS g fs comp f l' o' ∧ (∀ x, x ∈ l' ↔ WR g fs comp f x) ∧ ∀ y, y ∈ o' ↔ OR g fs comp f y
 | 0, i, l, o, I, h => by have := I.gs.len R; have := I.le; omega
 | n + 1, i, l, o, I, h => by
  rw [M80_L1]
  by_cases hi : i < l.length
  ·have hdl : ((l.map (ixF g fs)).drop i).length = l.length - i := by simp
   rw [if_pos (by rw [hdl]; simp; omega)]
   simp only [q6d]
   have hd : (l.map (ixF g fs)).drop i = ixF g fs l[i] :: (l.map (ixF g fs)).drop (i + 1) := by
    rw [List.drop_eq_getElem_cons (by simpa using hi)]
    simp
   obtain ⟨j, hj, hn⟩ := fs_at (I.gs.fn l[i] (List.getElem_mem hi))
   have hix : ixF g fs l[i] = j := by rw [← hn]; exact fI_at R 1 fs hj
   have hidx : idx (wOf g 1 fs).g.Funcs (j : Int) = some g.Funcs[j] := q7g hj
   have h0 : idx ((l.map (ixF g fs)).drop i) 0 = some (j : Int) := by rw [hd, hix]; rfl
   rw [h0, Option.bind_some, if_pos (by rw [hdl]; omega), hidx, Option.bind_some]
   have h1 : ((l.map (ixF g fs)).drop i).drop 1 = (l.map (ixF g fs)).drop (i + 1) := by rw [List.drop_drop]
   rw [h1]
   obtain ⟨l2, o2, e1, e2, e3, e4⟩ := M80_L2_eq (F := F) hF R hcomp (x := g.Funcs[j]) (by rw [hn]; exact I.gs.snd _ (List.getElem_mem hi)) (List.getElem_mem hj) (fun m25 m26 l27 => M80_L1 F (wOf g 1 fs) x3 k n m25 m26 l27) (i + 1) (g.Funcs[j]).Calls l o (fun c hc => hc) I.gs hi
   rw [e1]
   exact M80_L1_eq hF R hcomp k n (i + 1) l2 o2 (I.next R hi (List.getElem_mem hj) hn e2 e3 e4) (by omega)
  ·have hd : (l.map (ixF g fs)).drop i = [] := List.drop_eq_nil_of_le (by simp; omega)
   rw [hd, if_neg (by simp)]
   obtain ⟨a1, a2⟩ := I.all (by omega)
   exact ⟨l, o, rfl, I.gs, a1, a2⟩
end
section
variable {g : q1c} {fs : List Tx} {comp f : Tx} {F : Nat}
theorem nm_ne {x : Tx} (h : nm x = true) : x ≠ [] := fun e => by rw [e] at h; simp [nm] at h
theorem aim_typ (R : q8e g) {c : TCall} {a : q3a} (ha : a ∈ aimsG g c) : a.typ = [] ↔ c.Kind = 1 := by
 unfold aimsG at ha
 by_cases k : c.Kind = 1
 ·rw [if_pos k] at ha
  simp only [List.mem_singleton] at ha
  rw [ha]
  exact ⟨fun _ => k, fun _ => rfl⟩
 ·rw [if_neg k, List.mem_filterMap] at ha
  obtain ⟨t, ht, hq⟩ := ha
  unfold aimO at hq
  split at hq
  ·simp only [Option.some.injEq] at hq
   rw [← hq]
   exact ⟨fun e => absurd e (nm_ne (R.t t ht).nam), fun q => absurd q k⟩
  ·simp at hq
theorem fnN_at (R : q8e g) {n : q6b} (N : NetOk g fs n) {x : Tx} (hx : fsOf g x = true) : ((mget n.funcs x).getD (TFunc.mk [] [] [] [])).Component = q1k g x := by
 obtain ⟨y, hy, rfl⟩ := in_names.1 hx
 have := N.f y hy
 unfold funcN at this
 rw [this, compOf_at R hy]
theorem M84_L3_eq (R : q8e g) {n : q6b} (N : NetOk g fs n) {x : TFunc} {c : TCall} (hw : WR g fs comp f x.Name) (hx : x ∈ g.Funcs) (hc : c ∈ x.Calls) (ho : onF fs c.Feature = true) (k : (List ((List UInt8) × Bool)) → (List (List UInt8)) → (List (q6a × Bool)) → Option q5a) :
  ∀ (az : List q3a) (l : List Tx) (o : List q6a), (∀ a, a ∈ az → a ∈ aimsG g c) → GS g fs comp f l o →
  ∃ l' o', M84_L3 F n comp k az (stG l) l (stG o) = k (stG l') l' (stG o') ∧ GS g fs comp f l' o' ∧ Le l o l' o' ∧
   ∀ a, a ∈ az → (q1k g a.to = comp → a.to ∈ l') ∧ (q1k g a.to ≠ comp → c.Kind = 1 → q6a.mk a.to [] ∈ o')
 | [], l, o, _, G => ⟨l, o, rfl, G, Le.refl _ _, fun a h => by simp at h⟩
 | a :: az, l, o, hv, G => by
  have ha := hv a (List.mem_cons_self ..)
  have hfs := aim_fs R hx hc ha
  have hco := fnN_at R N hfs
  have step : ∀ l1 o1, GS g fs comp f l1 o1 → Le l o l1 o1 → ((q1k g a.to = comp → a.to ∈ l1) ∧ (q1k g a.to ≠ comp → c.Kind = 1 → q6a.mk a.to [] ∈ o1)) →
    ∃ l' o', M84_L3 F n comp k az (stG l1) l1 (stG o1) = k (stG l') l' (stG o') ∧ GS g fs comp f l' o' ∧ Le l o l' o' ∧
     ∀ a', a' ∈ a :: az → (q1k g a'.to = comp → a'.to ∈ l') ∧ (q1k g a'.to ≠ comp → c.Kind = 1 → q6a.mk a'.to [] ∈ o') := by
   intro l1 o1 G1 k1 d1
   obtain ⟨l', o', e1, e2, e3, e4⟩ := M84_L3_eq R N hw hx hc ho k az l1 o1 (fun v h => hv v (List.mem_cons_of_mem _ h)) G1
   refine ⟨l', o', e1, e2, k1.trans e3, fun a' hm => ?_⟩
   rcases List.mem_cons.1 hm with e | e
   ·subst e
    exact ⟨fun q => e3.mem (d1.1 q), fun q q' => e3.o _ (d1.2 q q')⟩
   ·exact e4 a' e
  rw [M84_L3, q6d]
  simp only [q6d]
  rw [hco]
  by_cases h1 : q1k g a.to = comp
  ·rw [if_neg (by rw [h1]; simp), stG_get]
   obtain ⟨G1, k1⟩ := G.addL hfs (.step hw hx hc ho ha h1)
   have d1 : (q1k g a.to = comp → a.to ∈ adG l a.to) ∧ (q1k g a.to ≠ comp → c.Kind = 1 → q6a.mk a.to [] ∈ o) := ⟨fun _ => adG_mem.2 (.inr rfl), fun q => absurd h1 q⟩
   by_cases hm : a.to ∈ l
   ·have he : adG l a.to = l := by unfold adG; rw [if_pos hm]
    rw [if_neg (by simp [hm])]
    have := step _ _ G1 k1 d1
    rw [he] at this
    exact this
   ·have he : adG l a.to = l ++ [a.to] := by unfold adG; rw [if_neg hm]
    have hlen := G1.len R
    rw [he] at hlen
    simp only [List.length_append, List.length_cons, List.length_nil] at hlen
    rw [if_pos (by simp [hm]), if_pos (by simp; omega), stG_put, ← he]
    exact step _ _ G1 k1 d1
  ·rw [if_pos (by simpa using h1)]
   by_cases hk : c.Kind = 1
   ·rw [if_pos (by rw [(aim_typ R ha).2 hk]; rfl), stG_put]
    obtain ⟨G1, k1⟩ := G.addO (y := q6a.mk a.to []) ⟨x, c, hw, hx, hc, ho, .inr ⟨a, ha, h1, hk, rfl⟩⟩
    exact step _ _ G1 k1 ⟨fun q => absurd q h1, fun _ _ => adG_mem.2 (.inr rfl)⟩
   ·rw [if_neg (by simp only [beq_iff_eq]; exact fun q => hk ((aim_typ R ha).1 q))]
    exact step _ _ G (Le.refl _ _) ⟨fun q => absurd q h1, fun _ q => absurd q hk⟩
theorem M84_L2_eq (R : q8e g) {n : q6b} (N : NetOk g fs n) {x : TFunc} (hw : WR g fs comp f x.Name) (hx : x ∈ g.Funcs) (k : (List ((List UInt8) × Bool)) → (List (List UInt8)) → (List (q6a × Bool)) → Option q5a) (i : Nat) :
  ∀ (cs : List TCall) (m : Nat) (l : List Tx) (o : List q6a), x.Calls.drop m = cs → l[i]? = some x.Name → GS g fs comp f l o →
  ∃ l' o', M84_L2 F n comp (i : Int) k (lks g (onF fs) x.Name (m : Int) cs) (stG l) l (stG o) = k (stG l') l' (stG o') ∧ GS g fs comp f l' o' ∧ Le l o l' o' ∧
   ∀ c, c ∈ cs → onF fs c.Feature = true → Did g comp c l' o'
 | [], m, l, o, _, _, G => ⟨l, o, rfl, G, Le.refl _ _, fun c h => by simp at h⟩
 | c :: cs, m, l, o, hd, hl, G => by
  have hml : m < x.Calls.length := by
   apply Classical.byContradiction
   intro hn
   rw [List.drop_eq_nil_of_le (by omega)] at hd
   simp at hd
  have hd2 := hd
  rw [List.drop_eq_getElem_cons hml] at hd2
  injection hd2 with hc0 hd3
  have hc : c ∈ x.Calls := by rw [← hc0]; exact List.getElem_mem hml
  have step : ∀ l1 o1, GS g fs comp f l1 o1 → Le l o l1 o1 → (onF fs c.Feature = true → Did g comp c l1 o1) →
    ∃ l' o', M84_L2 F n comp (i : Int) k (lks g (onF fs) x.Name ((m : Int) + 1) cs) (stG l1) l1 (stG o1) = k (stG l') l' (stG o') ∧ GS g fs comp f l' o' ∧ Le l o l' o' ∧
     ∀ c', c' ∈ c :: cs → onF fs c'.Feature = true → Did g comp c' l' o' := by
   intro l1 o1 G1 k1 d1
   have hl1 : l1[i]? = some x.Name := by
    obtain ⟨t, ht⟩ := k1.l
    rw [← ht, List.getElem?_append_left ((List.getElem?_eq_some_iff.1 hl).1)]
    exact hl
   obtain ⟨l', o', e1, e2, e3, e4⟩ := M84_L2_eq R N hw hx k i cs (m + 1) l1 o1 hd3 hl1 G1
   refine ⟨l', o', e1, e2, k1.trans e3, fun c' hm ho => ?_⟩
   rcases List.mem_cons.1 hm with e | e
   ·subst e; exact (d1 ho).le e3
   ·exact e4 c' e ho
  rw [lks]
  by_cases ho : onF fs c.Feature = true
  ·rw [if_pos ho, M84_L2, q6d]
   simp only [q6d]
   have hil := (List.getElem?_eq_some_iff.1 hl).1
   have hidx : idx l (i : Int) = some x.Name := by rw [q7g hil, ← hl, List.getElem?_eq_getElem hil]
   have hfn : (mget n.funcs x.Name).getD (TFunc.mk [] [] [] []) = x := N.f x hx
   rw [hidx, Option.bind_some, hfn, q7g hml, hc0, Option.bind_some]
   have fin : ∀ o1, GS g fs comp f l o1 → Le l o l o1 → (c.Kind = 2 → q6a.mk c.Target c.Method ∈ o1) →
     ∃ l' o', M84_L3 F n comp (fun m49 l50 m51 => M84_L2 F n comp (i : Int) k (lks g (onF fs) x.Name ((m : Int) + 1) cs) m49 l50 m51) (aimsG g c) (stG l) l (stG o1) = k (stG l') l' (stG o') ∧ GS g fs comp f l' o' ∧ Le l o l' o' ∧
      ∀ c', c' ∈ c :: cs → onF fs c'.Feature = true → Did g comp c' l' o' := by
    intro o1 G1 k1 d1
    obtain ⟨l2, o2, e1, e2, e3, e4⟩ := M84_L3_eq (F := F) R N hw hx hc ho (fun m49 l50 m51 => M84_L2 F n comp (i : Int) k (lks g (onF fs) x.Name ((m : Int) + 1) cs) m49 l50 m51) (aimsG g c) l o1 (fun a h => h) G1
    rw [e1]
    exact step l2 o2 e2 (k1.trans e3) fun _ => ⟨fun q => e3.o _ (d1 q), fun a ha => e4 a ha⟩
   by_cases hk : c.Kind = 2
   ·rw [if_pos (by simp [hk]), stG_put]
    obtain ⟨G1, k1⟩ := G.addO (y := q6a.mk c.Target c.Method) ⟨x, c, hw, hx, hc, ho, .inl ⟨hk, rfl⟩⟩
    exact fin _ G1 k1 fun _ => adG_mem.2 (.inr rfl)
   ·rw [if_neg (by simp [hk])]
    exact fin o G (Le.refl _ _) fun q => absurd q hk
  ·rw [if_neg ho]
   exact step l o G (Le.refl _ _) fun q => absurd q ho
theorem M84_L1_eq (R : q8e g) {n : q6b} (N : NetOk g fs n) (k : (List ((List UInt8) × Bool)) → (List (q6a × Bool)) → Option q5a) :
  ∀ (d i : Nat) (l : List Tx) (o : List q6a), SInv g fs comp f i l o → 3001 ≤ d + i →
  ∃ l' o', M84_L1 F n comp k d (i : Int) (stG l) l (stG o) = k (stG l') (stG o') ∧ GS g fs comp f l' o' ∧ (∀ x, x ∈ l' ↔ WR g fs comp f x) ∧ ∀ y, y ∈ o' ↔ OR g fs comp f y
 | 0, i, l, o, I, h => by have := I.gs.len R; have := I.le; omega
 | d + 1, i, l, o, I, h => by
  rw [M84_L1]
  have hlen := I.gs.len R
  by_cases hi : i < l.length
  ·rw [if_pos (by simp; omega)]
   simp only [q6d]
   have hw1 : w64 ((i : Int) + 1) = ((i + 1 : Nat) : Int) := by rw [w64_id (by omega) (by omega)]; omega
   obtain ⟨x, hx, hn⟩ := in_names.1 (I.gs.fn l[i] (List.getElem_mem hi))
   have hlk : (mget n.links l[i]).getD [] = lks g (onF fs) x.Name 0 x.Calls := by rw [← hn]; exact N.l x hx
   rw [q7g hi, Option.bind_some, hlk]
   obtain ⟨l2, o2, e1, e2, e3, e4⟩ := M84_L2_eq (F := F) R N (x := x) (by rw [hn]; exact I.gs.snd _ (List.getElem_mem hi)) hx (fun m23 l24 m25 => M84_L1 F n comp k d (w64 ((i : Int) + 1)) m23 l24 m25) i x.Calls 0 l o rfl (by rw [List.getElem?_eq_getElem hi, hn]) I.gs
   refine Exists.imp (fun l' => ?_) (M84_L1_eq R N k d (i + 1) l2 o2 (I.next R hi hx hn e2 e3 e4) (by omega))
   rintro ⟨o', q1, q2⟩
   refine ⟨o', ?_, q2⟩
   rw [← q1, ← hw1]
   exact e1
  ·rw [if_neg (by simp; omega)]
   obtain ⟨a1, a2⟩ := I.all (by omega)
   exact ⟨l, o, rfl, I.gs, a1, a2⟩
end
theorem inO_mem (l : List q6a) (e z : q6a) : z ∈ inO l e ↔ z = e ∨ z ∈ l := by
 have h : inO l e = (insB e l.reverse).reverse := by rw [← inO_eq, List.reverse_reverse]
 rw [h, List.mem_reverse, insB_mem, List.mem_reverse]
theorem inO_srt (l : List q6a) (e : q6a) (h : l.Pairwise fun x y => ltO x y = true) (hn : e ∉ l) : (inO l e).Pairwise fun x y => ltO x y = true := by
 have h' : inO l e = (insB e l.reverse).reverse := by rw [← inO_eq, List.reverse_reverse]
 rw [h', List.pairwise_reverse]
 exact insB_srt e l.reverse (by rw [List.pairwise_reverse]; exact h) (by rw [List.mem_reverse]; exact hn)
theorem M84_L4_eq (F : Nat) (a : Tx) (ns : List Tx) : ∀ (l : List q6a) (o : List q6a), l.Nodup → (∀ x, x ∈ l → x ∉ o) → (o.Pairwise fun x y => ltO x y = true) → o.length + l.length < F → (o.length + l.length) * 32 ≤ 140737488355328 →
  ∃ s, M84_L4 F a ns (stG l) o = some (q5a.mk a ns s) ∧ (s.Pairwise fun x y => ltO x y = true) ∧ ∀ z, z ∈ s ↔ z ∈ o ∨ z ∈ l
 | [], o, _, _, h, _, _ => ⟨o, rfl, h, fun z => by simp⟩
 | e :: l, o, hn, hd, h, hF, hb => by
  simp only [List.length_cons] at hF hb
  rw [List.nodup_cons] at hn
  show ∃ s, M84_L4 F a ns ((e, true) :: stG l) o = _ ∧ _
  rw [q8m, if_pos ⟨by omega, by omega⟩]
  obtain ⟨s, s1, s2, s3⟩ := M84_L4_eq F a ns l (inO o e) hn.2 (fun x hx hm => by
   rcases (inO_mem o e x).1 hm with q | q
   ·rw [q] at hx; exact hn.1 hx
   ·exact hd x (List.mem_cons_of_mem _ hx) q) (inO_srt o e h (hd e (List.mem_cons_self ..))) (by rw [inO_len]; omega) (by rw [inO_len]; omega)
  refine ⟨s, s1, s2, fun z => ?_⟩
  rw [s3, inO_mem, List.mem_cons]
  constructor
  ·rintro ((q | q) | q)
   ·exact .inr (.inl q)
   ·exact .inl q
   ·exact .inr (.inr q)
  ·rintro (q | q | q)
   ·exact .inl (.inr q)
   ·exact .inl (.inl q)
   ·exact .inr q
end Go.Proofs.YtpbkggamiipdmaaGreat
