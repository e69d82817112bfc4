/- Part of the proof: H4Cmp, H4Chk, H4P1, H4P2, H4P3, H4P4, H4P5, H4P6, H4P7, H4P8, H4P9. -/
import Derived.Test.YtcoppoeibjkinaaDoorMPvX
namespace Go.Proofs.YtcoppoeibjkinaaDoor
open Go Go.Pv
set_option linter.unusedVariables false
set_option linter.unusedSimpArgs false
def orr (e : Int) (k : Option Int) : Option Int := if e = 0 then k else some e
theorem orr_0 (k : Option Int) : orr 0 k = k := rfl
def vis (c : UInt8) : Bool := decide (33 ≤ c.toNat) && decide (c.toNat ≤ 126)
def name (s : List UInt8) : Bool := s.all vis && decide (1 ≤ s.length) && decide (s.length ≤ 100)
theorem M28_eq (F : Nat) (s : List UInt8) (h : s.length ≤ maxLen) : M28 F s = some (s.all vis && !s.isEmpty) := by
 have h' : (s.length : Int) ≤ 9223372036854775807 := by have : s.length ≤ 9223372036854775807 := h; omega
 unfold M28
 rw [jn_def, if_pos h', Int.toNat_natCast]
 have := bytesL (g := M28_L1 F s (some (!(s == [])))) (k := some (!(s == []))) (f := false) s vis (fun _ => rfl) (fun m n => by
  rw [M28_L1]
  cases hi : idx s n with
  | none => rfl
  | some c =>
   simp only [Option.bind_some]
   by_cases h1 : c.toNat < 33
   ·rw [if_t (by omega)]; simp [vis]; omega
   ·rw [if_f (by omega)]
    by_cases h2 : c.toNat > 126
    ·rw [if_t (by omega)]; simp [vis]; omega
    ·rw [if_f (by omega), if_pos]; simp [vis]; omega) s.length 0 (by omega)
 rw [show ((0 : Nat) : Int) = 0 from rfl] at this
 rw [this, List.drop_zero]
 cases s.all vis <;> cases s <;> simp
theorem M30_eq (F : Nat) (s : List UInt8) (h : s.length ≤ maxLen) : M30 F s = some (name s) := by
 unfold M30 name
 rw [M28_eq F s h, Option.bind_some]
 cases s with
 | nil => simp
 | cons c s =>
  cases (c :: s).all vis <;> simp <;> omega
theorem M35_eq (F : Nat) (s : List UInt8) (h : s.length ≤ maxLen) : M35 F s = some (name s) := by
 have h' : (s.length : Int) ≤ 9223372036854775807 := by have : s.length ≤ 9223372036854775807 := h; omega
 unfold M35
 rw [jn_def, if_pos h', Int.toNat_natCast]
 generalize hk : (if decide ((s.length : Int) ≥ 1) = true then some (decide ((s.length : Int) ≤ 100)) else some false) = k
 have := bytesL (g := M35_L1 F s k) (k := k) (f := false) s vis (fun _ => rfl) (fun m n => by
  rw [M35_L1]
  cases hi : idx s n with
  | none => rfl
  | some c =>
   simp only [Option.bind_some]
   by_cases h1 : c.toNat < 33
   ·rw [if_t (by omega)]; simp [vis]; omega
   ·rw [if_f (by omega)]
    by_cases h2 : c.toNat > 126
    ·rw [if_t (by omega)]; simp [vis]; omega
    ·rw [if_f (by omega), if_pos]; simp [vis]; omega) s.length 0 (by omega)
 rw [show ((0 : Nat) : Int) = 0 from rfl] at this
 rw [this, List.drop_zero, ← hk]
 unfold name
 cases s.all vis
 ·simp
 ·simp only [if_true, Bool.true_and]
  by_cases h1 : 1 ≤ s.length
  ·rw [if_t (by omega)]; congr 1; rw [Bool.eq_iff_iff]; simp only [decide_eq_true_eq, Bool.and_eq_true]; omega
  ·rw [if_f (by omega)]; congr 1; symm; rw [Bool.eq_false_iff]; simp only [decide_eq_true_eq, Bool.and_eq_true, ne_eq]; omega
def bef (a b : TExposure) : Bool := Op.bytesLess a.Advisory b.Advisory || (a.Advisory == b.Advisory && Op.bytesLess a.Component b.Component)
theorem bef_trans {a b c : TExposure} (h : bef a b = true) (g : bef b c = true) : bef a c = true := by
 unfold bef at *
 simp only [Bool.or_eq_true, Bool.and_eq_true, beq_iff_eq] at *
 rcases h with h | ⟨h1, h2⟩ <;> rcases g with g | ⟨g1, g2⟩
 ·exact .inl (bl_trans h g)
 ·exact .inl (by rw [← g1]; exact h)
 ·exact .inl (by rw [h1]; exact g)
 ·exact .inr ⟨h1.trans g1, bl_trans h2 g2⟩
theorem M51_eq (F : Nat) (a b : TExposure) : M51 F a b = some (bef a b) := by
 unfold M51 bef
 cases h : Op.bytesLess a.Advisory b.Advisory
 ·simp only [Bool.false_eq_true, if_false]
  cases h2 : a.Advisory == b.Advisory <;> simp
 ·simp
theorem M83_eq (F : Nat) (a b : List UInt8) : M83 F a b = some (cmpS a b) := by
 unfold M83 M96 cmpS
 simp only [beq_self_eq_true, Bool.not_true, Option.bind_some, Bool.false_eq_true, if_false, bl_gt]
 split
 ·rfl
 ·split <;> rfl
theorem M82_two (F : Nat) (x y : Int) : M82 F [x, y] = some (if x ≠ 0 then x else y) := by
 unfold M82
 rw [jn_def]
 simp only [M82_L1]
 by_cases h : x = 0
 ·subst h
  by_cases h2 : y = 0
  ·subst h2; simp
  ·simp [h2]
 ·simp [h]
theorem M63_eq (F : Nat) (a b : TExposure) : ∃ n, M63 F (Thistory_key.mk a.Advisory a.Component) (Thistory_key.mk b.Advisory b.Component) = some n ∧ (decide (n ≥ 0)) = !bef a b := by
 unfold M63
 simp only [M83_eq, Option.bind_some, M82_two]
 refine ⟨_, rfl, ?_⟩
 unfold bef
 by_cases h : a.Advisory = b.Advisory
 ·rw [h]
  have h0 : cmpS b.Advisory b.Advisory = 0 := cmpS_eq.2 rfl
  simp only [h0, ne_eq, not_true, if_false, bl_irrefl, Bool.false_or, beq_self_eq_true, Bool.true_and]
  cases hc : Op.bytesLess a.Component b.Component
  ·have : ¬ cmpS a.Component b.Component < 0 := fun g => (Bool.eq_false_iff.1 hc) (cmpS_lt.1 g)
   simp; omega
  ·have := cmpS_lt.2 hc
   simp; omega
 ·have h0 : cmpS a.Advisory b.Advisory ≠ 0 := fun e => h (cmpS_eq.1 e)
  have hq : (a.Advisory == b.Advisory) = false := by simpa using h
  simp only [ne_eq, h0, not_false_iff, if_true, hq, Bool.false_and, Bool.or_false]
  cases hc : Op.bytesLess a.Advisory b.Advisory
  ·have : ¬ cmpS a.Advisory b.Advisory < 0 := fun g => (Bool.eq_false_iff.1 hc) (cmpS_lt.1 g)
   simp; omega
  ·have := cmpS_lt.2 hc
   simp; omega
def expE (p : Option TExposure) : List TExposure → Int
 | [] => 0
 | x :: r => if !(name x.Advisory && name x.Component) then 8 else if x.Severity < 0 ∨ 100 < x.Severity then 9 else if p.any (fun q => !bef q x) then 10 else expE (some x) r
def exps (l : List TExposure) : Int := if 500 < l.length then 3 else expE none l
def okE (l : List TExposure) : Prop := ∀ x, x ∈ l → x.Advisory.length ≤ maxLen ∧ x.Component.length ≤ maxLen
theorem expE_code (F : Nat) (a : List TExposure) (hok : okE a) (hlen : a.length ≤ 500) (k : Option Int) (g : List TExposure → Int → Option Int) (nm : List UInt8 → Option Bool) (cp : TExposure → TExposure → Option Bool)
  (hn : ∀ s : List UInt8, s.length ≤ maxLen → nm s = some (name s)) (hc : ∀ x y, cp x y = some (!bef x y))
  (h0 : ∀ n, g [] n = k) (h1 : ∀ x l n, g (x :: l) n = (nm x.Advisory).bind fun y9 => if (!y9) = true then some 8
   else (nm x.Component).bind fun y12 => if (!y12) = true then some 8 else if (decide (x.Severity < 0)) = true then some 9 else if (decide (x.Severity > 100)) = true then some 9
   else if (decide (n > 0)) = true then (idx a (w64 (n - 1))).bind fun q => (cp q x).bind fun y => if y = true then some 10 else g l (n + 1)
   else g l (n + 1)) :
  ∀ (l : List TExposure) (n : Nat), a.drop n = l → g l n = orr (expE (if n = 0 then none else a[n - 1]?) l) k
 | [], n, _ => by rw [h0]; rfl
 | x :: l, n, h => by
  have hn' : n < a.length := by
   by_cases hlt : n < a.length
   ·exact hlt
   ·rw [List.drop_eq_nil_of_le (by omega)] at h; simp at h
  have hx : a[n] = x := by rw [List.drop_eq_getElem_cons hn'] at h; exact (List.cons.inj h).1
  have hl : a.drop (n + 1) = l := by rw [List.drop_eq_getElem_cons hn'] at h; exact (List.cons.inj h).2
  have hok' := hok x (by rw [← hx]; exact List.getElem_mem _)
  rw [h1, hn _ hok'.1, hn _ hok'.2, Option.bind_some, Option.bind_some]
  have e : ((n : Int) + 1) = ((n + 1 : Nat) : Int) := rfl
  have ih := expE_code F a hok hlen k g nm cp hn hc h0 h1 l (n + 1) hl
  rw [e, ih]
  have hp : (if n + 1 = 0 then none else a[n + 1 - 1]?) = some x := by
   rw [if_neg (by omega), Nat.add_sub_cancel, List.getElem?_eq_getElem hn', hx]
  rw [hp]
  simp only [expE]
  cases ha : name x.Advisory
  ·rfl
  cases hb : name x.Component
  ·rfl
  simp only [Bool.not_true, Bool.false_eq_true, if_false, Bool.and_self]
  by_cases h2 : x.Severity < 0
  ·rw [if_t h2, if_pos (.inl h2)]; rfl
  rw [if_f h2]
  by_cases h3 : x.Severity > 100
  ·rw [if_t h3, if_pos (.inr h3)]; rfl
  rw [if_f h3, if_neg (show ¬ (x.Severity < 0 ∨ 100 < x.Severity) by omega)]
  by_cases h4 : n = 0
  ·subst h4; simp
  ·rw [if_t (by omega : (n : Int) > 0), if_neg h4]
   have e2 : w64 ((n : Int) - 1) = ((n - 1 : Nat) : Int) := by rw [w64_id (by omega) (by omega)]; omega
   have hlt : n - 1 < a.length := by omega
   rw [e2, idx_nat hlt, Option.bind_some, hc, Option.bind_some, List.getElem?_eq_getElem hlt]
   simp only [Option.any_some]
   by_cases hb : bef a[n - 1] x = true
   ·rw [if_neg (by simp [hb]), if_neg (by simp [hb])]
   ·rw [if_pos (by simpa using hb), if_pos (by simpa using hb)]; rfl
theorem orr_s (e : Int) : orr e (some 0) = some e := by unfold orr; split <;> simp_all
theorem M50_eq (F : Nat) (l : List TExposure) (h : okE l) : M50 F l = some (exps l) := by
 unfold M50 exps
 by_cases hlen : l.length > 500
 ·rw [if_t (by omega), if_pos hlen]
 ·rw [if_f (by omega), if_neg hlen, jn_def]
  have := expE_code F l h (by omega) (some 0) (M50_L1 F l (some 0)) (M30 F) (fun q x => (M64 F q).bind fun y21 => (M64 F x).bind fun y23 => (M63 F y21 y23).bind fun y25 => some (decide (y25 ≥ 0))) (M30_eq F) (fun q x => by
   obtain ⟨n, h1, h2⟩ := M63_eq F q x
   simp only [M64, Option.bind_some, h1, h2]) (fun _ => rfl) (fun x l n => by
    rw [M50_L1]
    simp only [jn_def, Option.bind_assoc, Option.bind_some]) l 0 rfl
  exact this.trans (orr_s _)
theorem M37_eq (F : Nat) (l : List TExposure) (h : okE l) : M37 F l = some (exps l) := by
 unfold M37 exps
 by_cases hlen : l.length > 500
 ·rw [if_t (by omega), if_pos hlen]
 ·rw [if_f (by omega), if_neg hlen, jn_def]
  have := expE_code F l h (by omega) (some 0) (M37_L1 F l (some 0)) (M35 F) (fun q x => (M51 F q x).bind fun y => some (!y)) (M35_eq F) (fun q x => by
   simp only [M51_eq, Option.bind_some]) (fun _ => rfl) (fun x l n => by
    rw [M37_L1]
    simp only [jn_def, Option.bind_assoc, Option.bind_some]) l 0 rfl
  exact this.trans (orr_s _)
theorem expE_zero : ∀ {p : Option TExposure} {l : List TExposure}, expE p l = 0 → (∀ q, p = some q → ∀ x, x ∈ l → bef q x = true) ∧ l.Pairwise (fun a b => bef a b = true) ∧ ∀ x, x ∈ l → name x.Advisory = true ∧ name x.Component = true ∧ 0 ≤ x.Severity ∧ x.Severity ≤ 100
 | p, [], _ => by simp
 | p, x :: l, h => by
  simp only [expE] at h
  split at h
  ·simp at h
  ·rename_i h1
   split at h
   ·simp at h
   ·rename_i h2
    split at h
    ·simp at h
    ·rename_i h3
     obtain ⟨g1, g2, g3⟩ := expE_zero h
     have hq : ∀ q, p = some q → bef q x = true := by
      intro q e; subst e; simpa using h3
     refine ⟨fun q e y hy => ?_, List.pairwise_cons.2 ⟨fun y hy => g1 x rfl y hy, g2⟩, fun y hy => ?_⟩
     ·rcases List.mem_cons.1 hy with rfl | hy
      ·exact hq q e
      ·exact bef_trans (hq q e) (g1 x rfl y hy)
     ·rcases List.mem_cons.1 hy with rfl | hy
      ·simp at h1; exact ⟨h1.1, h1.2, by omega, by omega⟩
      ·exact g3 y hy
theorem exps_zero {l : List TExposure} (h : exps l = 0) : l.length ≤ 500 ∧ l.Pairwise (fun a b => bef a b = true) ∧ ∀ x, x ∈ l → name x.Advisory = true ∧ name x.Component = true ∧ 0 ≤ x.Severity ∧ x.Severity ≤ 100 := by
 unfold exps at h
 split at h
 ·simp at h
 ·obtain ⟨_, h1, h2⟩ := expE_zero h
  exact ⟨by omega, h1, h2⟩
theorem M39_eq (F : Nat) (a b : List TExposure) : M39 F a b = some (decide (a = b)) := by
 unfold M39
 simp only [jn_def]
 exact eqL_all b (g := M39_L1 F b (some true)) (fun _ => rfl) (fun x l n => by rw [M39_L1]) a
def rel (r : TRelease) : Int := if !name r.Version then 8 else if !decide (0 ≤ r.Day ∧ r.Day ≤ 1000000) then 9 else exps r.Exposures
def okR (r : TRelease) : Prop := r.Version.length ≤ maxLen ∧ okE r.Exposures
theorem isDay_b (n : Int) (F : Nat) : M31 F n = some (decide (0 ≤ n ∧ n ≤ 1000000)) := by
 unfold M31
 by_cases h : n ≥ 0
 ·rw [if_t h]; congr 1; simp; omega
 ·rw [if_f h]; congr 1; simp; omega
theorem isDay_b' (n : Int) (F : Nat) : M36 F n = some (decide (0 ≤ n ∧ n ≤ 1000000)) := by
 unfold M36
 by_cases h : n ≥ 0
 ·rw [if_t h]; congr 1; simp; omega
 ·rw [if_f h]; congr 1; simp; omega
def same (x y : TExposure) : Bool := x.Advisory == y.Advisory && x.Component == y.Component
abbrev Seen := List ((List UInt8) × Bool)
def relE (u : Int) (p : Option TRelease) (m : Seen) : List TRelease → Int
 | [] => 0
 | x :: r => if !name x.Version then 8 else if (mget m x.Version).getD false = true then 5 else if x.Day < 0 ∨ u < x.Day then 9 else if p.any (fun q => decide (x.Day ≤ q.Day)) then 10
  else if exps x.Exposures ≠ 0 then exps x.Exposures else relE u (some x) (mput m x.Version true) r
def knE (p : Option TPublished) : List TPublished → Int
 | [] => 0
 | x :: r => if !name x.Advisory then 8 else if p.any (fun q => !Op.bytesLess q.Advisory x.Advisory) then 10 else if !decide (0 ≤ x.Day ∧ x.Day ≤ 1000000) then 9
  else if x.Ended ≠ -1 ∧ (x.Ended < x.Day ∨ 1000000 < x.Ended) then 9 else knE (some x) r
def marks (m : Seen) : List TPublished → Seen
 | [] => m
 | x :: r => marks (mput m x.Advisory true) r
def allKn (m : Seen) (l : List TRelease) : Bool := l.all fun r => r.Exposures.all fun x => (mget m x.Advisory).getD false
def chk (s : TStory) : Int :=
 if !name s.Product then 8 else if !decide (0 ≤ s.Until ∧ s.Until ≤ 1000000) then 9 else if 500 < s.Releases.length then 3 else if 2000 < s.Known.length then 3
 else if relE s.Until none [] s.Releases ≠ 0 then relE s.Until none [] s.Releases
 else if knE none s.Known ≠ 0 then knE none s.Known
 else if allKn (marks [] s.Known) s.Releases then 0 else 4
structure okSt (s : TStory) : Prop where
 pr : s.Product.length ≤ maxLen
 rl : ∀ r, r ∈ s.Releases → okR r
 kn : ∀ k, k ∈ s.Known → k.Advisory.length ≤ maxLen
theorem drop_at {α : Type} {a l : List α} {x : α} {n : Nat} (h : a.drop n = x :: l) : ∃ hn : n < a.length, a[n] = x ∧ a.drop (n + 1) = l := by
 have hn : n < a.length := by
  by_cases hlt : n < a.length
  ·exact hlt
  ·rw [List.drop_eq_nil_of_le (by omega)] at h; simp at h
 rw [List.drop_eq_getElem_cons hn] at h
 exact ⟨hn, (List.cons.inj h).1, (List.cons.inj h).2⟩
theorem prev_eq {α : Type} {a : List α} {x : α} {n : Nat} (hn : n < a.length) (hx : a[n] = x) : (if n + 1 = 0 then none else a[n + 1 - 1]?) = some x := by
 rw [if_neg (by omega), Nat.add_sub_cancel, List.getElem?_eq_getElem hn, hx]
theorem prev_idx {α : Type} {a : List α} {n : Nat} (hn : n < a.length) (h0 : n ≠ 0) (hb : a.length ≤ 100000) : idx a (w64 ((n : Int) - 1)) = a[n - 1]? := by
 have e2 : w64 ((n : Int) - 1) = ((n - 1 : Nat) : Int) := by rw [w64_id (by omega) (by omega)]; omega
 rw [e2, idx_nat (by omega), List.getElem?_eq_getElem (by omega)]
theorem relE_code (a : List TRelease) (u : Int) (hok : ∀ r, r ∈ a → okR r) (hlen : a.length ≤ 500) (k : Option Int) (g : List TRelease → Int → Seen → Option Int) (nm : List UInt8 → Option Bool) (ex : List TExposure → Option Int)
  (hn : ∀ s : List UInt8, s.length ≤ maxLen → nm s = some (name s)) (he : ∀ l, okE l → ex l = some (exps l))
  (h0 : ∀ n m, g [] n m = k) (h1 : ∀ x l n m, g (x :: l) n m = (nm x.Version).bind fun y10 => if (!y10) = true then some 8
   else if ((mget m x.Version).getD false) = true then some 5 else if (decide (x.Day < 0)) = true then some 9 else if (decide (x.Day > u)) = true then some 9
   else if (decide (n > 0)) = true then (idx a (w64 (n - 1))).bind fun q => if (decide (x.Day ≤ q.Day)) = true then some 10
    else (ex x.Exposures).bind fun y => if (y != 0) = true then some y else g l (n + 1) (mput m x.Version true)
   else (ex x.Exposures).bind fun y => if (y != 0) = true then some y else g l (n + 1) (mput m x.Version true)) :
  ∀ (l : List TRelease) (n : Nat) (m : Seen), a.drop n = l → g l n m = orr (relE u (if n = 0 then none else a[n - 1]?) m l) k
 | [], n, m, _ => by rw [h0]; rfl
 | x :: l, n, m, h => by
  obtain ⟨hn', hx, hl⟩ := drop_at h
  have hok' := hok x (by rw [← hx]; exact List.getElem_mem _)
  have e : ((n : Int) + 1) = ((n + 1 : Nat) : Int) := rfl
  rw [h1, hn _ hok'.1, Option.bind_some, he _ hok'.2, Option.bind_some, e, relE_code a u hok hlen k g nm ex hn he h0 h1 l (n + 1) _ hl, prev_eq hn' hx]
  simp only [relE]
  cases name x.Version
  ·rfl
  simp only [Bool.not_true, Bool.false_eq_true, if_false]
  by_cases h2 : (mget m x.Version).getD false = true
  ·rw [if_pos h2, if_pos h2]; rfl
  rw [if_neg h2, if_neg h2]
  by_cases h3 : x.Day < 0
  ·rw [if_t h3, if_pos (show x.Day < 0 ∨ u < x.Day from .inl h3)]; rfl
  rw [if_f h3]
  by_cases h4 : x.Day > u
  ·rw [if_t h4, if_pos (show x.Day < 0 ∨ u < x.Day from .inr h4)]; rfl
  rw [if_f h4, if_neg (show ¬ (x.Day < 0 ∨ u < x.Day) by omega)]
  have fin : (if (exps x.Exposures != 0) = true then some (exps x.Exposures) else orr (relE u (some x) (mput m x.Version true) l) k) =
    orr (if exps x.Exposures ≠ 0 then exps x.Exposures else relE u (some x) (mput m x.Version true) l) k := by
   by_cases h5 : exps x.Exposures = 0
   ·rw [if_neg (by simp [h5]), if_neg (by simp [h5])]
   ·rw [if_pos (by simpa using h5), if_pos h5]; unfold orr; rw [if_neg h5]
  by_cases h6 : n = 0
  ·subst h6
   rw [if_f (by simp)]
   simpa using fin
  ·rw [if_t (by omega : (n : Int) > 0), if_neg h6, prev_idx hn' h6 (by omega), List.getElem?_eq_getElem (show n - 1 < a.length by omega), Option.bind_some]
   simp only [Option.any_some]
   by_cases h7 : x.Day ≤ a[n - 1].Day
   ·rw [if_t h7, if_t h7]; rfl
   ·rw [if_f h7, if_f h7]; exact fin
theorem knE_code (a : List TPublished) (hok : ∀ r, r ∈ a → r.Advisory.length ≤ maxLen) (hlen : a.length ≤ 2000) (k : Seen → Option Int) (g : List TPublished → Int → Seen → Option Int) (nm : List UInt8 → Option Bool) (dy : Int → Option Bool)
  (upd : Seen → TPublished → Seen) (hn : ∀ s : List UInt8, s.length ≤ maxLen → nm s = some (name s)) (hd : ∀ n, dy n = some (decide (0 ≤ n ∧ n ≤ 1000000)))
  (h0 : ∀ n m, g [] n m = k m) (h1 : ∀ x l n m, g (x :: l) n m = (nm x.Advisory).bind fun y => if (!y) = true then some 8
   else if (decide (n > 0)) = true then (idx a (w64 (n - 1))).bind fun q => if (Op.bytesLess x.Advisory q.Advisory || x.Advisory == q.Advisory) = true then some 10
    else (dy x.Day).bind fun y => if (!y) = true then some 9 else if (x.Ended != (-1)) = true then if (decide (x.Ended < x.Day)) = true then some 9 else if (decide (x.Ended > 1000000)) = true then some 9 else g l (n + 1) (upd m x) else g l (n + 1) (upd m x)
   else (dy x.Day).bind fun y => if (!y) = true then some 9 else if (x.Ended != (-1)) = true then if (decide (x.Ended < x.Day)) = true then some 9 else if (decide (x.Ended > 1000000)) = true then some 9 else g l (n + 1) (upd m x) else g l (n + 1) (upd m x)) :
  ∀ (l : List TPublished) (n : Nat) (m : Seen), a.drop n = l → g l n m = orr (knE (if n = 0 then none else a[n - 1]?) l) (k (l.foldl upd m))
 | [], n, m, _ => by rw [h0]; rfl
 | x :: l, n, m, h => by
  obtain ⟨hn', hx, hl⟩ := drop_at h
  have hok' := hok x (by rw [← hx]; exact List.getElem_mem _)
  have e : ((n : Int) + 1) = ((n + 1 : Nat) : Int) := rfl
  rw [h1, hn _ hok', Option.bind_some, hd, Option.bind_some, e, knE_code a hok hlen k g nm dy upd hn hd h0 h1 l (n + 1) _ hl, prev_eq hn' hx]
  simp only [knE, List.foldl_cons]
  cases name x.Advisory
  ·rfl
  simp only [Bool.not_true, Bool.false_eq_true, if_false]
  have fin : (if (!decide (0 ≤ x.Day ∧ x.Day ≤ 1000000)) = true then some 9 else if (x.Ended != (-1)) = true then if (decide (x.Ended < x.Day)) = true then some 9 else if (decide (x.Ended > 1000000)) = true then some 9 else orr (knE (some x) l) (k (l.foldl upd (upd m x))) else orr (knE (some x) l) (k (l.foldl upd (upd m x)))) =
    orr (if (!decide (0 ≤ x.Day ∧ x.Day ≤ 1000000)) = true then 9 else if x.Ended ≠ -1 ∧ (x.Ended < x.Day ∨ 1000000 < x.Ended) then 9 else knE (some x) l) (k (l.foldl upd (upd m x))) := by
   by_cases h5 : (!decide (0 ≤ x.Day ∧ x.Day ≤ 1000000)) = true
   ·rw [if_pos h5, if_pos h5]; rfl
   rw [if_neg h5, if_neg h5]
   by_cases h6 : x.Ended = -1
   ·rw [if_neg (by simp [h6]), if_neg (by simp [h6])]
   rw [if_pos (by simpa using h6)]
   by_cases h7 : x.Ended < x.Day
   ·rw [if_t h7, if_pos ⟨h6, .inl h7⟩]; rfl
   rw [if_f h7]
   by_cases h8 : x.Ended > 1000000
   ·rw [if_t h8, if_pos ⟨h6, .inr h8⟩]; rfl
   rw [if_f h8, if_neg (by omega)]
  by_cases h6 : n = 0
  ·subst h6
   rw [if_f (by simp)]
   simpa using fin
  ·rw [if_t (by omega : (n : Int) > 0), if_neg h6, prev_idx hn' h6 (by omega), List.getElem?_eq_getElem (show n - 1 < a.length by omega), Option.bind_some]
   simp only [Option.any_some]
   have hb := bl_gt x.Advisory a[n - 1].Advisory
   by_cases h7 : Op.bytesLess a[n - 1].Advisory x.Advisory = true
   ·rw [if_neg (show ¬ (!Op.bytesLess a[n - 1].Advisory x.Advisory) = true by simp [h7]), if_neg (show ¬ (Op.bytesLess x.Advisory a[n - 1].Advisory || x.Advisory == a[n - 1].Advisory) = true by
     intro e; rw [e, h7] at hb; simp at hb)]
    exact fin
   ·rw [if_pos (show (!Op.bytesLess a[n - 1].Advisory x.Advisory) = true by simpa using h7), if_pos (show (Op.bytesLess x.Advisory a[n - 1].Advisory || x.Advisory == a[n - 1].Advisory) = true by
     rw [Bool.eq_false_iff.2 h7] at hb
     simpa using congrArg (!·) hb)]
    rfl
theorem M32_eq (F : Nat) (s : TStory) (h : okSt s) (hl : s.Releases.length ≤ 500) : M32 F s = some (relE s.Until none [] s.Releases) := by
 unfold M32
 rw [jn_def]
 have := relE_code s.Releases s.Until h.rl hl (some 0) (M32_L1 F s (some 0)) (M30 F) (M50 F) (M30_eq F) (M50_eq F) (fun _ _ => rfl) (fun x l n m => by rw [M32_L1]; simp only [jn_def]) s.Releases 0 [] rfl
 exact this.trans (orr_s _)
theorem anyX {β : Type} {k : Option β} {f : β} {g : List TExposure → Option β} (p : TExposure → Bool) (h0 : g [] = k) (h1 : ∀ x l, g (x :: l) = if (!p x) = true then some f else g l) : ∀ l, g l = if l.all p = true then k else some f
 | [] => by simp [h0]
 | x :: l => by
  rw [h1, anyX p h0 h1 l, List.all_cons]
  by_cases hx : p x = true
  ·rw [if_neg (by simp [hx]), hx, Bool.true_and]
  ·rw [if_pos (by simpa using hx), if_neg (by simp [hx])]
theorem allX {β : Type} {k : Option β} {f : β} {g : List TRelease → Option β} (p : TExposure → Bool) (h0 : g [] = k) (h1 : ∀ x l, g (x :: l) = if x.Exposures.all p = true then g l else some f) : ∀ l, g l = if (l.all fun r => r.Exposures.all p) = true then k else some f
 | [] => by simp [h0]
 | x :: l => by
  rw [h1, allX p h0 h1 l, List.all_cons]
  by_cases hx : x.Exposures.all p = true
  ·rw [if_pos hx, hx, Bool.true_and]
  ·rw [if_neg hx, if_neg (by simp [hx])]
theorem marks_fold : ∀ (l : List TPublished) (m : Seen), l.foldl (fun m x => mput m x.Advisory true) m = marks m l
 | [], m => rfl
 | x :: l, m => marks_fold l _
theorem M14_eq (F : Nat) (s : TStory) (h : okSt s) : M14 F s = some (chk s) := by
 unfold M14 chk
 rw [M30_eq F _ h.pr, isDay_b, Option.bind_some, Option.bind_some]
 by_cases h1 : (!name s.Product) = true
 ·rw [if_pos h1, if_pos h1]
 rw [if_neg h1, if_neg h1]
 by_cases h2 : (!decide (0 ≤ s.Until ∧ s.Until ≤ 1000000)) = true
 ·rw [if_pos h2, if_pos h2]
 rw [if_neg h2, if_neg h2]
 by_cases h3 : s.Releases.length > 500
 ·rw [if_t (by omega), if_pos h3]
 rw [if_f (by omega), if_neg h3]
 by_cases h4 : s.Known.length > 2000
 ·rw [if_t (by omega), if_pos h4]
 rw [if_f (by omega), if_neg h4, M32_eq F s h (by omega), Option.bind_some]
 by_cases h5 : relE s.Until none [] s.Releases = 0
 ·rw [if_neg (by simp [h5]), if_neg (by simp [h5]), jn_def]
  have := fun k => knE_code s.Known h.kn (by omega) k (M14_L1 F s k) (M30 F) (M31 F) (fun m x => mput m x.Advisory true) (M30_eq F) (fun n => isDay_b n F) (fun _ _ => rfl) (fun x l n m => by
   rw [M14_L1]; simp only [jn_def]) s.Known 0 [] rfl
  have := fun k => (show M14_L1 F s k s.Known 0 [] = _ from this k)
  rw [this, if_pos rfl]
  by_cases h6 : knE none s.Known = 0
  ·rw [if_neg (by simp [h6]), h6, orr_0, jn_def, marks_fold]
   rw [allX (g := M14_L2 F (marks [] s.Known) (some 0)) (k := some 0) (f := 4) (fun x => (mget (marks [] s.Known) x.Advisory).getD false) rfl (fun r l => by
    rw [M14_L2]
    simp only [jn_def]
    rw [anyX (g := M14_L3 F (marks [] s.Known) _) (f := 4) (fun x => (mget (marks [] s.Known) x.Advisory).getD false) rfl (fun x l => by rw [M14_L3])]
    rfl)]
   unfold allKn
   split <;> rfl
  ·rw [if_pos h6]; unfold orr; rw [if_neg h6]
 ·rw [if_pos (by simpa using h5), if_pos h5]
theorem M16_eq (F : Nat) (s : TStory) (h : okSt s) : M16 F s = some (chk s) := by
 unfold M16 chk
 rw [M35_eq F _ h.pr, isDay_b', Option.bind_some, Option.bind_some]
 by_cases h1 : (!name s.Product) = true
 ·rw [if_pos h1, if_pos h1]
 rw [if_neg h1, if_neg h1]
 by_cases h2 : (!decide (0 ≤ s.Until ∧ s.Until ≤ 1000000)) = true
 ·rw [if_pos h2, if_pos h2]
 rw [if_neg h2, if_neg h2]
 by_cases h3 : s.Releases.length > 500
 ·rw [if_t (by omega), if_pos h3]
 rw [if_f (by omega), if_neg h3]
 by_cases h4 : s.Known.length > 2000
 ·rw [if_t (by omega), if_pos h4]
 rw [if_f (by omega), if_neg h4, jn_def]
 have hr := fun k => relE_code s.Releases s.Until h.rl (by omega) k (M16_L1 F s k) (M35 F) (M37 F) (M35_eq F) (M37_eq F) (fun _ _ => rfl) (fun x l n m => by rw [M16_L1]; simp only [jn_def]) s.Releases 0 [] rfl
 have hr := fun k => (show M16_L1 F s k s.Releases 0 [] = _ from hr k)
 rw [hr, if_pos rfl]
 by_cases h5 : relE s.Until none [] s.Releases = 0
 ·rw [if_neg (by simp [h5]), h5, orr_0]
  have hk : M38 F s.Known = some (knE none s.Known) := by
   unfold M38
   rw [jn_def]
   have := knE_code s.Known h.kn (by omega) (fun _ => some 0) (fun l n _ => M38_L1 F s.Known (some 0) l n) (M35 F) (M36 F) (fun m _ => m) (M35_eq F) (fun n => isDay_b' n F) (fun _ _ => rfl) (fun x l n m => by
    rw [M38_L1]; simp only [jn_def]) s.Known 0 [] rfl
   exact this.trans (orr_s _)
  rw [hk, Option.bind_some]
  by_cases h6 : knE none s.Known = 0
  ·rw [if_neg (by simp [h6]), if_neg (by simp [h6]), jn_def]
   have hm : ∀ (k : Seen → Option Int) (l : List TPublished) (m : Seen), M16_L2 F k l m = k (marks m l) := by
    intro k l
    induction l with
    | nil => intro m; rfl
    | cons x l ih => intro m; rw [M16_L2, ih]; rfl
   rw [hm, jn_def]
   rw [allX (g := M16_L3 F (marks [] s.Known) (some 0)) (k := some 0) (f := 4) (fun x => (mget (marks [] s.Known) x.Advisory).getD false) rfl (fun r l => by
    rw [M16_L3]
    simp only [jn_def]
    rw [anyX (g := M16_L4 F (marks [] s.Known) _) (f := 4) (fun x => (mget (marks [] s.Known) x.Advisory).getD false) rfl (fun x l => by rw [M16_L4])]
    rfl)]
   unfold allKn
   split <;> rfl
  ·rw [if_pos (by simpa using h6), if_pos h6]
 ·rw [if_pos h5]; unfold orr; rw [if_neg h5]
theorem relE_zero {u : Int} : ∀ {l : List TRelease} {p : Option TRelease} {m : Seen}, relE u p m l = 0 → (∀ q, p = some q → ∀ x, x ∈ l → q.Day < x.Day) ∧ l.Pairwise (fun a b => a.Day < b.Day) ∧
  (∀ x, x ∈ l → name x.Version = true ∧ 0 ≤ x.Day ∧ x.Day ≤ u ∧ exps x.Exposures = 0 ∧ (mget m x.Version).getD false = false) ∧ l.Pairwise (fun a b => a.Version ≠ b.Version)
 | [], p, m, _ => by simp
 | x :: l, p, m, h => by
  simp only [relE] at h
  split at h
  ·simp at h
  rename_i h1
  split at h
  ·simp at h
  rename_i h2
  split at h
  ·simp at h
  rename_i h3
  split at h
  ·simp at h
  rename_i h4
  split at h
  ·rename_i h5; exact absurd h h5
  rename_i h5
  obtain ⟨g1, g2, g3, g4⟩ := relE_zero h
  have hq : ∀ q, p = some q → q.Day < x.Day := by
   intro q e; subst e; simpa using h4
  refine ⟨fun q e y hy => ?_, List.pairwise_cons.2 ⟨fun y hy => g1 x rfl y hy, g2⟩, fun y hy => ?_, List.pairwise_cons.2 ⟨fun y hy e => ?_, g4⟩⟩
  ·rcases List.mem_cons.1 hy with rfl | hy
   ·exact hq q e
   ·exact Int.lt_trans (hq q e) (g1 x rfl y hy)
  ·rcases List.mem_cons.1 hy with rfl | hy
   ·exact ⟨by simpa using h1, by omega, by omega, by simpa using h5, by simpa using h2⟩
   ·obtain ⟨k1, k2, k3, k4, k5⟩ := g3 y hy
    refine ⟨k1, k2, k3, k4, ?_⟩
    rw [mget_mput] at k5
    split at k5
    ·simp at k5
    ·exact k5
  ·have := (g3 y hy).2.2.2.2
   rw [mget_mput, if_pos e] at this
   simp at this
theorem knE_zero : ∀ {l : List TPublished} {p : Option TPublished}, knE p l = 0 → (∀ q, p = some q → ∀ x, x ∈ l → Op.bytesLess q.Advisory x.Advisory = true) ∧ l.Pairwise (fun a b => Op.bytesLess a.Advisory b.Advisory = true) ∧
  ∀ x, x ∈ l → name x.Advisory = true ∧ 0 ≤ x.Day ∧ x.Day ≤ 1000000 ∧ (x.Ended = -1 ∨ x.Day ≤ x.Ended ∧ x.Ended ≤ 1000000)
 | [], p, _ => by simp
 | x :: l, p, h => by
  simp only [knE] at h
  split at h
  ·simp at h
  rename_i h1
  split at h
  ·simp at h
  rename_i h2
  split at h
  ·simp at h
  rename_i h3
  split at h
  ·simp at h
  rename_i h4
  obtain ⟨g1, g2, g3⟩ := knE_zero h
  have hq : ∀ q, p = some q → Op.bytesLess q.Advisory x.Advisory = true := by
   intro q e; subst e; simpa using h2
  refine ⟨fun q e y hy => ?_, List.pairwise_cons.2 ⟨fun y hy => g1 x rfl y hy, g2⟩, fun y hy => ?_⟩
  ·rcases List.mem_cons.1 hy with rfl | hy
   ·exact hq q e
   ·exact bl_trans (hq q e) (g1 x rfl y hy)
  ·rcases List.mem_cons.1 hy with rfl | hy
   ·simp at h1 h3; exact ⟨h1, by omega, by omega, by omega⟩
   ·exact g3 y hy
theorem marks_mget (a : List UInt8) : ∀ (l : List TPublished) (m : Seen), (mget (marks m l) a).getD false = ((mget m a).getD false || l.any (fun k => k.Advisory == a))
 | [], m => by simp [marks]
 | x :: l, m => by
  rw [marks, marks_mget a l, mget_mput]
  by_cases h : x.Advisory = a
  ·simp [h]
  ·have : (x.Advisory == a) = false := by simpa using h
   simp [h, this]
structure RightS (s : TStory) : Prop where
 pr : name s.Product = true
 unt : 0 ≤ s.Until ∧ s.Until ≤ 1000000
 rlen : s.Releases.length ≤ 500
 klen : s.Known.length ≤ 2000
 days : s.Releases.Pairwise (fun a b => a.Day < b.Day)
 vers : s.Releases.Pairwise (fun a b => a.Version ≠ b.Version)
 rel : ∀ r, r ∈ s.Releases → name r.Version = true ∧ 0 ≤ r.Day ∧ r.Day ≤ s.Until ∧ exps r.Exposures = 0
 known : s.Known.Pairwise (fun a b => Op.bytesLess a.Advisory b.Advisory = true)
 kn : ∀ k, k ∈ s.Known → name k.Advisory = true ∧ 0 ≤ k.Day ∧ k.Day ≤ 1000000 ∧ (k.Ended = -1 ∨ k.Day ≤ k.Ended ∧ k.Ended ≤ 1000000)
 all : ∀ r, r ∈ s.Releases → ∀ x, x ∈ r.Exposures → ∃ k, k ∈ s.Known ∧ k.Advisory = x.Advisory
theorem right_of_chk {s : TStory} (h : chk s = 0) : RightS s := by
 unfold chk at h
 split at h
 ·simp at h
 rename_i h1
 split at h
 ·simp at h
 rename_i h2
 split at h
 ·simp at h
 rename_i h3
 split at h
 ·simp at h
 rename_i h4
 split at h
 ·rename_i h5; exact absurd h h5
 rename_i h5
 split at h
 ·rename_i h6; exact absurd h h6
 rename_i h6
 split at h
 ·rename_i h7
  have h5 : relE s.Until none [] s.Releases = 0 := by simpa using h5
  have h6 : knE none s.Known = 0 := by simpa using h6
  obtain ⟨_, r2, r3, r4⟩ := relE_zero h5
  obtain ⟨_, k2, k3⟩ := knE_zero h6
  refine ⟨by simpa using h1, by simpa using h2, Nat.le_of_not_lt h3, Nat.le_of_not_lt h4, r2, r4, fun r hr => ⟨(r3 r hr).1, (r3 r hr).2.1, (r3 r hr).2.2.1, (r3 r hr).2.2.2.1⟩, k2, k3, fun r hr x hx => ?_⟩
  unfold allKn at h7
  rw [List.all_eq_true] at h7
  have := List.all_eq_true.1 (h7 r hr) x hx
  rw [marks_mget] at this
  simp only [mget, Option.getD_none, Bool.false_or, List.any_eq_true, beq_iff_eq] at this
  exact this
 ·simp at h
theorem M18_eq (F : Nat) (a b : TRelease) : M18 F a b = some (decide (a = b)) := by
 unfold M18
 rw [M39_eq, Option.bind_some]
 obtain ⟨v, d, e⟩ := a
 obtain ⟨v', d', e'⟩ := b
 simp only [TRelease.mk.injEq]
 by_cases h1 : v = v'
 ·rw [if_pos (by simp [h1])]
  by_cases h2 : d = d'
  ·rw [if_pos (by simp [h2])]; simp [h1, h2]
  ·rw [if_neg (by simpa using h2)]; simp [h2]
 ·rw [if_neg (by simpa using h1)]; simp [h1]
def wrd (s : List UInt8) : Bool := s.all vis && !s.isEmpty
def dig (c : UInt8) : Bool := decide (48 ≤ c.toNat) && decide (c.toNat ≤ 57)
def decZ (o : Option Nat) : Int × Bool := match o with | some n => ((n : Int), true) | none => (0, false)
def num (s : List UInt8) : Int × Bool := if s = [] ∨ 7 < s.length ∨ (1 < s.length ∧ s.head? = some 48) then (0, false) else decZ (Lib.decFrom 0 s)
theorem digitVal_dig {c : UInt8} : Lib.digitVal c = if dig c = true then some (c.toNat - 48) else none := by
 unfold Lib.digitVal dig
 by_cases h : 48 ≤ c.toNat ∧ c.toNat ≤ 57
 ·rw [if_pos h, if_pos (by simp [h])]
 ·rw [if_neg h, if_neg (by simpa using h)]
theorem decFrom_dig : ∀ (l : List UInt8) (acc : Nat), (Lib.decFrom acc l).isSome = l.all dig
 | [], acc => rfl
 | c :: r, acc => by
  unfold Lib.decFrom
  rw [digitVal_dig, List.all_cons]
  by_cases h : dig c = true
  ·rw [if_pos h, h]; exact decFrom_dig r _
  ·rw [if_neg h]; simp at h; simp [h]
theorem isDig_t {c : UInt8} (h1 : ¬ c.toNat < 48) (h2 : ¬ c.toNat > 57) : dig c = true := by simp [dig]; omega
theorem atoi_dec {s : List UInt8} (h0 : s ≠ []) (h : s.all dig = true) : Lib.atoi s = (Lib.decFrom 0 s).map fun (m : Nat) => (m : Int) := by
 cases s with
 | nil => simp at h0
 | cons b r =>
  rw [List.all_cons, Bool.and_eq_true] at h
  have hb := h.1
  have h1 : ¬ (b == 45) = true := by intro e; rw [beq_iff_eq] at e; subst e; revert hb; decide
  have h2 : ¬ (b == 43) = true := by intro e; rw [beq_iff_eq] at e; subst e; revert hb; decide
  simp only [Lib.atoi, if_neg h1, if_neg h2]
  rfl
theorem digL {R : Type} {g : Nat → Int → Option R} {k f : Option R} (s : List UInt8) (h0 : ∀ n, g 0 n = k) (h1 : ∀ m n, g (m + 1) n = (idx s n).bind fun c12 => if (decide ((c12.toNat : Int) < 48)) = true then f else (idx s n).bind fun c15 => if (decide ((c15.toNat : Int) > 57)) = true then f else g m (n + 1)) :
  ∀ (m j : Nat), m + j = s.length → g m (j : Int) = if (s.drop j).all dig = true then k else f
 | 0, j, h => by rw [h0, List.drop_of_length_le (by omega)]; rfl
 | m + 1, j, h => by
  have hj : j < s.length := by omega
  rw [h1, idx_nat hj, Option.bind_some, Option.bind_some, List.drop_eq_getElem_cons hj, List.all_cons]
  by_cases a1 : s[j].toNat < 48
  ·rw [if_t (by omega), if_neg]; simp [dig]; omega
  ·rw [if_f (by omega)]
   by_cases a2 : s[j].toNat > 57
   ·rw [if_t (by omega), if_neg]; simp [dig]; omega
   ·rw [if_f (by omega), isDig_t a1 a2, Bool.true_and]
    have := digL s h0 h1 m (j + 1) (by omega)
    rw [← this]
    norm_cast
theorem atoi_num {F : Nat} {s : List UInt8} (h0 : s ≠ []) (h7 : ¬ 7 < s.length) (h : s.all dig = true) : (M49 F s).bind (fun y19 => some ((y19.1), true)) = some (decZ (Lib.decFrom 0 s)) := by
 unfold M49
 rw [atoi_dec h0 h]
 have := decFrom_dig s 0
 rw [h] at this
 obtain ⟨n, hn⟩ := Option.isSome_iff_exists.1 this
 rw [hn]
 simp only [Option.map_some]
 rw [if_pos (by omega)]
 rfl
theorem dec_none {s : List UInt8} (h : ¬ s.all dig = true) : decZ (Lib.decFrom 0 s) = (0, false) := by
 have := decFrom_dig s 0
 cases hd : Lib.decFrom 0 s with
 | none => rfl
 | some n => rw [hd] at this; exact absurd this.symm h
theorem M29_eq (F : Nat) (s : List UInt8) : M29 F s = some (num s) := by
 unfold M29 num
 by_cases h0 : s = []
 ·subst h0; rfl
 rw [if_neg (by simpa using h0)]
 by_cases h7 : 7 < s.length
 ·rw [if_t (by omega), if_pos (.inr (.inl h7))]
 rw [if_f (by omega)]
 have hl : (s.length : Int) ≤ 9223372036854775807 := by omega
 have key : ∀ g : Nat → Int → Option (Int × Bool), (∀ (m j : Nat), m + j = s.length → g m (j : Int) = if (s.drop j).all dig = true then (M49 F s).bind (fun y19 => some ((y19.1), true)) else some (0, false)) →
   (if (s.length : Int) ≤ 9223372036854775807 then g (((s.length : Int) : Int).toNat) 0 else none) = some (decZ (Lib.decFrom 0 s)) := by
  intro g hg
  rw [if_pos hl, Int.toNat_natCast]
  have := hg s.length 0 (by omega)
  rw [show ((0 : Nat) : Int) = 0 from rfl] at this
  rw [this, List.drop_zero]
  by_cases hd : s.all dig = true
  ·rw [if_pos hd, atoi_num h0 h7 hd]
  ·rw [if_neg hd, dec_none hd]
 by_cases h1 : 1 < s.length
 ·rw [if_t (by omega)]
  obtain ⟨b, r, rfl⟩ := List.exists_cons_of_ne_nil h0
  rw [show idx (b :: r) 0 = some b from rfl, Option.bind_some]
  by_cases hb : b = 48
  ·subst hb
   rw [if_pos (by decide), if_pos (.inr (.inr ⟨h1, rfl⟩))]
  ·have hb' : ¬ b.toNat = 48 := fun e => hb (UInt8.toNat_inj.1 (by rw [e]; rfl))
   rw [if_neg (fun e => hb' (by rw [beq_iff_eq] at e; omega)), if_neg (by rintro (h | h | ⟨_, h⟩); exact h0 h; exact h7 h; simp at h; exact hb h)]
   rw [jn_def]
   exact key _ (digL _ (fun _ => rfl) (fun m n => by rw [M29_L1]))
 ·rw [if_f (by omega), if_neg (by simp [h0]; omega)]
  rw [jn_def]
  exact key _ (digL _ (fun _ => rfl) (fun m n => by rw [M29_L2]))
theorem num_word {s : List UInt8} (h : (num s).2 = true) : wrd s = true := by
 unfold num at h
 split at h
 ·simp at h
 ·rename_i h0
  have h0 : s ≠ [] := fun e => h0 (.inl e)
  have hs : (Lib.decFrom 0 s).isSome = true := by
   unfold decZ at h
   cases hd : Lib.decFrom 0 s with
   | none => rw [hd] at h; simp at h
   | some n => rfl
  rw [decFrom_dig] at hs
  unfold wrd
  have hv : s.all vis = true := by
   rw [List.all_eq_true] at hs ⊢
   intro c hc
   have := hs c hc
   simp [dig] at this
   simp [vis]; omega
  rw [hv]
  cases s <;> simp at h0 ⊢
def nums : List (List UInt8) → Option (List Int)
 | [] => some []
 | x :: r => if (num x).2 = true then (nums r).map ((num x).1 :: ·) else none
def numsK (n : Nat) (l : List (List UInt8)) : Option (List Int) := if (l.take n).all wrd = true then nums (l.drop n) else none
def pairO (o : Option (List Int)) : List Int × Bool := match o with | some l => (l, true) | none => ([], false)
theorem nums_len : ∀ {l : List (List UInt8)} {r : List Int}, nums l = some r → r.length = l.length
 | [], r, h => by simp [nums] at h; subst h; rfl
 | x :: l, r, h => by
  unfold nums at h
  split at h
  ·obtain ⟨r', h1, rfl⟩ := Option.map_eq_some_iff.1 h
   simp [nums_len h1]
  ·simp at h
theorem L13_1 (F : Nat) (n : Nat) (hn : n ≤ 100) (k3 : List Int → Option (List Int × Bool)) (hk : ∀ l, k3 l = some (l, true)) : ∀ (l : List (List UInt8)) (j : Nat) (acc : List Int), n ≤ j → acc.length + l.length ≤ 10000000 → (∀ x, x ∈ l → x.length ≤ maxLen) →
  M13_L1 F (n : Int) k3 l (j : Int) acc = some (pairO ((nums l).map (acc ++ ·)))
 | [], j, acc, _, _, _ => by rw [M13_L1, hk]; simp [nums, pairO]
 | x :: l, j, acc, hj, hb, hx => by
  rw [M13_L1, jn_def, if_f (by omega), M29_eq, Option.bind_some]
  unfold nums
  by_cases h : (num x).2 = true
  ·rw [if_neg (by simp [h]), if_pos h, if_pos (by simp at hb ⊢; omega)]
   show M13_L1 F (n : Int) k3 l ((j : Int) + 1) (acc ++ [(num x).1]) = _
   have := L13_1 F n hn k3 hk l (j + 1) (acc ++ [(num x).1]) (by omega) (by simp at hb ⊢; omega) (fun y hy => hx y (List.mem_cons_of_mem _ hy))
   rw [show ((j : Int) + 1) = ((j + 1 : Nat) : Int) by omega, this]
   cases nums l <;> simp [pairO]
  ·rw [if_pos (by simpa using h), if_neg h]; rfl
theorem M13_L1_names (F : Nat) (n : Nat) (hn : n ≤ 100) (k3 : List Int → Option (List Int × Bool)) (hk : ∀ l, k3 l = some (l, true)) : ∀ (l : List (List UInt8)) (j : Nat), j ≤ n → l.length ≤ 10000000 → (∀ x, x ∈ l → x.length ≤ maxLen) →
  M13_L1 F (n : Int) k3 l (j : Int) [] = some (pairO (numsK (n - j) l))
 | [], j, hj, _, _ => by rw [M13_L1, hk]; simp [numsK, nums, pairO]
 | x :: l, j, hj, hb, hx => by
  by_cases e : j = n
  ·subst e
   rw [L13_1 F j hn k3 hk (x :: l) j [] (Nat.le_refl _) (by simpa using hb) hx]
   simp [numsK]
  ·rw [M13_L1, jn_def, if_t (by omega), M28_eq F x (hx x (List.mem_cons_self ..)), Option.bind_some]
   obtain ⟨q, hq⟩ : ∃ q, n - j = q + 1 := ⟨n - j - 1, by omega⟩
   rw [hq]
   unfold numsK
   rw [List.take_succ_cons, List.drop_succ_cons, List.all_cons]
   by_cases h : (x.all vis && !x.isEmpty) = true
   ·rw [if_neg (by rw [h]; decide)]
    show M13_L1 F (n : Int) k3 l ((j : Int) + 1) [] = _
    have := M13_L1_names F n hn k3 hk l (j + 1) (by omega) (by simp at hb; omega) (fun y hy => hx y (List.mem_cons_of_mem _ hy))
    rw [show ((j : Int) + 1) = ((j + 1 : Nat) : Int) by omega, this, show n - (j + 1) = q by omega]
    unfold numsK
    rw [show wrd x = true from h, Bool.true_and]
   ·rw [if_pos (by rw [Bool.eq_false_iff.2 h]; rfl), if_neg]
    ·rfl
    ·rw [show wrd x = false from Bool.eq_false_iff.2 h]; simp
theorem M13_eq (F : Nat) (l : List (List UInt8)) (n : Nat) (hn : n ≤ 100) (hl : l.length ≤ 10000000) (hx : ∀ x, x ∈ l → x.length ≤ maxLen) : M13 F l (n : Int) = some (pairO (numsK n l)) := by
 unfold M13
 rw [jn_def]
 exact M13_L1_names F n hn _ (fun _ => rfl) l 0 (Nat.zero_le _) hl hx
abbrev wREL : List UInt8 := [114, 101, 108, 101, 97, 115, 101]
abbrev wHAS : List UInt8 := [104, 97, 115]
abbrev wKNO : List UInt8 := [107, 110, 111, 119, 110]
abbrev wSTO : List UInt8 := [115, 116, 111, 114, 121]
def addX (R : List TRelease) (x : TExposure) : List TRelease := match R[R.length - 1]? with | some r => R.set (R.length - 1) { r with Exposures := r.Exposures ++ [x] } | none => R
def knS (t : List (List UInt8)) : Option TPublished :=
 match t with
 | [a, b] => if wrd a = true ∧ (num b).2 = true then some ⟨a, (num b).1, -1⟩ else none
 | [a, b, c] => if wrd a = true ∧ (num b).2 = true ∧ (num c).2 = true then some ⟨a, (num b).1, (num c).1⟩ else none
 | _ => none
def lineS (p : List (List UInt8)) (R : List TRelease) (K : List TPublished) : Option (List TRelease × List TPublished) :=
 match p with
 | [] => none
 | w :: t =>
  if w = wREL then (match t with | [v, d] => if K = [] ∧ wrd v = true ∧ (num d).2 = true then some (R ++ [⟨v, (num d).1, []⟩], K) else none | _ => none)
  else if w = wHAS then (match t with | [a, b, c] => if K = [] ∧ R ≠ [] ∧ wrd a = true ∧ wrd b = true ∧ (num c).2 = true then some (addX R ⟨a, b, (num c).1⟩, K) else none | _ => none)
  else if w = wKNO then (knS t).map fun k => (R, K ++ [k])
  else none
theorem M27_eq (F : Nat) (t : List (List UInt8)) (s : List UInt8) (n : Int) (R : List TRelease) (K : List TPublished) (hl : t.length ≤ 10000000) (hx : ∀ x, x ∈ t → x.length ≤ maxLen) (hK : K.length ≤ 10000000) :
  M27 F t s n R K = some (match knS t with | some k => (true, K ++ [k]) | none => (false, K)) := by
 have hb : ∀ y : TPublished, (K ++ [y]).length * 32 ≤ 140737488355328 := fun y => by simp; omega
 unfold M27
 rw [show M13 F t 1 = some (pairO (numsK 1 t)) from M13_eq F t 1 (by decide) hl hx, Option.bind_some]
 match t with
 | [] => simp [numsK, nums, pairO, knS]
 | [a] => by_cases ha : wrd a = true <;> simp [numsK, nums, pairO, knS, ha]
 | [a, b] =>
  by_cases ha : wrd a = true <;> by_cases h2 : (num b).2 = true <;> simp [numsK, nums, pairO, knS, ha, h2, idx, jn_def, hb]
  all_goals omega
 | [a, b, c] =>
  by_cases ha : wrd a = true <;> by_cases h2 : (num b).2 = true <;> by_cases h3 : (num c).2 = true <;> simp [numsK, nums, pairO, knS, ha, h2, h3, idx, jn_def, hb]
  all_goals omega
 | a :: b :: c :: d :: r =>
  have : knS (a :: b :: c :: d :: r) = none := rfl
  rw [this]
  cases hn : numsK 1 (a :: b :: c :: d :: r) with
  | none => simp [pairO]
  | some l =>
   have hlen : l.length = r.length + 3 := by
    unfold numsK at hn
    split at hn
    ·have := nums_len hn; simpa using this
    ·simp at hn
   have e : pairO (some l) = (l, true) := rfl
   rw [e]
   have h1 : decide (((l.length : Nat) : Int) < 1) = false := decide_eq_false (by omega)
   have h2 : decide (((l.length : Nat) : Int) > 2) = true := decide_eq_true (by omega)
   simp [h1, h2]
theorem idx_cons {α : Type} (w : α) (t : List α) : idx (w :: t) 0 = some w := rfl
theorem M12_eq (F : Nat) (w : List UInt8) (t : List (List UInt8)) (s : List UInt8) (n : Int) (R : List TRelease) (K : List TPublished) (hl : t.length ≤ 10000000) (hx : ∀ x, x ∈ t → x.length ≤ maxLen) (hK : K.length ≤ 1000000)
  (hR : R.length ≤ 1000000) (hE : ∀ r, r ∈ R → r.Exposures.length ≤ 1000000) :
  M12 F (w :: t) s n R K = some (match lineS (w :: t) R K with | some (R', K') => (true, R', K') | none => (false, R, K)) := by
 have hb1 : ∀ y : TRelease, (R ++ [y]).length * 48 ≤ 140737488355328 := fun y => by simp; omega
 have hk0 : (((K.length : Nat) : Int) == 0) = decide (K = []) := by cases K <;> simp; omega
 have hr0 : decide (((R.length : Nat) : Int) > 0) = decide (R ≠ []) := by cases R <;> simp
 have h27 := M27_eq F t s n R K hl hx (by omega)
 have h131 : M13 F t 1 = some (pairO (numsK 1 t)) := M13_eq F t 1 (by decide) hl hx
 have h132 : M13 F t 2 = some (pairO (numsK 2 t)) := M13_eq F t 2 (by decide) hl hx
 unfold M12 lineS
 simp only [jn_def, idx_cons, Option.bind_some, hk0, hr0, List.drop_succ_cons, List.drop_zero]
 by_cases w1 : w = wREL
 ·subst w1
  simp [wREL, wHAS, wKNO]
  have hb : (R.length + 1) * 48 ≤ 140737488355328 := by omega
  rcases t with _ | ⟨v, _ | ⟨d, _ | ⟨e, r⟩⟩⟩
  ·simp
  ·simp
  ·simp only [List.length_cons, List.length_nil]
   by_cases k0 : K = [] <;> by_cases hv : wrd v = true <;> by_cases hd : (num d).2 = true <;> simp [k0, h131, numsK, nums, pairO, hv, hd, idx, hb]
  ·have : ¬ ((((v :: d :: e :: r).length : Nat) : Int) + 1 = 3) := by simp; omega
   rw [if_neg this]
 ·by_cases w2 : w = wHAS
  ·subst w2
   simp [wREL, wHAS, wKNO]
   rcases t with _ | ⟨v, _ | ⟨d, _ | ⟨e, _ | ⟨f, r⟩⟩⟩⟩
   ·simp
   ·simp
   ·simp
   ·simp only [List.length_cons, List.length_nil]
    by_cases k0 : K = []
    ·by_cases r0 : R = []
     ·simp [k0, r0]
     ·obtain ⟨x, h1, h2, h3⟩ : ∃ x, R[R.length - 1]? = some x ∧ idx R (w64 ((R.length : Int) - 1)) = some x ∧ (w64 ((R.length : Int) - 1)).toNat = R.length - 1 := by
       have hp : 0 < R.length := List.length_pos_iff.2 r0
       have e1 : w64 ((R.length : Int) - 1) = ((R.length - 1 : Nat) : Int) := by rw [w64_id (by omega) (by omega)]; omega
       refine ⟨R[R.length - 1], List.getElem?_eq_getElem (by omega), ?_, ?_⟩
       ·rw [e1, idx_nat (by omega)]
       ·rw [e1]; simp
      have hb : (x.Exposures.length + 1) * 40 ≤ 140737488355328 := by
       have := hE x (List.mem_of_getElem? h1)
       omega
      by_cases hv : wrd v = true <;> by_cases hd : wrd d = true <;> by_cases he : (num e).2 = true <;> simp [k0, r0, h132, numsK, nums, pairO, hv, hd, he, h2, h3, addX, h1, hb] <;> simp [idx, hb]
    ·simp [k0]
   ·have : ¬ ((((v :: d :: e :: f :: r).length : Nat) : Int) + 1 = 4) := by simp; omega
    rw [if_neg this]
  ·by_cases w3 : w = wKNO
   ·subst w3
    simp [wREL, wHAS, wKNO, h27]
    cases knS t <;> rfl
   ·simp [w1, w2, w3]
abbrev Sto := List UInt8 × Int × List TRelease × List TPublished
def takeS (first : Bool) (p : List (List UInt8)) (s : List UInt8) (n : Int) (R : List TRelease) (K : List TPublished) : Option Sto :=
 if first = true then (match p with | [w, v, d] => if w = wSTO ∧ wrd v = true ∧ (num d).2 = true then some (v, (num d).1, R, K) else none | _ => none)
 else (lineS p R K).map fun q => (s, n, q.1, q.2)
theorem splitK_ne (sep : List UInt8) : ∀ (k : Nat) (s : List UInt8), Lib.splitK sep 0 k s ≠ []
 | 0, s => by simp [Lib.splitK]
 | k + 1, s => by
  unfold Lib.splitK
  split <;> simp
theorem splitK_len (sep : List UInt8) : ∀ (k : Nat) (s : List UInt8), (Lib.splitK sep 0 k s).length ≤ k + 1
 | 0, s => by simp [Lib.splitK]
 | k + 1, s => by
  unfold Lib.splitK
  split
  ·simp
  ·have := splitK_len sep k (s.drop ((Lib.index s sep).toNat + sep.length))
   simp only [List.length_cons]; omega
theorem splitK_mem (sep : List UInt8) : ∀ (k : Nat) (s x : List UInt8), x ∈ Lib.splitK sep 0 k s → x.length ≤ s.length
 | 0, s, x, h => by simp [Lib.splitK] at h; subst h; omega
 | k + 1, s, x, h => by
  unfold Lib.splitK at h
  split at h
  ·simp at h; subst h; omega
  ·rcases List.mem_cons.1 h with rfl | h
   ·simp; omega
   ·have := splitK_mem sep k _ x h
    simp at this; omega
theorem split_ne (s sep : List UInt8) : Lib.split s sep ≠ [] := splitK_ne _ _ _
theorem split_len (s : List UInt8) (c : UInt8) : (Lib.split s [c]).length ≤ s.length + 1 := by
 have := splitK_len [c] (Lib.count s [c]) s
 rw [Lib.count_one] at this
 have h2 := List.count_le_length (a := c) (l := s)
 unfold Lib.split
 rw [Lib.count_one]
 omega
theorem split_mem {s sep x : List UInt8} (h : x ∈ Lib.split s sep) : x.length ≤ s.length := splitK_mem _ _ _ _ h
structure Inv (i : Nat) (q : Sto) : Prop where
 r : q.2.2.1.length ≤ i
 k : q.2.2.2.length ≤ i
 e : ∀ r, r ∈ q.2.2.1 → r.Exposures.length ≤ i ∧ r.Version.length ≤ maxLen ∧ okE r.Exposures
 a : ∀ x, x ∈ q.2.2.2 → x.Advisory.length ≤ maxLen
 p : q.1.length ≤ maxLen
theorem Inv.mono {i j : Nat} {q : Sto} (h : Inv i q) (hj : i ≤ j) : Inv j q := ⟨Nat.le_trans h.r hj, Nat.le_trans h.k hj, fun r hr => ⟨Nat.le_trans (h.e r hr).1 hj, (h.e r hr).2⟩, h.a, h.p⟩
theorem takeS_inv {i : Nat} {first : Bool} {p : List (List UInt8)} {q q' : Sto} (hx : ∀ x, x ∈ p → x.length ≤ maxLen) (h : Inv i q) (ht : takeS first p q.1 q.2.1 q.2.2.1 q.2.2.2 = some q') : Inv (i + 1) q' := by
 obtain ⟨s, n, R, K⟩ := q
 unfold takeS at ht
 cases first with
 | true =>
  rw [if_pos rfl] at ht
  split at ht
  ·split at ht
   ·simp only [Option.some.injEq] at ht
    subst ht
    have h' := h.mono (Nat.le_succ i)
    exact ⟨h'.r, h'.k, h'.e, h'.a, hx _ (by simp)⟩
   ·simp at ht
  ·simp at ht
 | false =>
  rw [if_neg (by decide)] at ht
  obtain ⟨y, hy, rfl⟩ := Option.map_eq_some_iff.1 ht
  cases p with
  | nil => simp [lineS] at hy
  | cons w t =>
   simp only [lineS] at hy
   have h' := h.mono (Nat.le_succ i)
   split at hy
   ·split at hy
    ·rename_i v d
     split at hy
     ·simp only [Option.some.injEq] at hy
      subst hy
      refine ⟨?_, h'.k, fun r hr => ?_, h'.a, h'.p⟩
      ·have := h.r; simp at this ⊢; omega
      ·rcases List.mem_append.1 hr with hr | hr
       ·exact h'.e r hr
       ·simp at hr; subst hr
        exact ⟨Nat.zero_le _, hx _ (by simp), fun x hx => by simp at hx⟩
     ·simp at hy
    ·simp at hy
   ·split at hy
    ·split at hy
     ·rename_i a b c
      split at hy
      ·simp only [Option.some.injEq] at hy
       subst hy
       have hl : (addX R ⟨a, b, (num c).1⟩).length = R.length := by unfold addX; split <;> simp
       refine ⟨by show (addX R _).length ≤ _; rw [hl]; exact h'.r, h'.k, fun r hr => ?_, h'.a, h'.p⟩
       have hr : r ∈ addX R ⟨a, b, (num c).1⟩ := hr
       unfold addX at hr
       split at hr
       ·rename_i r0 h0
        rcases List.mem_or_eq_of_mem_set hr with hr | hr
        ·exact h'.e r hr
        ·subst hr
         have e0 := h.e r0 (List.mem_of_getElem? h0)
         refine ⟨by have := e0.1; simp; omega, e0.2.1, fun x hxx => ?_⟩
         rcases List.mem_append.1 hxx with hxx | hxx
         ·exact e0.2.2 x hxx
         ·simp at hxx; subst hxx
          exact ⟨hx _ (by simp), hx _ (by simp)⟩
       ·exact h'.e r hr
      ·simp at hy
     ·simp at hy
    ·split at hy
     ·obtain ⟨k, hk, rfl⟩ := Option.map_eq_some_iff.1 hy
      refine ⟨h'.r, ?_, h'.e, fun x hxx => ?_, h'.p⟩
      ·have := h.k; simp at this ⊢; omega
      ·rcases List.mem_append.1 hxx with hxx | hxx
       ·exact h'.a x hxx
       ·simp at hxx; subst hxx
        unfold knS at hk
        split at hk <;> (try split at hk) <;> simp at hk
        all_goals subst hk; exact hx _ (by simp)
     ·simp at hy
def noSt : TStory := TStory.mk [] [] [] 0
def runS : List (List UInt8) → Nat → Sto → Sum Nat Sto
 | [], i, q => .inr q
 | x :: l, i, q => match takeS (i == 0) (Lib.split x [32]) q.1 q.2.1 q.2.2.1 q.2.2.2 with | some q' => runS l (i + 1) q' | none => .inl i
theorem runS_inv : ∀ {l : List (List UInt8)} {i : Nat} {q q' : Sto}, Inv i q → (∀ x, x ∈ l → x.length ≤ maxLen) → runS l i q = .inr q' → Inv (i + l.length) q'
 | [], i, q, q', h, _, e => by simp [runS] at e; subst e; exact h
 | x :: l, i, q, q', h, hx, e => by
  unfold runS at e
  cases ht : takeS (i == 0) (Lib.split x [32]) q.1 q.2.1 q.2.2.1 q.2.2.2 with
  | none => rw [ht] at e; simp at e
  | some q1 =>
   rw [ht] at e
   have h1 := takeS_inv (fun y hy => Nat.le_trans (split_mem hy) (hx x (List.mem_cons_self ..))) h ht
   have := runS_inv h1 (fun y hy => hx y (List.mem_cons_of_mem _ hy)) e
   rw [List.length_cons, show i + (l.length + 1) = i + 1 + l.length by omega]; exact this
theorem M11_eq (F : Nat) (x : List UInt8) (c : UInt8) (h : x.length ≤ 1000000) : M11 F x [c] = some (Lib.split x [c]) := by
 unfold M11
 rw [if_pos ⟨by omega, by simp⟩]
def endR (k : List UInt8 → Int → List TRelease → List TPublished → Option (TStory × Int × Int)) (o : Sum Nat Sto) : Option (TStory × Int × Int) :=
 match o with | .inr q => k q.1 q.2.1 q.2.2.1 q.2.2.2 | .inl j => some (noSt, (j : Int), 6)
theorem M5_L1_eq (F : Nat) (k : List UInt8 → Int → List TRelease → List TPublished → Option (TStory × Int × Int)) : ∀ (l : List (List UInt8)) (i : Nat) (q : Sto), Inv i q → i + l.length ≤ 1000001 → (∀ x, x ∈ l → x.length ≤ 1000000) →
  M5_L1 F k l (i : Int) q.1 q.2.1 q.2.2.1 q.2.2.2 = endR k (runS l i q)
 | [], i, q, _, _, _ => rfl
 | x :: l, i, q, h, hb, hx => by
  have hx0 := hx x (List.mem_cons_self ..)
  have hxm : ∀ y, y ∈ Lib.split x [32] → y.length ≤ maxLen := fun y hy => Nat.le_trans (split_mem hy) (Nat.le_trans hx0 (by decide))
  have ih := fun q' h' => M5_L1_eq F k l (i + 1) q' h' (by rw [List.length_cons] at hb; omega) (fun y hy => hx y (List.mem_cons_of_mem _ hy))
  have hinv : ∀ q', takeS (i == 0) (Lib.split x [32]) q.1 q.2.1 q.2.2.1 q.2.2.2 = some q' → Inv (i + 1) q' := fun q' e => takeS_inv hxm h e
  rw [M5_L1, M11_eq F x 32 hx0, Option.bind_some]
  unfold runS
  obtain ⟨w, t, hp⟩ := List.exists_cons_of_ne_nil (split_ne x [32])
  have hlen := split_len x 32
  rw [hp, List.length_cons] at hlen
  rw [hp] at hinv hxm ⊢
  rw [List.length_cons] at hb
  obtain ⟨s, n, R, K⟩ := q
  simp only [jn_def] at hinv ⊢
  by_cases hi : i = 0
  ·subst hi
   rw [if_f (by simp), idx_cons, Option.bind_some]
   have hz : ((0 : Nat) == 0) = true := rfl
   rw [hz] at hinv ⊢
   unfold takeS at hinv ⊢
   rw [if_pos rfl] at hinv ⊢
   rcases t with _ | ⟨v, _ | ⟨d, _ | ⟨f, r⟩⟩⟩
   ·simp [endR, noSt]
   ·simp [endR, noSt]
   ·have h13 : M13 F [v, d] 1 = some (pairO (numsK 1 [v, d])) := M13_eq F [v, d] 1 (by decide) (by simp) (fun y hy => hxm y (List.mem_cons_of_mem _ hy))
    by_cases w0 : w = wSTO
    ·by_cases hv : wrd v = true <;> by_cases hd : (num d).2 = true <;> simp [w0, hv, hd, h13, numsK, nums, pairO, idx, endR, noSt]
     have := ih (v, (num d).1, R, K) (hinv _ (by simp [w0, hv, hd]))
     simpa [endR, noSt] using this
    ·simp [w0, endR, noSt]
   ·have : ¬ ((r.length : Int) + 1 + 1 + 1 + 1 = 3) := by omega
    simp [this, endR, noSt]
  ·rw [if_t (by omega)]
   have hz : (i == 0) = false := by simpa using hi
   rw [hz] at hinv ⊢
   unfold takeS at hinv ⊢
   rw [if_neg (by decide)] at hinv ⊢
   rw [M12_eq F w t s n R K (by omega) (fun y hy => hxm y (List.mem_cons_of_mem _ hy)) (Nat.le_trans h.k (by omega)) (Nat.le_trans h.r (by omega)) (fun r hr => Nat.le_trans (h.e r hr).1 (by omega)), Option.bind_some]
   cases hl : lineS (w :: t) R K with
   | none => simp [endR, noSt]
   | some y =>
    obtain ⟨R', K'⟩ := y
    have := ih (s, n, R', K') (hinv _ (by rw [hl]; rfl))
    simpa [endR, noSt] using this
theorem inv0 : Inv 0 ([], 0, [], []) := ⟨Nat.le_refl _, Nat.le_refl _, fun r hr => by simp at hr, fun r hr => by simp at hr, Nat.zero_le _⟩
theorem okSt_inv {i : Nat} {q : Sto} (h : Inv i q) : okSt (TStory.mk q.1 q.2.2.1 q.2.2.2 q.2.1) := ⟨h.p, fun r hr => ⟨(h.e r hr).2.1, (h.e r hr).2.2⟩, h.a⟩
def endS (q : Sto) : TStory × Int × Int := if chk (TStory.mk q.1 q.2.2.1 q.2.2.2 q.2.1) ≠ 0 then (noSt, 0, chk (TStory.mk q.1 q.2.2.1 q.2.2.2 q.2.1)) else (TStory.mk q.1 q.2.2.1 q.2.2.2 q.2.1, 0, 0)
def readS (text : List UInt8) : TStory × Int × Int :=
 if 1000000 < text.length then (noSt, 0, 3) else
 match runS (Lib.split text [10]).dropLast 0 ([], 0, [], []) with
 | .inl j => (noSt, (j : Int), 6)
 | .inr q => if (Lib.split text [10]).getLast? = some [] then (if (Lib.split text [10]).length = 1 then (noSt, 0, 6) else endS q)
  else match takeS ((Lib.split text [10]).length == 1) (Lib.split ((Lib.split text [10]).getLast?.getD []) [32]) q.1 q.2.1 q.2.2.1 q.2.2.2 with
   | some _ => (noSt, (((Lib.split text [10]).length : Nat) : Int), 6)
   | none => (noSt, (((Lib.split text [10]).length - 1 : Nat) : Int), 6)
theorem runS_app : ∀ (l : List (List UInt8)) (x : List UInt8) (i : Nat) (q : Sto), runS (l ++ [x]) i q = match runS l i q with | .inl j => .inl j | .inr q' => runS [x] (i + l.length) q'
 | [], x, i, q => rfl
 | y :: l, x, i, q => by
  have e : ∀ l, runS (y :: l) i q = match takeS (i == 0) (Lib.split y [32]) q.1 q.2.1 q.2.2.1 q.2.2.2 with | some q' => runS l (i + 1) q' | none => .inl i := fun l => rfl
  rw [List.cons_append, e, e]
  cases takeS (i == 0) (Lib.split y [32]) q.1 q.2.1 q.2.2.1 q.2.2.2 with
  | none => rfl
  | some q' =>
   simp only
   rw [runS_app l x (i + 1) q', List.length_cons, show i + 1 + l.length = i + (l.length + 1) by omega]
theorem cut_last {l : List (List UInt8)} (h : l ≠ []) : ∃ a x, l = a ++ [x] := ⟨l.dropLast, l.getLast h, (List.dropLast_concat_getLast h).symm⟩
theorem M5_eq (F : Nat) (text : List UInt8) : M5 F text = some (readS text) := by
 unfold M5 readS
 by_cases hl : 1000000 < text.length
 ·rw [if_t (by omega), if_pos hl]; rfl
 rw [if_f (by omega), if_neg hl, M11_eq F text 10 (by omega), Option.bind_some]
 have hlen := split_len text 10
 have hmem : ∀ x, x ∈ Lib.split text [10] → x.length ≤ 1000000 := fun x hx => Nat.le_trans (split_mem hx) (by omega)
 obtain ⟨a, e, he⟩ := cut_last (split_ne text [10])
 rw [he] at hlen hmem ⊢
 rw [List.length_append, List.length_singleton] at hlen
 have e1 : w64 ((((a ++ [e]).length : Nat) : Int) - 1) = (a.length : Int) := by rw [List.length_append, List.length_singleton, w64_id (by omega) (by omega)]; omega
 have e2 : ((a ++ [e]).take ((a.length : Int)).toNat) = a := by simp
 have e3 : (a ++ [e])[a.length]'(by simp) = e := by simp
 rw [e1, idx_nat (by simp), Option.bind_some, jn_def, e2, e3]
 simp only [jn_def]
 have hr := fun (l8 : List (List UInt8)) (h1 : l8.length ≤ 1000001) (h2 : ∀ x, x ∈ l8 → x.length ≤ 1000000) => M5_L1_eq F (fun (s12 : List UInt8) (n13 : Int) (l14 : List TRelease) (l15 : List TPublished) => if (((l8.length : Nat) : Int) == 0) = true then some ((TStory.mk ([] : List UInt8) ([] : List TRelease) ([] : List TPublished) 0), ((l8.length : Nat) : Int), 6)
  else if (!(e == ([] : List UInt8))) = true then some ((TStory.mk ([] : List UInt8) ([] : List TRelease) ([] : List TPublished) 0), ((l8.length : Nat) : Int), 6)
  else (M14 F (TStory.mk s12 l14 l15 n13)).bind fun y56 => if (y56 != 0) = true then some ((TStory.mk ([] : List UInt8) ([] : List TRelease) ([] : List TPublished) 0), 0, y56)
  else some ((TStory.mk s12 l14 l15 n13), 0, 0)) l8 0 ([], 0, [], []) inv0 (by omega) h2
 have hinv := fun q' => runS_inv (l := a) (q' := q') inv0 (fun x hx => Nat.le_trans (hmem x (List.mem_append_left _ hx)) (by decide))
 rw [List.dropLast_concat, List.getLast?_concat, List.length_append, List.length_singleton]
 by_cases h0 : e = []
 ·subst h0
  rw [if_pos (by rfl), if_pos ⟨by omega, by simp⟩]
  refine Eq.trans (hr a (by omega) (fun x hx => hmem x (List.mem_append_left _ hx))) ?_
  cases hq : runS a 0 ([], 0, [], []) with
  | inl j => rfl
  | inr q =>
   have hi := hinv q hq
   simp only [endR]
   rw [if_pos trivial]
   by_cases hz : a.length = 0
   ·rw [if_pos (by rw [hz]; rfl), if_pos (by rw [hz]), hz]; rfl
   ·rw [if_neg (fun h => hz (by rw [beq_iff_eq] at h; omega)), if_neg (by simp), if_neg (fun h => hz (by omega)), M14_eq F _ (okSt_inv hi), Option.bind_some]
    unfold endS
    by_cases hc : chk (TStory.mk q.1 q.2.2.1 q.2.2.2 q.2.1) = 0
    ·rw [if_neg (by simp [hc]), if_neg (by simp [hc])]
    ·rw [if_pos (by simpa using hc), if_pos hc]; rfl
 ·rw [if_neg (by simpa using h0)]
  have h9 := hr (a ++ [e]) (by rw [List.length_append, List.length_singleton]; omega) hmem
  rw [List.length_append, List.length_singleton] at h9
  refine Eq.trans h9 ?_
  rw [runS_app]
  have hlz : (((a.length + 1 : Nat) : Int) == 0) = false := by rw [beq_eq_false_iff_ne]; omega
  cases hq : runS a 0 ([], 0, [], []) with
  | inl j => rfl
  | inr q =>
   simp only
   rw [if_neg (by simpa using h0), Nat.zero_add]
   unfold runS
   have hz : (a.length == 0) = (a.length + 1 == 1) := by cases a <;> simp
   rw [hz]
   simp only [Option.getD_some]
   cases takeS (a.length + 1 == 1) (Lib.split e [32]) q.1 q.2.1 q.2.2.1 q.2.2.2 with
   | none => simp [endR]
   | some q' =>
    simp only [runS, endR, hlz]
    rw [if_neg (by decide), if_pos (by simpa using h0)]
    simp [noSt]
theorem M7_refl (F : Nat) (s : TStory) : M7 F s s = some true := by
 have e17 : ∀ (l : List TRelease) (a : List TRelease) (j : Nat), a.drop j = l → M17_L1 F a (some true) l (j : Int) = some true := by
  intro l
  induction l with
  | nil => intro a j _; rfl
  | cons x l ih =>
   intro a j h
   obtain ⟨hn, h1, h2⟩ := drop_at h
   rw [M17_L1, idx_nat hn, h1, Option.bind_some, M18_eq, Option.bind_some, if_neg (by simp)]
   exact ih a (j + 1) h2
 have e19 : ∀ (l : List TPublished) (a : List TPublished) (j : Nat), a.drop j = l → M19_L1 F a (some true) l (j : Int) = some true := by
  intro l
  induction l with
  | nil => intro a j _; rfl
  | cons x l ih =>
   intro a j h
   obtain ⟨hn, h1, h2⟩ := drop_at h
   rw [M19_L1, idx_nat hn, h1, Option.bind_some, if_neg (by simp)]
   exact ih a (j + 1) h2
 have a17 : M17 F s.Releases s.Releases = some true := by
  unfold M17
  rw [if_neg (by simp), jn_def]
  exact e17 s.Releases s.Releases 0 rfl
 have a19 : M19 F s.Known s.Known = some true := by
  unfold M19
  rw [if_neg (by simp), jn_def]
  exact e19 s.Known s.Known 0 rfl
 unfold M7
 simp [a17, a19]
theorem M8_eq : M8 1 = some true := by rfl
end Go.Proofs.YtcoppoeibjkinaaDoor
