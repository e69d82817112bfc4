/- Part of the proof: AHCmp. -/
import Derived.Test.YtiphmdpaajjdeaaGreatDoorHAHC
import Derived.Test.YtiphmdpaajjdeaaGreatDoorHPvX
namespace Go.Proofs.YtiphmdpaajjdeaaGreatDoor
open Go Go.Pv
set_option linter.unusedVariables false
def vis (c : UInt8) : Bool := decide (33 ≤ c.toNat) && decide (c.toNat ≤ 126)
def name (s : List UInt8) : Bool := s.all vis && decide (1 ≤ s.length) && decide (s.length ≤ 100)
theorem M77_eq (F : Nat) (s : List UInt8) (h : s.length ≤ maxLen) : M77 F s = some (s.all vis && !s.isEmpty) := by
  have h' : (s.length : Int) ≤ 9223372036854775807 := by have : s.length ≤ 9223372036854775807 := h; omega
  unfold M77
  rw [jn_def, if_pos h', Int.toNat_natCast]
  have := bytesL (g := M77_L1 F s (some (!(s == [])))) (k := some (!(s == []))) (f := false) s vis (fun _ => rfl) (fun m n => by
    rw [M77_L1]
    cases hi : idx s n with
    | none => rfl
    | some c =>
      simp only [Option.bind_some]
      by_cases h1 : c.toNat < 33
      · rw [if_t (by omega)]; simp [vis]; omega
      · rw [if_f (by omega)]
        by_cases h2 : c.toNat > 126
        · rw [if_t (by omega)]; simp [vis]; omega
        · rw [if_f (by omega), if_pos]; simp [vis]; omega) s.length 0 (by omega)
  rw [show ((0 : Nat) : Int) = 0 from rfl] at this
  rw [this, List.drop_zero]
  cases s.all vis <;> cases s <;> simp
theorem M52_eq (F : Nat) (s : List UInt8) (h : s.length ≤ maxLen) : M52 F s = some (name s) := by
  unfold M52 name
  rw [M77_eq F s h, Option.bind_some]
  cases s with
  | nil => simp
  | cons c s =>
    cases (c :: s).all vis <;> simp <;> omega
def bef (a b : TExposure) : Bool := Op.bytesLess a.Advisory b.Advisory || (a.Advisory == b.Advisory && Op.bytesLess a.Component b.Component)
theorem bef_trans {a b c : TExposure} (h : bef a b = true) (g : bef b c = true) : bef a c = true := by
  unfold bef at *
  simp only [Bool.or_eq_true, Bool.and_eq_true, beq_iff_eq] at *
  rcases h with h | ⟨h1, h2⟩ <;> rcases g with g | ⟨g1, g2⟩
  · exact .inl (bl_trans h g)
  · exact .inl (by rw [← g1]; exact h)
  · exact .inl (by rw [h1]; exact g)
  · exact .inr ⟨h1.trans g1, bl_trans h2 g2⟩
theorem bef_key {a b : TExposure} (h : bef a b = true) : ¬ (a.Advisory = b.Advisory ∧ a.Component = b.Component) := by
  unfold bef at h
  simp only [Bool.or_eq_true, Bool.and_eq_true, beq_iff_eq] at h
  rintro ⟨e1, e2⟩
  rcases h with h | ⟨_, h⟩
  · exact bl_ne h e1
  · exact bl_ne h e2
theorem M82_eq (F : Nat) (a b : List UInt8) : M82 F a b = some (cmpS a b) := by
  unfold M82 M93 cmpS
  simp only [beq_self_eq_true, Bool.not_true, Option.bind_some, Bool.false_eq_true, if_false, bl_gt]
  split
  · rfl
  · split <;> rfl
theorem M81_two (F : Nat) (x y : Int) : M81 F [x, y] = some (if x ≠ 0 then x else y) := by
  unfold M81
  rw [jn_def]
  simp only [M81_L1]
  by_cases h : x = 0
  · subst h
    by_cases h2 : y = 0
    · subst h2; simp
    · simp [h2]
  · simp [h]
theorem M91_eq (F : Nat) (a b : TExposure) : ∃ n, M91 F (Thistory_key.mk a.Advisory a.Component) (Thistory_key.mk b.Advisory b.Component) = some n ∧ (decide (n ≥ 0)) = !bef a b := by
  unfold M91
  simp only [M82_eq, Option.bind_some, M81_two]
  refine ⟨_, rfl, ?_⟩
  unfold bef
  by_cases h : a.Advisory = b.Advisory
  · rw [h]
    have h0 : cmpS b.Advisory b.Advisory = 0 := cmpS_eq.2 rfl
    simp only [h0, ne_eq, not_true, if_false, bl_irrefl, Bool.false_or, beq_self_eq_true, Bool.true_and]
    cases hc : Op.bytesLess a.Component b.Component
    · have : ¬ cmpS a.Component b.Component < 0 := fun g => (Bool.eq_false_iff.1 hc) (cmpS_lt.1 g)
      simp; omega
    · have := cmpS_lt.2 hc
      simp; omega
  · have h0 : cmpS a.Advisory b.Advisory ≠ 0 := fun e => h (cmpS_eq.1 e)
    have hq : (a.Advisory == b.Advisory) = false := by simpa using h
    simp only [ne_eq, h0, not_false_iff, if_true, hq, Bool.false_and, Bool.or_false]
    cases hc : Op.bytesLess a.Advisory b.Advisory
    · have : ¬ cmpS a.Advisory b.Advisory < 0 := fun g => (Bool.eq_false_iff.1 hc) (cmpS_lt.1 g)
      simp; omega
    · have := cmpS_lt.2 hc
      simp; omega
def expE (p : Option TExposure) : List TExposure → Int
  | [] => 0
  | x :: r => if !(name x.Advisory && name x.Component) then 8 else if x.Severity < 0 ∨ 100 < x.Severity then 9 else if p.any (fun q => !bef q x) then 10 else expE (some x) r
def exps (l : List TExposure) : Int := if 500 < l.length then 3 else expE none l
def okE (l : List TExposure) : Prop := ∀ x, x ∈ l → x.Advisory.length ≤ maxLen ∧ x.Component.length ≤ maxLen
theorem expE_code (F : Nat) (a : List TExposure) (hok : okE a) (hlen : a.length ≤ 500) (k : Option Int) (g : List TExposure → Int → Option Int) (nm : List UInt8 → Option Bool) (cp : TExposure → TExposure → Option Bool)
    (hn : ∀ s : List UInt8, s.length ≤ maxLen → nm s = some (name s)) (hc : ∀ x y, cp x y = some (!bef x y))
    (h0 : ∀ n, g [] n = k) (h1 : ∀ x l n, g (x :: l) n = (nm x.Advisory).bind fun y9 => if (!y9) = true then some 8
      else (nm x.Component).bind fun y12 => if (!y12) = true then some 8 else if (decide (x.Severity < 0)) = true then some 9 else if (decide (x.Severity > 100)) = true then some 9
      else if (decide (n > 0)) = true then (idx a (w64 (n - 1))).bind fun q => (cp q x).bind fun y => if y = true then some 10 else g l (n + 1)
      else g l (n + 1)) :
    ∀ (l : List TExposure) (n : Nat), a.drop n = l → g l n = orr (expE (if n = 0 then none else a[n - 1]?) l) k
  | [], n, _ => by rw [h0]; rfl
  | x :: l, n, h => by
    have hn' : n < a.length := by
      by_cases hlt : n < a.length
      · exact hlt
      · rw [List.drop_eq_nil_of_le (by omega)] at h; simp at h
    have hx : a[n] = x := by rw [List.drop_eq_getElem_cons hn'] at h; exact (List.cons.inj h).1
    have hl : a.drop (n + 1) = l := by rw [List.drop_eq_getElem_cons hn'] at h; exact (List.cons.inj h).2
    have hok' := hok x (by rw [← hx]; exact List.getElem_mem _)
    rw [h1, hn _ hok'.1, hn _ hok'.2, Option.bind_some, Option.bind_some]
    have e : ((n : Int) + 1) = ((n + 1 : Nat) : Int) := rfl
    have ih := expE_code F a hok hlen k g nm cp hn hc h0 h1 l (n + 1) hl
    rw [e, ih]
    have hp : (if n + 1 = 0 then none else a[n + 1 - 1]?) = some x := by
      rw [if_neg (by omega), Nat.add_sub_cancel, List.getElem?_eq_getElem hn', hx]
    rw [hp]
    simp only [expE]
    cases ha : name x.Advisory
    · rfl
    cases hb : name x.Component
    · rfl
    simp only [Bool.not_true, Bool.false_eq_true, if_false, Bool.and_self]
    by_cases h2 : x.Severity < 0
    · rw [if_t h2, if_pos (.inl h2)]; rfl
    rw [if_f h2]
    by_cases h3 : x.Severity > 100
    · rw [if_t h3, if_pos (.inr h3)]; rfl
    rw [if_f h3, if_neg (show ¬ (x.Severity < 0 ∨ 100 < x.Severity) by omega)]
    by_cases h4 : n = 0
    · subst h4; simp
    · rw [if_t (by omega : (n : Int) > 0), if_neg h4]
      have e2 : w64 ((n : Int) - 1) = ((n - 1 : Nat) : Int) := by rw [w64_id (by omega) (by omega)]; omega
      have hlt : n - 1 < a.length := by omega
      rw [e2, idx_nat hlt, Option.bind_some, hc, Option.bind_some, List.getElem?_eq_getElem hlt]
      simp only [Option.any_some]
      by_cases hb : bef a[n - 1] x = true
      · rw [if_neg (by simp [hb]), if_neg (by simp [hb])]
      · rw [if_pos (by simpa using hb), if_pos (by simpa using hb)]; rfl
theorem orr_s (e : Int) : orr e (some 0) = some e := by unfold orr; split <;> simp_all
theorem M78_eq (F : Nat) (l : List TExposure) (h : okE l) : M78 F l = some (exps l) := by
  unfold M78 exps
  by_cases hlen : l.length > 500
  · rw [if_t (by omega), if_pos hlen]
  · rw [if_f (by omega), if_neg hlen, jn_def]
    have := expE_code F l h (by omega) (some 0) (M78_L1 F l (some 0)) (M52 F) (fun q x => (M54 F q).bind fun y21 => (M54 F x).bind fun y23 => (M91 F y21 y23).bind fun y25 => some (decide (y25 ≥ 0))) (M52_eq F) (fun q x => by
      obtain ⟨n, h1, h2⟩ := M91_eq F q x
      simp only [M54, Option.bind_some, h1, h2]) (fun _ => rfl) (fun x l n => by
        rw [M78_L1]
        simp only [jn_def, Option.bind_assoc, Option.bind_some]) l 0 rfl
    exact this.trans (orr_s _)
theorem expE_zero : ∀ {p : Option TExposure} {l : List TExposure}, expE p l = 0 → (∀ q, p = some q → ∀ x, x ∈ l → bef q x = true) ∧ l.Pairwise (fun a b => bef a b = true) ∧ ∀ x, x ∈ l → name x.Advisory = true ∧ name x.Component = true ∧ 0 ≤ x.Severity ∧ x.Severity ≤ 100
  | p, [], _ => by simp
  | p, x :: l, h => by
    simp only [expE] at h
    split at h
    · simp at h
    · rename_i h1
      split at h
      · simp at h
      · rename_i h2
        split at h
        · simp at h
        · rename_i h3
          obtain ⟨g1, g2, g3⟩ := expE_zero h
          have hq : ∀ q, p = some q → bef q x = true := by
            intro q e; subst e; simpa using h3
          refine ⟨fun q e y hy => ?_, List.pairwise_cons.2 ⟨fun y hy => g1 x rfl y hy, g2⟩, fun y hy => ?_⟩
          · rcases List.mem_cons.1 hy with rfl | hy
            · exact hq q e
            · exact bef_trans (hq q e) (g1 x rfl y hy)
          · rcases List.mem_cons.1 hy with rfl | hy
            · simp at h1; exact ⟨h1.1, h1.2, by omega, by omega⟩
            · exact g3 y hy
theorem exps_zero {l : List TExposure} (h : exps l = 0) : l.length ≤ 500 ∧ l.Pairwise (fun a b => bef a b = true) ∧ ∀ x, x ∈ l → name x.Advisory = true ∧ name x.Component = true ∧ 0 ≤ x.Severity ∧ x.Severity ≤ 100 := by
  unfold exps at h
  split at h
  · simp at h
  · obtain ⟨_, h1, h2⟩ := expE_zero h
    exact ⟨by omega, h1, h2⟩
def rel (r : TRelease) : Int := if !name r.Version then 8 else if !decide (0 ≤ r.Day ∧ r.Day ≤ 1000000) then 9 else exps r.Exposures
def okR (r : TRelease) : Prop := r.Version.length ≤ maxLen ∧ okE r.Exposures
theorem isDay_b (n : Int) (F : Nat) : M27 F n = some (decide (0 ≤ n ∧ n ≤ 1000000)) := by
  unfold M27
  by_cases h : n ≥ 0
  · rw [if_t h]; congr 1; simp; omega
  · rw [if_f h]; congr 1; simp; omega
def same (x y : TExposure) : Bool := x.Advisory == y.Advisory && x.Component == y.Component
theorem okR_of {r : TRelease} (h : okTRelease r) : okR r := ⟨Nat.le_trans h.1 (by decide), fun x hx => ⟨Nat.le_trans (h.2.2.1.1 x hx).1 (by decide), Nat.le_trans (h.2.2.1.1 x hx).2.1 (by decide)⟩⟩
end Go.Proofs.YtiphmdpaajjdeaaGreatDoor
