/- Part of the proof: HCmp. -/
import Derived.Test.YtkciogeafbbggaaLHE
import Derived.Test.YtkciogeafbbggaaPvX
namespace Go.Proofs.Ytkciogeafbbggaa
open Go Go.Pv
set_option linter.unusedVariables false

/-! ### names -/
def vis (c : UInt8) : Bool := decide (33 ≤ c.toNat) && decide (c.toNat ≤ 126)
def name (s : List UInt8) : Bool := s.all vis && decide (1 ≤ s.length) && decide (s.length ≤ 100)
theorem M131_eq (F : Nat) (s : List UInt8) (h : s.length ≤ maxLen) : M131 F s = some (s.all vis && !s.isEmpty) := by
  have h' : (s.length : Int) ≤ 9223372036854775807 := by have : s.length ≤ 9223372036854775807 := h; omega
  unfold M131
  rw [jn_def, if_pos h', Int.toNat_natCast]
  have := bytesL (g := M131_L1 F s (some (!(s == [])))) (k := some (!(s == []))) (f := false) s vis (fun _ => rfl) (fun m n => by
    rw [M131_L1]
    cases hi : idx s n with
    | none => rfl
    | some c =>
      simp only [Option.bind_some]
      by_cases h1 : c.toNat < 33
      · rw [if_t (by omega)]; simp [vis]; omega
      · rw [if_f (by omega)]
        by_cases h2 : c.toNat > 126
        · rw [if_t (by omega)]; simp [vis]; omega
        · rw [if_f (by omega), if_pos]; simp [vis]; omega) s.length 0 (by omega)
  rw [show ((0 : Nat) : Int) = 0 from rfl] at this
  rw [this, List.drop_zero]
  cases s.all vis <;> cases s <;> simp
theorem M93_eq (F : Nat) (s : List UInt8) (h : s.length ≤ maxLen) : M93 F s = some (name s) := by
  unfold M93 name
  rw [M131_eq F s h, Option.bind_some]
  cases s with
  | nil => simp
  | cons c s =>
    cases (c :: s).all vis <;> simp <;> omega
theorem M95_eq (F : Nat) (s : List UInt8) (h : s.length ≤ maxLen) : M95 F s = some (name s) := by
  have h' : (s.length : Int) ≤ 9223372036854775807 := by have : s.length ≤ 9223372036854775807 := h; omega
  unfold M95
  rw [jn_def, if_pos h', Int.toNat_natCast]
  generalize hk : (if decide ((s.length : Int) ≥ 1) = true then some (decide ((s.length : Int) ≤ 100)) else some false) = k
  have := bytesL (g := M95_L1 F s k) (k := k) (f := false) s vis (fun _ => rfl) (fun m n => by
    rw [M95_L1]
    cases hi : idx s n with
    | none => rfl
    | some c =>
      simp only [Option.bind_some]
      by_cases h1 : c.toNat < 33
      · rw [if_t (by omega)]; simp [vis]; omega
      · rw [if_f (by omega)]
        by_cases h2 : c.toNat > 126
        · rw [if_t (by omega)]; simp [vis]; omega
        · rw [if_f (by omega), if_pos]; simp [vis]; omega) s.length 0 (by omega)
  rw [show ((0 : Nat) : Int) = 0 from rfl] at this
  rw [this, List.drop_zero, ← hk]
  unfold name
  cases s.all vis
  · simp
  · simp only [if_true, Bool.true_and]
    by_cases h1 : 1 ≤ s.length
    · rw [if_t (by omega)]; congr 1; rw [Bool.eq_iff_iff]; simp only [decide_eq_true_eq, Bool.and_eq_true]; omega
    · rw [if_f (by omega)]; congr 1; symm; rw [Bool.eq_false_iff]; simp only [decide_eq_true_eq, Bool.and_eq_true, ne_eq]; omega

/-! ### the order of exposures -/
def bef (a b : TExposure) : Bool := Op.bytesLess a.Advisory b.Advisory || (a.Advisory == b.Advisory && Op.bytesLess a.Component b.Component)
theorem bef_trans {a b c : TExposure} (h : bef a b = true) (g : bef b c = true) : bef a c = true := by
  unfold bef at *
  simp only [Bool.or_eq_true, Bool.and_eq_true, beq_iff_eq] at *
  rcases h with h | ⟨h1, h2⟩ <;> rcases g with g | ⟨g1, g2⟩
  · exact .inl (bl_trans h g)
  · exact .inl (by rw [← g1]; exact h)
  · exact .inl (by rw [h1]; exact g)
  · exact .inr ⟨h1.trans g1, bl_trans h2 g2⟩
theorem bef_key {a b : TExposure} (h : bef a b = true) : ¬ (a.Advisory = b.Advisory ∧ a.Component = b.Component) := by
  unfold bef at h
  simp only [Bool.or_eq_true, Bool.and_eq_true, beq_iff_eq] at h
  rintro ⟨e1, e2⟩
  rcases h with h | ⟨_, h⟩
  · exact bl_ne h e1
  · exact bl_ne h e2
theorem M132_eq (F : Nat) (a b : TExposure) : M132 F a b = some (bef a b) := by
  unfold M132 bef
  cases h : Op.bytesLess a.Advisory b.Advisory
  · simp only [Bool.false_eq_true, if_false]
    cases h2 : a.Advisory == b.Advisory <;> simp
  · simp
theorem M138_eq (F : Nat) (a b : List UInt8) : M138 F a b = some (cmpS a b) := by
  unfold M138 M152 cmpS
  simp only [beq_self_eq_true, Bool.not_true, Option.bind_some, Bool.false_eq_true, if_false, bl_gt]
  split
  · rfl
  · split <;> rfl
theorem M149_two (F : Nat) (x y : Int) : M149 F [x, y] = some (if x ≠ 0 then x else y) := by
  unfold M149
  rw [jn_def]
  simp only [M149_L1]
  by_cases h : x = 0
  · subst h
    by_cases h2 : y = 0
    · subst h2; simp
    · simp [h2]
  · simp [h]
theorem M146_eq (F : Nat) (a b : TExposure) : ∃ n, M146 F (Thistory_key.mk a.Advisory a.Component) (Thistory_key.mk b.Advisory b.Component) = some n ∧ (decide (n ≥ 0)) = !bef a b := by
  unfold M146
  simp only [M138_eq, Option.bind_some, M149_two]
  refine ⟨_, rfl, ?_⟩
  unfold bef
  by_cases h : a.Advisory = b.Advisory
  · rw [h]
    have h0 : cmpS b.Advisory b.Advisory = 0 := cmpS_eq.2 rfl
    simp only [h0, ne_eq, not_true, if_false, bl_irrefl, Bool.false_or, beq_self_eq_true, Bool.true_and]
    cases hc : Op.bytesLess a.Component b.Component
    · have : ¬ cmpS a.Component b.Component < 0 := fun g => (Bool.eq_false_iff.1 hc) (cmpS_lt.1 g)
      simp; omega
    · have := cmpS_lt.2 hc
      simp; omega
  · have h0 : cmpS a.Advisory b.Advisory ≠ 0 := fun e => h (cmpS_eq.1 e)
    have hq : (a.Advisory == b.Advisory) = false := by simpa using h
    simp only [ne_eq, h0, not_false_iff, if_true, hq, Bool.false_and, Bool.or_false]
    cases hc : Op.bytesLess a.Advisory b.Advisory
    · have : ¬ cmpS a.Advisory b.Advisory < 0 := fun g => (Bool.eq_false_iff.1 hc) (cmpS_lt.1 g)
      simp; omega
    · have := cmpS_lt.2 hc
      simp; omega

/-! ### right exposures -/
def expE (p : Option TExposure) : List TExposure → Int
  | [] => 0
  | x :: r => if !(name x.Advisory && name x.Component) then 8 else if x.Severity < 0 ∨ 100 < x.Severity then 9 else if p.any (fun q => !bef q x) then 10 else expE (some x) r
def exps (l : List TExposure) : Int := if 500 < l.length then 3 else expE none l
def okE (l : List TExposure) : Prop := ∀ x, x ∈ l → x.Advisory.length ≤ maxLen ∧ x.Component.length ≤ maxLen
theorem expE_code (F : Nat) (a : List TExposure) (hok : okE a) (hlen : a.length ≤ 500) (k : Option Int) (g : List TExposure → Int → Option Int) (nm : List UInt8 → Option Bool) (cp : TExposure → TExposure → Option Bool)
    (hn : ∀ s : List UInt8, s.length ≤ maxLen → nm s = some (name s)) (hc : ∀ x y, cp x y = some (!bef x y))
    (h0 : ∀ n, g [] n = k) (h1 : ∀ x l n, g (x :: l) n = (nm x.Advisory).bind fun y9 => if (!y9) = true then some 8
      else (nm x.Component).bind fun y12 => if (!y12) = true then some 8 else if (decide (x.Severity < 0)) = true then some 9 else if (decide (x.Severity > 100)) = true then some 9
      else if (decide (n > 0)) = true then (idx a (w64 (n - 1))).bind fun q => (cp q x).bind fun y => if y = true then some 10 else g l (n + 1)
      else g l (n + 1)) :
    ∀ (l : List TExposure) (n : Nat), a.drop n = l → g l n = orr (expE (if n = 0 then none else a[n - 1]?) l) k
  | [], n, _ => by rw [h0]; rfl
  | x :: l, n, h => by
    have hn' : n < a.length := by
      by_cases hlt : n < a.length
      · exact hlt
      · rw [List.drop_eq_nil_of_le (by omega)] at h; simp at h
    have hx : a[n] = x := by rw [List.drop_eq_getElem_cons hn'] at h; exact (List.cons.inj h).1
    have hl : a.drop (n + 1) = l := by rw [List.drop_eq_getElem_cons hn'] at h; exact (List.cons.inj h).2
    have hok' := hok x (by rw [← hx]; exact List.getElem_mem _)
    rw [h1, hn _ hok'.1, hn _ hok'.2, Option.bind_some, Option.bind_some]
    have e : ((n : Int) + 1) = ((n + 1 : Nat) : Int) := rfl
    have ih := expE_code F a hok hlen k g nm cp hn hc h0 h1 l (n + 1) hl
    rw [e, ih]
    have hp : (if n + 1 = 0 then none else a[n + 1 - 1]?) = some x := by
      rw [if_neg (by omega), Nat.add_sub_cancel, List.getElem?_eq_getElem hn', hx]
    rw [hp]
    simp only [expE]
    cases ha : name x.Advisory
    · rfl
    cases hb : name x.Component
    · rfl
    simp only [Bool.not_true, Bool.false_eq_true, if_false, Bool.and_self]
    by_cases h2 : x.Severity < 0
    · rw [if_t h2, if_pos (.inl h2)]; rfl
    rw [if_f h2]
    by_cases h3 : x.Severity > 100
    · rw [if_t h3, if_pos (.inr h3)]; rfl
    rw [if_f h3, if_neg (show ¬ (x.Severity < 0 ∨ 100 < x.Severity) by omega)]
    by_cases h4 : n = 0
    · subst h4; simp
    · rw [if_t (by omega : (n : Int) > 0), if_neg h4]
      have e2 : w64 ((n : Int) - 1) = ((n - 1 : Nat) : Int) := by rw [w64_id (by omega) (by omega)]; omega
      have hlt : n - 1 < a.length := by omega
      rw [e2, idx_nat hlt, Option.bind_some, hc, Option.bind_some, List.getElem?_eq_getElem hlt]
      simp only [Option.any_some]
      by_cases hb : bef a[n - 1] x = true
      · rw [if_neg (by simp [hb]), if_neg (by simp [hb])]
      · rw [if_pos (by simpa using hb), if_pos (by simpa using hb)]; rfl
theorem orr_s (e : Int) : orr e (some 0) = some e := by unfold orr; split <;> simp_all
theorem M127_eq (F : Nat) (l : List TExposure) (h : okE l) : M127 F l = some (exps l) := by
  unfold M127 exps
  by_cases hlen : l.length > 500
  · rw [if_t (by omega), if_pos hlen]
  · rw [if_f (by omega), if_neg hlen, jn_def]
    have := expE_code F l h (by omega) (some 0) (M127_L1 F l (some 0)) (M93 F) (fun q x => (M84 F q).bind fun y21 => (M84 F x).bind fun y23 => (M146 F y21 y23).bind fun y25 => some (decide (y25 ≥ 0))) (M93_eq F) (fun q x => by
      obtain ⟨n, h1, h2⟩ := M146_eq F q x
      simp only [M84, Option.bind_some, h1, h2]) (fun _ => rfl) (fun x l n => by
        rw [M127_L1]
        simp only [jn_def, Option.bind_assoc, Option.bind_some]) l 0 rfl
    exact this.trans (orr_s _)
theorem M96_eq (F : Nat) (l : List TExposure) (h : okE l) : M96 F l = some (exps l) := by
  unfold M96 exps
  by_cases hlen : l.length > 500
  · rw [if_t (by omega), if_pos hlen]
  · rw [if_f (by omega), if_neg hlen, jn_def]
    have := expE_code F l h (by omega) (some 0) (M96_L1 F l (some 0)) (M95 F) (fun q x => (M132 F q x).bind fun y => some (!y)) (M95_eq F) (fun q x => by
      simp only [M132_eq, Option.bind_some]) (fun _ => rfl) (fun x l n => by
        rw [M96_L1]
        simp only [jn_def, Option.bind_assoc, Option.bind_some]) l 0 rfl
    exact this.trans (orr_s _)
theorem expE_zero : ∀ {p : Option TExposure} {l : List TExposure}, expE p l = 0 → (∀ q, p = some q → ∀ x, x ∈ l → bef q x = true) ∧ l.Pairwise (fun a b => bef a b = true) ∧ ∀ x, x ∈ l → name x.Advisory = true ∧ name x.Component = true ∧ 0 ≤ x.Severity ∧ x.Severity ≤ 100
  | p, [], _ => by simp
  | p, x :: l, h => by
    simp only [expE] at h
    split at h
    · simp at h
    · rename_i h1
      split at h
      · simp at h
      · rename_i h2
        split at h
        · simp at h
        · rename_i h3
          obtain ⟨g1, g2, g3⟩ := expE_zero h
          have hq : ∀ q, p = some q → bef q x = true := by
            intro q e; subst e; simpa using h3
          refine ⟨fun q e y hy => ?_, List.pairwise_cons.2 ⟨fun y hy => g1 x rfl y hy, g2⟩, fun y hy => ?_⟩
          · rcases List.mem_cons.1 hy with rfl | hy
            · exact hq q e
            · exact bef_trans (hq q e) (g1 x rfl y hy)
          · rcases List.mem_cons.1 hy with rfl | hy
            · simp at h1; exact ⟨h1.1, h1.2, by omega, by omega⟩
            · exact g3 y hy
theorem exps_zero {l : List TExposure} (h : exps l = 0) : l.length ≤ 500 ∧ l.Pairwise (fun a b => bef a b = true) ∧ ∀ x, x ∈ l → name x.Advisory = true ∧ name x.Component = true ∧ 0 ≤ x.Severity ∧ x.Severity ≤ 100 := by
  unfold exps at h
  split at h
  · simp at h
  · obtain ⟨_, h1, h2⟩ := expE_zero h
    exact ⟨by omega, h1, h2⟩

/-! ### equal lists -/
theorem M30_eq (F : Nat) (a b : List TExposure) : M30 F a b = some (decide (a = b)) := by
  unfold M30
  simp only [jn_def]
  exact eqL_all b (g := M30_L1 F b (some true)) (fun _ => rfl) (fun x l n => by rw [M30_L1]) a

/-! ### Compare -/
def rel (r : TRelease) : Int := if !name r.Version then 8 else if !decide (0 ≤ r.Day ∧ r.Day ≤ 1000000) then 9 else exps r.Exposures
def okR (r : TRelease) : Prop := r.Version.length ≤ maxLen ∧ okE r.Exposures
theorem isDay_b (n : Int) (F : Nat) : M69 F n = some (decide (0 ≤ n ∧ n ≤ 1000000)) := by
  unfold M69
  by_cases h : n ≥ 0
  · rw [if_t h]; congr 1; simp; omega
  · rw [if_f h]; congr 1; simp; omega
theorem isDay_b' (n : Int) (F : Nat) : M72 F n = some (decide (0 ≤ n ∧ n ≤ 1000000)) := by
  unfold M72
  by_cases h : n ≥ 0
  · rw [if_t h]; congr 1; simp; omega
  · rw [if_f h]; congr 1; simp; omega
theorem M81_eq (F : Nat) (r : TRelease) (h : okR r) : M81 F r = some (rel r) := by
  unfold M81 rel
  rw [M93_eq F _ h.1, M127_eq F _ h.2, isDay_b, Option.bind_some, Option.bind_some, Option.bind_some]
  split
  · rfl
  · split <;> rfl
theorem M85_eq (F : Nat) (r : TRelease) (h : okR r) : M85 F r = some (rel r) := by
  unfold M85 rel
  rw [M95_eq F _ h.1, M96_eq F _ h.2, isDay_b', Option.bind_some, Option.bind_some, Option.bind_some]
  split
  · rfl
  · split <;> rfl
def same (x y : TExposure) : Bool := x.Advisory == y.Advisory && x.Component == y.Component
def has (l : List TExposure) (x : TExposure) : Bool := l.any (same x)
theorem M82_eq (F : Nat) (l : List TExposure) (x : TExposure) : M82 F l x = some (has l x) := by
  unfold M82 M43 M100
  rw [jn_def]
  have := idxL (g := M100_L1 F x.Advisory x.Component x.Severity (some (-1))) (same x) (fun _ => rfl) (fun y l n => by
    have e : M83 F y x.Advisory x.Component x.Severity = some (same x y) := by
      unfold M83 M84 same
      simp only [Option.bind_some]
      congr 1
      rw [Bool.eq_iff_iff]
      simp
    rw [M100_L1, e]
    rfl) l 0
  rw [show ((0 : Nat) : Int) = 0 from rfl] at this
  rw [this]
  unfold has
  cases l.any (same x)
  · rfl
  · simp
theorem M86_eq (F : Nat) (l : List TExposure) (x : TExposure) : M86 F l x = some (has l x) := by
  unfold M86
  rw [jn_def]
  rw [anyL (g := M86_L1 F x (some false)) (k := some false) (same x) rfl (fun y l => by
    rw [M86_L1]
    unfold M128 same
    cases h : x.Advisory == y.Advisory <;> simp)]
  unfold has
  cases l.any (same x) <;> simp
theorem cmp_L2 {R : Type} (B : List TExposure → TExposure → Option Bool) (hB : ∀ l x, B l x = some (has l x)) (g : List TExposure → List TExposure → Option R) (c : List TExposure) (k : List TExposure → Option R)
    (h0 : ∀ o, g [] o = k o) (h1 : ∀ x l o, g (x :: l) o = (B c x).bind fun y => if (!y) = true then if (o ++ [x]).length * 40 ≤ 140737488355328 then g l (o ++ [x]) else none else g l o)
    (l : List TExposure) (hl : l.length ≤ 500) : g l [] = k (l.filter fun x => !has c x) := by
  have := filterL (g := g) (k := k) (fun x => !has c x) 1000 h0 (fun x l o ho => by
    rw [h1, hB, Option.bind_some]
    split
    · rw [if_pos (by simp; omega)]
    · rfl) l [] (by simp; omega)
  simpa using this
theorem cmp_L3 {R : Type} (B : List TExposure → TExposure → Option Bool) (hB : ∀ l x, B l x = some (has l x)) (g : List TExposure → List TExposure → List TExposure → Option R) (c : List TExposure) (k : List TExposure → List TExposure → Option R)
    (h0 : ∀ o p, g [] o p = k o p) (h1 : ∀ x l o p, g (x :: l) o p = (B c x).bind fun y => if y = true then if (p ++ [x]).length * 40 ≤ 140737488355328 then g l o (p ++ [x]) else none
      else if (o ++ [x]).length * 40 ≤ 140737488355328 then g l (o ++ [x]) p else none) :
    ∀ (l o p : List TExposure), o.length + p.length + l.length ≤ 1000 → g l o p = k (o ++ l.filter fun x => !has c x) (p ++ l.filter (has c))
  | [], o, p, _ => by rw [h0]; simp
  | x :: l, o, p, h => by
    simp only [List.length_cons] at h
    rw [h1, hB, Option.bind_some]
    cases hx : has c x
    · rw [if_neg (by simp), if_pos (by simp; omega), cmp_L3 B hB g c k h0 h1 l _ _ (by simp; omega)]; simp [hx]
    · rw [if_pos rfl, if_pos (by simp; omega), cmp_L3 B hB g c k h0 h1 l _ _ (by simp; omega)]; simp [hx]
def cmpR (a b : TRelease) : List TExposure × List TExposure × List TExposure × Int :=
  if rel a ≠ 0 then ([], [], [], rel a) else if rel b ≠ 0 then ([], [], [], rel b)
  else (a.Exposures.filter (fun x => !has b.Exposures x), b.Exposures.filter (fun x => !has a.Exposures x), b.Exposures.filter (has a.Exposures), 0)
theorem rel_zero {r : TRelease} (h : rel r = 0) : exps r.Exposures = 0 := by
  unfold rel at h
  split at h
  · simp at h
  · split at h
    · simp at h
    · exact h
theorem M28_eq (F : Nat) (a b : TRelease) (ha : okR a) (hb : okR b) : M28 F a b = some (cmpR a b) := by
  unfold M28 cmpR
  simp only [jn_def]
  rw [if_pos (by decide)]
  rw [show (((2 : Nat) : Int)).toNat = 2 from rfl]
  have i0 : idx [a, b] 0 = some a := rfl
  have i1 : idx [a, b] (0 + 1) = some b := rfl
  simp only [M28_L1, i0, i1, Option.bind_some, M81_eq F a ha, M81_eq F b hb]
  by_cases h1 : rel a = 0
  · rw [if_neg (show ¬ (rel a != 0) = true by simp [h1]), if_neg (show ¬ (rel a ≠ 0) by simp [h1])]
    by_cases h2 : rel b = 0
    · rw [if_neg (show ¬ (rel b != 0) = true by simp [h2]), if_neg (show ¬ (rel b ≠ 0) by simp [h2])]
      have l1 := (exps_zero (rel_zero h1)).1
      have l2 := (exps_zero (rel_zero h2)).1
      have e2 := fun k => cmp_L2 (M82 F) (M82_eq F) (M28_L2 F b k) b.Exposures k (fun _ => rfl) (fun x l o => by rw [M28_L2]; simp only [jn_def]) a.Exposures l1
      have e3 := fun k => cmp_L3 (M82 F) (M82_eq F) (M28_L3 F a k) a.Exposures k (fun _ _ => rfl) (fun x l o p => by rw [M28_L3]; simp only [jn_def]) b.Exposures [] [] (by simp; omega)
      rw [e2, e3]
      simp
    · rw [if_pos (show (rel b != 0) = true by simpa using h2), if_pos (show rel b ≠ 0 from h2)]
  · rw [if_pos (show (rel a != 0) = true by simpa using h1), if_pos (show rel a ≠ 0 from h1)]
theorem M29_eq (F : Nat) (a b : TRelease) (ha : okR a) (hb : okR b) : M29 F a b = some (cmpR a b) := by
  unfold M29 cmpR
  simp only [jn_def]
  rw [if_pos (by decide)]
  rw [show (((2 : Nat) : Int)).toNat = 2 from rfl]
  have i0 : idx [a, b] 0 = some a := rfl
  have i1 : idx [a, b] (0 + 1) = some b := rfl
  simp only [M29_L1, i0, i1, Option.bind_some, M85_eq F a ha, M85_eq F b hb]
  by_cases h1 : rel a = 0
  · rw [if_neg (show ¬ (rel a != 0) = true by simp [h1]), if_neg (show ¬ (rel a ≠ 0) by simp [h1])]
    by_cases h2 : rel b = 0
    · rw [if_neg (show ¬ (rel b != 0) = true by simp [h2]), if_neg (show ¬ (rel b ≠ 0) by simp [h2])]
      have l1 := (exps_zero (rel_zero h1)).1
      have l2 := (exps_zero (rel_zero h2)).1
      have e2 := fun k => cmp_L2 (M86 F) (M86_eq F) (M29_L2 F b k) b.Exposures k (fun _ => rfl) (fun x l o => by rw [M29_L2]; simp only [jn_def]) a.Exposures l1
      have e3 := fun k => cmp_L3 (M86 F) (M86_eq F) (M29_L3 F a k) a.Exposures k (fun _ _ => rfl) (fun x l o p => by rw [M29_L3]; simp only [jn_def]) b.Exposures [] [] (by simp; omega)
      rw [e2, e3]
      simp
    · rw [if_pos (show (rel b != 0) = true by simpa using h2), if_pos (show rel b ≠ 0 from h2)]
  · rw [if_pos (show (rel a != 0) = true by simpa using h1), if_pos (show rel a ≠ 0 from h1)]
def ky (x : TExposure) : List UInt8 × List UInt8 := (x.Advisory, x.Component)
theorem has_iff {l : List TExposure} {x : TExposure} : has l x = true ↔ ky x ∈ l.map ky := by
  unfold has same ky
  simp only [List.any_eq_true, Bool.and_eq_true, beq_iff_eq, List.mem_map, Prod.mk.injEq]
  constructor
  · rintro ⟨y, h, e1, e2⟩; exact ⟨y, h, e1.symm, e2.symm⟩
  · rintro ⟨y, h, e1, e2⟩; exact ⟨y, h, e1.symm, e2.symm⟩
theorem ky_nodup {l : List TExposure} (h : l.Pairwise (fun a b => bef a b = true)) : (l.map ky).Nodup := by
  unfold List.Nodup
  rw [List.pairwise_map]
  exact h.imp fun {a b} hab e => bef_key hab ⟨(Prod.mk.inj e).1, (Prod.mk.inj e).2⟩
theorem same_len {a b : List TExposure} (ha : a.Pairwise (fun a b => bef a b = true)) (hb : b.Pairwise (fun a b => bef a b = true)) : (a.filter (has b)).length = (b.filter (has a)).length := by
  have h1 : ((a.filter (has b)).map ky).Nodup := (ky_nodup ha).sublist (List.filter_sublist.map ky)
  have h2 : ((b.filter (has a)).map ky).Nodup := (ky_nodup hb).sublist (List.filter_sublist.map ky)
  have := ((List.perm_ext_iff_of_nodup h1 h2).2 (fun k => by
    simp only [List.mem_map, List.mem_filter, has_iff]
    constructor
    · rintro ⟨x, ⟨h1, y, h2, e⟩, rfl⟩; exact ⟨y, ⟨h2, x, h1, e.symm⟩, e⟩
    · rintro ⟨x, ⟨h1, y, h2, e⟩, rfl⟩; exact ⟨y, ⟨h2, x, h1, e.symm⟩, e⟩)).length_eq
  simpa using this
theorem okR_of {r : TRelease} (h : okTRelease r) : okR r := ⟨h.1, fun x hx => ⟨(h.2.2.1.1 x hx).1, (h.2.2.1.1 x hx).2.1⟩⟩
theorem plain_6 (a b : TRelease) (ha : okTRelease a) (hb : okTRelease b) : ∃ F, M6 F a b = some true := by
  refine ⟨1000003, ?_⟩
  generalize hF : 1000003 = F
  unfold M6
  simp only [M28_eq F a b (okR_of ha) (okR_of hb), M29_eq F a b (okR_of ha) (okR_of hb), M28_eq F b a (okR_of hb) (okR_of ha), M30_eq, Option.bind_some, jn_def, M23_eq F (by omega)]
  simp only [decide_true, Bool.not_true, Bool.false_eq_true, if_false, bne_self_eq_false]
  split
  · rename_i h
    have h : (cmpR a b).2.2.2 = 0 := by simpa using h
    have h1 : rel a = 0 ∧ rel b = 0 := by
      unfold cmpR at h
      split at h
      · exact absurd h (by assumption)
      · split at h
        · exact absurd h (by assumption)
        · constructor
          · rename_i g _; simpa using g
          · rename_i g; simpa using g
    have e1 : cmpR a b = (a.Exposures.filter (fun x => !has b.Exposures x), b.Exposures.filter (fun x => !has a.Exposures x), b.Exposures.filter (has a.Exposures), 0) := by
      unfold cmpR; rw [if_neg (by simp [h1.1]), if_neg (by simp [h1.2])]
    have e2 : cmpR b a = (b.Exposures.filter (fun x => !has a.Exposures x), a.Exposures.filter (fun x => !has b.Exposures x), a.Exposures.filter (has b.Exposures), 0) := by
      unfold cmpR; rw [if_neg (by simp [h1.2]), if_neg (by simp [h1.1])]
    rw [e1, e2]
    have := same_len (exps_zero (rel_zero h1.1)).2.1 (exps_zero (rel_zero h1.2)).2.1
    simp [this]
  · rfl
end Go.Proofs.Ytkciogeafbbggaa
