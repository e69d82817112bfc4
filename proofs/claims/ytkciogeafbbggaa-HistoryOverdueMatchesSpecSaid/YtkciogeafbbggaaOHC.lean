/- Part of the proof: HC. -/
import Derived.Test.YtkciogeafbbggaaOHM
import Derived.Test.YtkciogeafbbggaaOHO
import Derived.Test.YtkciogeafbbggaaOPvQ
namespace Go.Proofs.Ytkciogeafbbggaa
open Go Go.Pv
set_option linter.unusedVariables false
def chkL (m p : Int) : List Int → Int
  | [] => 0
  | x :: r => if x < 0 ∨ m < x then 9 else if x ≤ p then 10 else chkL m x r
theorem chkL_zero (m : Int) : ∀ (l : List Int) (p : Int), chkL m p l = 0 → (∀ x, x ∈ l → 0 ≤ x ∧ x ≤ m ∧ p < x) ∧ l.Pairwise (· < ·)
  | [], p, _ => by simp
  | x :: r, p, h => by
    simp only [chkL] at h
    split at h
    · simp at h
    · split at h
      · simp at h
      · obtain ⟨h1, h2⟩ := chkL_zero m r x h
        refine ⟨fun y hy => ?_, ?_⟩
        · rcases List.mem_cons.1 hy with rfl | hy
          · omega
          · have := h1 y hy; omega
        · exact List.pairwise_cons.2 ⟨fun y hy => (h1 y hy).2.2, h2⟩
def orr (e : Int) (k : Option Int) : Option Int := if e = 0 then k else some e
theorem orr_9 (k : Option Int) : orr 9 k = some 9 := rfl
theorem orr_10 (k : Option Int) : orr 10 k = some 10 := rfl
theorem orr_0 (k : Option Int) : orr 0 k = k := rfl
theorem chkL_9 {m p x : Int} {r : List Int} (h : x < 0 ∨ m < x) : chkL m p (x :: r) = 9 := by simp [chkL, h]
theorem chkL_10 {m p x : Int} {r : List Int} (h : ¬ (x < 0 ∨ m < x)) (h' : x ≤ p) : chkL m p (x :: r) = 10 := by simp only [chkL]; rw [if_neg h, if_pos h']
theorem chkL_r {m p x : Int} {r : List Int} (h : ¬ (x < 0 ∨ m < x)) (h' : ¬ x ≤ p) : chkL m p (x :: r) = chkL m x r := by simp only [chkL]; rw [if_neg h, if_neg h']
def prv (a : List Int) (j : Nat) : Int := if j = 0 then -1 else (a[j - 1]?).getD 0
def cal (c : TCalendar) : Int :=
  if c.Free.length > 6 then 3 else if c.Holidays.length > 2000 then 3 else if chkL 6 (-1) c.Free ≠ 0 then chkL 6 (-1) c.Free else chkL 1000000 (-1) c.Holidays
theorem L78 (F : Nat) (a : List Int) (m : Int) (k : Option Int) (hlen : a.length < 4000) : ∀ (n j : Nat), j ≤ a.length → a.length - j < n →
    M78_L1 F a m k n (j : Int) = orr (chkL m (prv a j) (a.drop j)) k
  | 0, j, _, h => by omega
  | n + 1, j, hj, hn => by
    unfold M78_L1
    by_cases h : j < a.length
    · rw [if_t (by omega : (j : Int) < ((a.length : Nat) : Int)), idx_nat h, List.drop_eq_getElem_cons h]
      simp only [Option.bind_some, jn_def]
      by_cases h1 : a[j] < 0
      · rw [if_t h1, chkL_9 (.inl h1), orr_9]
      · rw [if_f h1]
        by_cases h2 : a[j] > m
        · rw [if_t h2, chkL_9 (.inr h2), orr_9]
        · rw [if_f h2]
          have h12 : ¬ (a[j] < 0 ∨ m < a[j]) := by omega
          have ih := L78 F a m k hlen n (j + 1) (by omega) (by omega)
          have e : w64 ((j : Int) + 1) = ((j + 1 : Nat) : Int) := by rw [w64_id (by omega) (by omega)]; rfl
          have hp : prv a (j + 1) = a[j] := by simp [prv, h]
          rw [hp] at ih
          by_cases h3 : j = 0
          · subst h3
            rw [if_f (by omega), e, ih, chkL_r h12 (by simp [prv]; omega)]
          · rw [if_t (by omega : (j : Int) > 0)]
            have e2 : w64 ((j : Int) - 1) = ((j - 1 : Nat) : Int) := by rw [w64_id (by omega) (by omega)]; omega
            have hp2 : prv a j = a[j - 1] := by simp [prv, h3, show j - 1 < a.length by omega]
            rw [e2, idx_nat (by omega), Option.bind_some, hp2]
            by_cases h4 : a[j] ≤ a[j - 1]
            · rw [if_t h4, chkL_10 h12 h4, orr_10]
            · rw [if_f h4, chkL_r h12 h4, e, ih]
    · rw [if_f (by omega), List.drop_eq_nil_of_le (by omega)]
      rfl
theorem M78_eq (F : Nat) (a : List Int) (m : Int) (hlen : a.length < 4000) (hF : 5000 ≤ F) : M78 F a m = some (chkL m (-1) a) := by
  unfold M78
  rw [jn_def]
  have := L78 F a m (some 0) hlen F 0 (by omega) (by omega)
  refine this.trans ?_
  simp only [prv, List.drop_zero, if_true, orr]
  split <;> simp_all
theorem M21_eq (F : Nat) (c : TCalendar) (hF : 5000 ≤ F) : M21 F c = some (cal c) := by
  unfold M21 cal
  by_cases h1 : c.Free.length > 6
  · rw [if_t (by omega), if_pos h1]
  · rw [if_f (by omega), if_neg h1]
    by_cases h2 : c.Holidays.length > 2000
    · rw [if_t (by omega), if_pos h2]
    · rw [if_f (by omega), if_neg h2, M78_eq F _ _ (by omega) hF, M78_eq F _ _ (by omega) hF]
      simp
      split <;> rfl
theorem L22_1 (F : Nat) (c : TCalendar) (k : Option Int) (hlen : c.Free.length < 4000) : ∀ (n j : Nat), j ≤ c.Free.length → c.Free.length - j < n →
    M22_L1 F c k n (j : Int) = orr (chkL 6 (prv c.Free j) (c.Free.drop j)) k
  | 0, j, _, h => by omega
  | n + 1, j, hj, hn => by
    unfold M22_L1
    by_cases h : j < c.Free.length
    · rw [if_t (by omega : (j : Int) < ((c.Free.length : Nat) : Int)), idx_nat h, List.drop_eq_getElem_cons h]
      simp only [Option.bind_some, jn_def]
      by_cases h1 : c.Free[j] < 0
      · rw [if_t h1, chkL_9 (.inl h1), orr_9]
      · rw [if_f h1]
        by_cases h2 : c.Free[j] > 6
        · rw [if_t h2, chkL_9 (.inr h2), orr_9]
        · rw [if_f h2]
          have h12 : ¬ (c.Free[j] < 0 ∨ 6 < c.Free[j]) := by omega
          have ih := L22_1 F c k hlen n (j + 1) (by omega) (by omega)
          have e : w64 ((j : Int) + 1) = ((j + 1 : Nat) : Int) := by rw [w64_id (by omega) (by omega)]; rfl
          have hp : prv c.Free (j + 1) = c.Free[j] := by simp [prv, h]
          rw [hp] at ih
          by_cases h3 : j = 0
          · subst h3
            rw [if_f (by omega), e, ih, chkL_r h12 (by simp [prv]; omega)]
          · rw [if_t (by omega : (j : Int) > 0)]
            have e2 : w64 ((j : Int) - 1) = ((j - 1 : Nat) : Int) := by rw [w64_id (by omega) (by omega)]; omega
            have hp2 : prv c.Free j = c.Free[j - 1] := by simp [prv, h3, show j - 1 < c.Free.length by omega]
            rw [e2, idx_nat (by omega), Option.bind_some, hp2]
            by_cases h4 : c.Free[j] ≤ c.Free[j - 1]
            · rw [if_t h4, chkL_10 h12 h4, orr_10]
            · rw [if_f h4, chkL_r h12 h4, e, ih]
    · rw [if_f (by omega), List.drop_eq_nil_of_le (by omega)]
      rfl
theorem L22_2 (F : Nat) (c : TCalendar) (k : Option Int) (hlen : c.Holidays.length < 4000) : ∀ (n j : Nat), j ≤ c.Holidays.length → c.Holidays.length - j < n →
    M22_L2 F c k n (j : Int) = orr (chkL 1000000 (prv c.Holidays j) (c.Holidays.drop j)) k
  | 0, j, _, h => by omega
  | n + 1, j, hj, hn => by
    unfold M22_L2
    by_cases h : j < c.Holidays.length
    · rw [if_t (by omega : (j : Int) < ((c.Holidays.length : Nat) : Int)), idx_nat h, List.drop_eq_getElem_cons h]
      simp only [Option.bind_some, jn_def]
      by_cases h1 : c.Holidays[j] < 0
      · rw [if_t h1, chkL_9 (.inl h1), orr_9]
      · rw [if_f h1]
        by_cases h2 : c.Holidays[j] > 1000000
        · rw [if_t h2, chkL_9 (.inr h2), orr_9]
        · rw [if_f h2]
          have h12 : ¬ (c.Holidays[j] < 0 ∨ 1000000 < c.Holidays[j]) := by omega
          have ih := L22_2 F c k hlen n (j + 1) (by omega) (by omega)
          have e : w64 ((j : Int) + 1) = ((j + 1 : Nat) : Int) := by rw [w64_id (by omega) (by omega)]; rfl
          have hp : prv c.Holidays (j + 1) = c.Holidays[j] := by simp [prv, h]
          rw [hp] at ih
          by_cases h3 : j = 0
          · subst h3
            rw [if_f (by omega), e, ih, chkL_r h12 (by simp [prv]; omega)]
          · rw [if_t (by omega : (j : Int) > 0)]
            have e2 : w64 ((j : Int) - 1) = ((j - 1 : Nat) : Int) := by rw [w64_id (by omega) (by omega)]; omega
            have hp2 : prv c.Holidays j = c.Holidays[j - 1] := by simp [prv, h3, show j - 1 < c.Holidays.length by omega]
            rw [e2, idx_nat (by omega), Option.bind_some, hp2]
            by_cases h4 : c.Holidays[j] ≤ c.Holidays[j - 1]
            · rw [if_t h4, chkL_10 h12 h4, orr_10]
            · rw [if_f h4, chkL_r h12 h4, e, ih]
    · rw [if_f (by omega), List.drop_eq_nil_of_le (by omega)]
      rfl
theorem M22_eq (F : Nat) (c : TCalendar) (hF : 5000 ≤ F) : M22 F c = some (cal c) := by
  unfold M22 cal
  by_cases h1 : c.Free.length > 6
  · rw [if_t (by omega), if_pos h1]
  · rw [if_f (by omega), if_neg h1]
    by_cases h2 : c.Holidays.length > 2000
    · rw [if_t (by omega), if_pos h2]
    · rw [if_f (by omega), if_neg h2]
      show M22_L1 F c (M22_L2 F c (some 0) F 0) F 0 = _
      have e1 := L22_1 F c (M22_L2 F c (some 0) F 0) (by omega) F 0 (by omega) (by omega)
      have e2 := L22_2 F c (some 0) (by omega) F 0 (by omega) (by omega)
      refine e1.trans ?_
      rw [show M22_L2 F c (some 0) F 0 = _ from e2]
      simp only [prv, List.drop_zero, if_true, orr]
      split <;> simp_all
structure Right (c : TCalendar) : Prop where
  fl : c.Free.length ≤ 6
  hl : c.Holidays.length ≤ 2000
  fr : ∀ x, x ∈ c.Free → 0 ≤ x ∧ x ≤ 6
  fs : c.Free.Pairwise (· < ·)
  hr : ∀ x, x ∈ c.Holidays → 0 ≤ x ∧ x ≤ 1000000
  hs : c.Holidays.Pairwise (· < ·)
theorem right_of {c : TCalendar} (h : cal c = 0) : Right c := by
  unfold cal at h
  split at h
  · simp at h
  · split at h
    · simp at h
    · split at h
      · rename_i h3; exact absurd h h3
      · rename_i h1 h2 h3
        simp only [ne_eq, Decidable.not_not] at h3
        obtain ⟨a1, a2⟩ := chkL_zero _ _ _ h3
        obtain ⟨b1, b2⟩ := chkL_zero _ _ _ h
        exact ⟨by omega, by omega, fun x hx => ⟨(a1 x hx).1, (a1 x hx).2.1⟩, a2, fun x hx => ⟨(b1 x hx).1, (b1 x hx).2.1⟩, b2⟩
end Go.Proofs.Ytkciogeafbbggaa
