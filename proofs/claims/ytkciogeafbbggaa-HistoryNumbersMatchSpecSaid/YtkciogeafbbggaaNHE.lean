/- Part of the proof: HE. -/
import Derived.Test.YtkciogeafbbggaaNHD
namespace Go.Proofs.Ytkciogeafbbggaa
open Go Go.Pv
set_option linter.unusedVariables false
theorem mod7 (d : Nat) : Int.tmod (d : Int) 7 = ((d % 7 : Nat) : Int) := by rw [Int.tmod_eq_emod_of_nonneg (by omega)]; omega
theorem L71 (F : Nat) (c : TCalendar) (d : Nat) (k : Int → Option Int) : ∀ (n i : Nat) (b : Int), i ≤ d % 7 → d % 7 - i < n → -4000000000 < b → b < 4000000000 - 7 + i →
    M71_L1 F (wk c) (d : Int) k n b (i : Int) = k (b + part c (d % 7) - part c i)
  | 0, i, b, _, h, _, _ => by omega
  | n + 1, i, b, hi, hn, hb, hb' => by
    unfold M71_L1
    rw [mod7]
    by_cases h : i < d % 7
    · have e : w64 ((i : Int) + 1) = ((i + 1 : Nat) : Int) := by rw [w64_id (by omega) (by omega)]; rfl
      rw [if_t (by omega), if_pos (by omega), jn_def]
      have hp : part c (i + 1) = part c i + b2i (!fre c i) := rfl
      have hf : (wk c).free (i : Int).toNat = fre c i := by simp [wk]
      rw [hf]
      by_cases h1 : (!fre c i) = true
      · rw [if_pos h1]
        refine (congrArg (fun z => M71_L1 F (wk c) (d : Int) k n z _) (w64_id (n := b + 1) (by omega) (by omega))).trans ?_
        rw [e, L71 F c d k n (i + 1) (b + 1) (by omega) (by omega) (by omega) (by omega), hp, h1]
        simp only [b2i, if_true]
        congr 1; omega
      · rw [if_neg h1]
        refine (congrArg (fun z => M71_L1 F (wk c) (d : Int) k n b z) e).trans ?_
        rw [L71 F c d k n (i + 1) b (by omega) (by omega) (by omega) (by omega), hp]
        simp only [b2i, h1, if_false, Bool.false_eq_true]
        congr 1; omega
    · rw [if_f (by omega), show i = d % 7 by omega]
      congr 1; omega
theorem M71_eq (F : Nat) (c : TCalendar) (R : Right c) (d : Nat) (hd : d ≤ 3000000) (hF : 5000 ≤ F) : M71 F (wk c) (d : Int) = some (cnt c d) := by
  have h1 := R.fl
  unfold M71
  rw [jn_def]
  have e1 : Int.tdiv (d : Int) 7 = ((d / 7 : Nat) : Int) := by rw [Int.tdiv_eq_ediv_of_nonneg (by omega)]; omega
  have e2 : 0 ≤ ((d / 7 : Nat) : Int) * (7 - (c.Free.length : Int)) ∧ ((d / 7 : Nat) : Int) * (7 - (c.Free.length : Int)) ≤ 3000000 := by
    constructor
    · exact Int.mul_nonneg (by omega) (by omega)
    · have : ((d / 7 : Nat) : Int) * (7 - (c.Free.length : Int)) ≤ ((d / 7 : Nat) : Int) * 7 := Int.mul_le_mul_of_nonneg_left (by omega) (by omega)
      omega
  have e3 : w64 (w64 (Int.tdiv (d : Int) 7) * (wk c).work) = ((d / 7 : Nat) : Int) * (7 - (c.Free.length : Int)) := by
    rw [e1, w64_id (n := ((d / 7 : Nat) : Int)) (by omega) (by omega)]
    exact w64_id (by simp only [wk]; omega) (by simp only [wk]; omega)
  rw [e3]
  refine (L71 F c d _ F 0 _ (by omega) (by omega) (by omega) (by omega)).trans ?_
  obtain ⟨b, hb⟩ := M53_eq F (hol c) (d : Int) (hol_sorted c R) (by have := hol_len c R; omega) (by have := hol_len c R; omega)
  have hw : (wk c).holidays = hol c := rfl
  have hc := cnt_eq c R d
  have hr := cnt_range c d
  rw [hw, hb, Option.bind_some, show part c 0 = 0 from rfl]
  rw [w64_id (by omega) (by omega)]
  congr 1; omega
theorem isDay_eq (F : Nat) (d : Int) : M69 F d = some (decide (0 ≤ d) && decide (d ≤ 1000000)) := by
  unfold M69
  by_cases h : d ≥ 0
  · rw [if_t h]; simp [show 0 ≤ d from h]
  · rw [if_f h]; simp; omega
theorem day_not {d : Int} (h : ¬ (0 ≤ d ∧ d ≤ 1000000)) : (!(decide (0 ≤ d) && decide (d ≤ 1000000))) = true := by simp; omega
theorem day_is {d : Int} (h : 0 ≤ d ∧ d ≤ 1000000) : ¬ (!(decide (0 ≤ d) && decide (d ≤ 1000000))) = true := by simp; omega
def workDays (c : TCalendar) (a b : Int) : Int × Int :=
  if cal c ≠ 0 then (0, cal c) else if (0 ≤ a ∧ a ≤ 1000000) ∧ (0 ≤ b ∧ b ≤ 1000000) ∧ a ≤ b then (cnt c b.toNat - cnt c a.toNat, 0) else (0, 9)
theorem M17_eq (F : Nat) (c : TCalendar) (a b : Int) (hF : 5000 ≤ F) : M17 F c a b = some (workDays c a b) := by
  unfold M17 workDays
  rw [M21_eq F c hF, Option.bind_some]
  by_cases h : cal c = 0
  · have R := right_of h
    rw [if_neg (by simp [h]), if_neg (show ¬ cal c ≠ 0 by simp [h]), isDay_eq, Option.bind_some]
    by_cases ha : 0 ≤ a ∧ a ≤ 1000000
    · rw [if_neg (day_is ha), isDay_eq, Option.bind_some]
      by_cases hb : 0 ≤ b ∧ b ≤ 1000000
      · rw [if_neg (day_is hb)]
        by_cases hab : a > b
        · rw [if_t hab, if_neg (by omega)]
        · obtain ⟨n, rfl⟩ := Int.eq_ofNat_of_zero_le ha.1
          obtain ⟨m, rfl⟩ := Int.eq_ofNat_of_zero_le hb.1
          rw [if_f hab, if_pos ⟨ha, hb, by omega⟩, M70_eq F c R hF, Option.bind_some, M71_eq F c R _ (by omega) hF, Option.bind_some, M71_eq F c R _ (by omega) hF, Option.bind_some]
          have h1 := cnt_range c n
          have h2 := cnt_range c m
          rw [w64_id (by omega) (by omega)]
          rfl
      · rw [if_pos (day_not hb), if_neg (by omega)]
    · rw [if_pos (day_not ha), if_neg (by omega)]
  · rw [if_pos (by simpa using h), if_pos h]
/-- The first day from 'a' on with so many work days behind it, or the day after the last. -/
structure Least (c : TCalendar) (a : Nat) (n : Int) (d : Nat) : Prop where
  ge : a ≤ d
  le : d ≤ 1000001
  lt : ∀ e, a ≤ e → e < d → cnt c e < cnt c a + n
  at' : d = 1000001 ∨ cnt c a + n ≤ cnt c d
theorem Least.uniq {c : TCalendar} {a : Nat} {n : Int} {d d' : Nat} (h : Least c a n d) (h' : Least c a n d') : d = d' := by
  rcases Nat.lt_trichotomy d d' with hl | he | hl
  · rcases h.at' with h1 | h1
    · have := h'.le; omega
    · have := h'.lt d h.ge hl; omega
  · exact he
  · rcases h'.at' with h1 | h1
    · have := h.le; omega
    · have := h.lt d' h'.ge hl; omega
/-- What 'Add' returns. -/
def AddIs (c : TCalendar) (a n : Int) (r : Int × Int) : Prop :=
  if cal c ≠ 0 then r = (0, cal c) else if (0 ≤ a ∧ a ≤ 1000000) ∧ (0 ≤ n ∧ n ≤ 1000000) then
    ∃ d, Least c a.toNat n d ∧ r = if d ≤ 1000000 then ((d : Int), 0) else (0, 3)
  else r = (0, 9)
theorem AddIs.uniq {c : TCalendar} {a n : Int} {r r' : Int × Int} (h : AddIs c a n r) (h' : AddIs c a n r') : r = r' := by
  unfold AddIs at h h'
  split at h
  · rw [if_pos ‹_›] at h'; rw [h, h']
  · rw [if_neg ‹_›] at h'
    split at h
    · rw [if_pos ‹_›] at h'
      obtain ⟨d, h1, rfl⟩ := h
      obtain ⟨d', h2, rfl⟩ := h'
      rw [h1.uniq h2]
    · rw [if_neg ‹_›] at h'; rw [h, h']
theorem M23_eq (F : Nat) (hF : 5000 ≤ F) : M23 F = some true := by
  unfold M23
  rw [M17_eq F _ _ _ hF, Option.bind_some]
  have : workDays (TCalendar.mk ([5, 6] : List Int) ([] : List Int)) 0 14 = (10, 0) := by decide
  rw [this]
  rfl
end Go.Proofs.Ytkciogeafbbggaa
