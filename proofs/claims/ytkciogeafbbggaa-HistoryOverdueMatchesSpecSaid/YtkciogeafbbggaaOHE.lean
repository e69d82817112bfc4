/- Part of the proof: HE. -/
import Derived.Test.YtkciogeafbbggaaOHD
namespace Go.Proofs.Ytkciogeafbbggaa
open Go Go.Pv
set_option linter.unusedVariables false
theorem mod7 (d : Nat) : Int.tmod (d : Int) 7 = ((d % 7 : Nat) : Int) := by rw [Int.tmod_eq_emod_of_nonneg (by omega)]; omega
theorem L71 (F : Nat) (c : TCalendar) (d : Nat) (k : Int → Option Int) : ∀ (n i : Nat) (b : Int), i ≤ d % 7 → d % 7 - i < n → -4000000000 < b → b < 4000000000 - 7 + i →
    M71_L1 F (wk c) (d : Int) k n b (i : Int) = k (b + part c (d % 7) - part c i)
  | 0, i, b, _, h, _, _ => by omega
  | n + 1, i, b, hi, hn, hb, hb' => by
    unfold M71_L1
    rw [mod7]
    by_cases h : i < d % 7
    · have e : w64 ((i : Int) + 1) = ((i + 1 : Nat) : Int) := by rw [w64_id (by omega) (by omega)]; rfl
      rw [if_t (by omega), if_pos (by omega), jn_def]
      have hp : part c (i + 1) = part c i + b2i (!fre c i) := rfl
      have hf : (wk c).free (i : Int).toNat = fre c i := by simp [wk]
      rw [hf]
      by_cases h1 : (!fre c i) = true
      · rw [if_pos h1]
        refine (congrArg (fun z => M71_L1 F (wk c) (d : Int) k n z _) (w64_id (n := b + 1) (by omega) (by omega))).trans ?_
        rw [e, L71 F c d k n (i + 1) (b + 1) (by omega) (by omega) (by omega) (by omega), hp, h1]
        simp only [b2i, if_true]
        congr 1; omega
      · rw [if_neg h1]
        refine (congrArg (fun z => M71_L1 F (wk c) (d : Int) k n b z) e).trans ?_
        rw [L71 F c d k n (i + 1) b (by omega) (by omega) (by omega) (by omega), hp]
        simp only [b2i, h1, if_false, Bool.false_eq_true]
        congr 1; omega
    · rw [if_f (by omega), show i = d % 7 by omega]
      congr 1; omega
theorem M71_eq (F : Nat) (c : TCalendar) (R : Right c) (d : Nat) (hd : d ≤ 3000000) (hF : 5000 ≤ F) : M71 F (wk c) (d : Int) = some (cnt c d) := by
  have h1 := R.fl
  unfold M71
  rw [jn_def]
  have e1 : Int.tdiv (d : Int) 7 = ((d / 7 : Nat) : Int) := by rw [Int.tdiv_eq_ediv_of_nonneg (by omega)]; omega
  have e2 : 0 ≤ ((d / 7 : Nat) : Int) * (7 - (c.Free.length : Int)) ∧ ((d / 7 : Nat) : Int) * (7 - (c.Free.length : Int)) ≤ 3000000 := by
    constructor
    · exact Int.mul_nonneg (by omega) (by omega)
    · have : ((d / 7 : Nat) : Int) * (7 - (c.Free.length : Int)) ≤ ((d / 7 : Nat) : Int) * 7 := Int.mul_le_mul_of_nonneg_left (by omega) (by omega)
      omega
  have e3 : w64 (w64 (Int.tdiv (d : Int) 7) * (wk c).work) = ((d / 7 : Nat) : Int) * (7 - (c.Free.length : Int)) := by
    rw [e1, w64_id (n := ((d / 7 : Nat) : Int)) (by omega) (by omega)]
    exact w64_id (by simp only [wk]; omega) (by simp only [wk]; omega)
  rw [e3]
  refine (L71 F c d _ F 0 _ (by omega) (by omega) (by omega) (by omega)).trans ?_
  obtain ⟨b, hb⟩ := M53_eq F (hol c) (d : Int) (hol_sorted c R) (by have := hol_len c R; omega) (by have := hol_len c R; omega)
  have hw : (wk c).holidays = hol c := rfl
  have hc := cnt_eq c R d
  have hr := cnt_range c d
  rw [hw, hb, Option.bind_some, show part c 0 = 0 from rfl]
  rw [w64_id (by omega) (by omega)]
  congr 1; omega
theorem L73_1 (F : Nat) (c : TCalendar) (k : (Nat → Bool) → Option Tprovenderref11_calendar) (R : Right c) : ∀ (n j : Nat) (f : Nat → Bool), j ≤ c.Free.length → c.Free.length - j < n →
    M73_L1 F c k n (j : Int) f = k (fun i => f i || decide ((i : Int) ∈ c.Free.drop j))
  | 0, j, f, _, h => by omega
  | n + 1, j, f, hj, hn => by
    have := R.fl
    unfold M73_L1
    by_cases h : j < c.Free.length
    · have hm := R.fr c.Free[j] (List.getElem_mem h)
      rw [if_t (by omega : (j : Int) < ((c.Free.length : Nat) : Int)), idx_nat h, List.drop_eq_getElem_cons h, Option.bind_some, if_pos (by omega),
        show w64 ((j : Int) + 1) = ((j + 1 : Nat) : Int) by rw [w64_id (by omega) (by omega)]; rfl, L73_1 F c k R n (j + 1) _ (by omega) (by omega), free_step c f _ _ hm.1]
    · rw [if_f (by omega), List.drop_eq_nil_of_le (by omega)]
      simp
def isHol (m : List (Int × Bool)) (d : Int) : Bool := (mget m d).getD false
theorem L73_2 (F : Nat) (c : TCalendar) (k : List (Int × Bool) → Option Tprovenderref11_calendar) (R : Right c) : ∀ (n j : Nat) (m : List (Int × Bool)), j ≤ c.Holidays.length → c.Holidays.length - j < n →
    ∃ m', M73_L2 F c k n (j : Int) m = k m' ∧ ∀ d, isHol m' d = (isHol m d || decide (d ∈ c.Holidays.drop j))
  | 0, j, m, _, h => by omega
  | n + 1, j, m, hj, hn => by
    have := R.hl
    unfold M73_L2
    by_cases h : j < c.Holidays.length
    · rw [if_t (by omega : (j : Int) < ((c.Holidays.length : Nat) : Int)), idx_nat h, List.drop_eq_getElem_cons h, Option.bind_some,
        show w64 ((j : Int) + 1) = ((j + 1 : Nat) : Int) by rw [w64_id (by omega) (by omega)]; rfl]
      obtain ⟨m', h1, h2⟩ := L73_2 F c k R n (j + 1) (mput m c.Holidays[j] true) (by omega) (by omega)
      refine ⟨m', h1, fun d => ?_⟩
      rw [h2]
      simp only [isHol, mget_mput, List.mem_cons]
      by_cases hd : c.Holidays[j] = d
      · simp [hd]
      · have : d ≠ c.Holidays[j] := fun e => hd e.symm
        simp [hd, this]
    · rw [if_f (by omega), List.drop_eq_nil_of_le (by omega)]
      exact ⟨m, rfl, by simp⟩
theorem M73_eq (F : Nat) (c : TCalendar) (R : Right c) (hF : 5000 ≤ F) : ∃ k, M73 F c = some k ∧ k.free = fre c ∧ ∀ d, isHol k.holidays d = decide (d ∈ c.Holidays) := by
  have h1 := R.fl
  have h2 := R.hl
  unfold M73
  simp only [jn_def]
  have e1 := fun k => L73_1 F c k R F 0 (fun _ => false) (by omega) (by omega)
  obtain ⟨m', e2, e3⟩ := L73_2 F c (fun m13 => some ⟨fun i => false || decide ((i : Int) ∈ c.Free.drop 0), m13⟩) R F 0 [] (by omega) (by omega)
  refine ⟨_, (e1 _).trans e2, ?_, ?_⟩
  · simp only [List.drop_zero, Bool.false_or]; rfl
  · intro d
    show isHol m' d = _
    rw [e3]
    simp [isHol, mget]
theorem M74_eq (F : Nat) (c : TCalendar) (k : Tprovenderref11_calendar) (h1 : k.free = fre c) (h2 : ∀ d, isHol k.holidays d = decide (d ∈ c.Holidays)) (d : Nat) : M74 F k (d : Int) = some (wd c d) := by
  unfold M74
  have e : (Int.tmod (d : Int) 7).toNat = d % 7 := by rw [mod7]; omega
  rw [if_pos (by rw [mod7]; omega), e, h1]
  have := h2 (d : Int)
  simp only [isHol] at this
  rw [this]
  by_cases h : (!fre c (d % 7)) = true
  · rw [if_pos h]; simp only [wd, h, Bool.true_and]
  · rw [if_neg h]; simp only [wd]; simp only [Bool.not_eq_true] at h; rw [h]; rfl
theorem isDay_eq (F : Nat) (d : Int) : M69 F d = some (decide (0 ≤ d) && decide (d ≤ 1000000)) := by
  unfold M69
  by_cases h : d ≥ 0
  · rw [if_t h]; simp [show 0 ≤ d from h]
  · rw [if_f h]; simp; omega
theorem day_not {d : Int} (h : ¬ (0 ≤ d ∧ d ≤ 1000000)) : (!(decide (0 ≤ d) && decide (d ≤ 1000000))) = true := by simp; omega
theorem day_is {d : Int} (h : 0 ≤ d ∧ d ≤ 1000000) : ¬ (!(decide (0 ≤ d) && decide (d ≤ 1000000))) = true := by simp; omega
def workDays (c : TCalendar) (a b : Int) : Int × Int :=
  if cal c ≠ 0 then (0, cal c) else if (0 ≤ a ∧ a ≤ 1000000) ∧ (0 ≤ b ∧ b ≤ 1000000) ∧ a ≤ b then (cnt c b.toNat - cnt c a.toNat, 0) else (0, 9)
theorem M17_eq (F : Nat) (c : TCalendar) (a b : Int) (hF : 5000 ≤ F) : M17 F c a b = some (workDays c a b) := by
  unfold M17 workDays
  rw [M21_eq F c hF, Option.bind_some]
  by_cases h : cal c = 0
  · have R := right_of h
    rw [if_neg (by simp [h]), if_neg (show ¬ cal c ≠ 0 by simp [h]), isDay_eq, Option.bind_some]
    by_cases ha : 0 ≤ a ∧ a ≤ 1000000
    · rw [if_neg (day_is ha), isDay_eq, Option.bind_some]
      by_cases hb : 0 ≤ b ∧ b ≤ 1000000
      · rw [if_neg (day_is hb)]
        by_cases hab : a > b
        · rw [if_t hab, if_neg (by omega)]
        · obtain ⟨n, rfl⟩ := Int.eq_ofNat_of_zero_le ha.1
          obtain ⟨m, rfl⟩ := Int.eq_ofNat_of_zero_le hb.1
          rw [if_f hab, if_pos ⟨ha, hb, by omega⟩, M70_eq F c R hF, Option.bind_some, M71_eq F c R _ (by omega) hF, Option.bind_some, M71_eq F c R _ (by omega) hF, Option.bind_some]
          have h1 := cnt_range c n
          have h2 := cnt_range c m
          rw [w64_id (by omega) (by omega)]
          rfl
      · rw [if_pos (day_not hb), if_neg (by omega)]
    · rw [if_pos (day_not ha), if_neg (by omega)]
  · rw [if_pos (by simpa using h), if_pos h]
theorem L75 (F : Nat) (c : TCalendar) (kal : Tprovenderref11_calendar) (h1 : kal.free = fre c) (h2 : ∀ d, isHol kal.holidays d = decide (d ∈ c.Holidays)) (b : Nat) (hb : b ≤ 1000000) (k : Int → Option Int) :
    ∀ (n i : Nat) (s : Int), i ≤ b → b - i < n → 0 ≤ s → s ≤ i → M75_L1 F kal (b : Int) k n s (i : Int) = k (s + cnt c b - cnt c i)
  | 0, i, s, _, h, _, _ => by omega
  | n + 1, i, s, hi, hn, hs, hs' => by
    unfold M75_L1
    by_cases h : i < b
    · have e : w64 ((i : Int) + 1) = ((i + 1 : Nat) : Int) := by rw [w64_id (by omega) (by omega)]; rfl
      rw [if_t (by omega), M74_eq F c kal h1 h2, Option.bind_some, jn_def]
      have hp : cnt c (i + 1) = cnt c i + b2i (wd c i) := rfl
      by_cases h3 : wd c i = true
      · rw [if_pos h3]
        refine (congrArg (fun z => M75_L1 F kal (b : Int) k n z _) (w64_id (n := s + 1) (by omega) (by omega))).trans ?_
        rw [e, L75 F c kal h1 h2 b hb k n (i + 1) (s + 1) (by omega) (by omega) (by omega) (by omega), hp, h3]
        simp only [b2i, if_true]
        congr 1; omega
      · rw [if_neg h3]
        refine (congrArg (fun z => M75_L1 F kal (b : Int) k n s z) e).trans ?_
        rw [L75 F c kal h1 h2 b hb k n (i + 1) s (by omega) (by omega) (by omega) (by omega), hp]
        simp only [b2i, h3, if_false, Bool.false_eq_true]
        congr 1; omega
    · rw [if_f (by omega), show i = b by omega]
      congr 1; omega
/-- The first day from 'a' on with so many work days behind it, or the day after the last. -/
structure Least (c : TCalendar) (a : Nat) (n : Int) (d : Nat) : Prop where
  ge : a ≤ d
  le : d ≤ 1000001
  lt : ∀ e, a ≤ e → e < d → cnt c e < cnt c a + n
  at' : d = 1000001 ∨ cnt c a + n ≤ cnt c d
theorem Least.uniq {c : TCalendar} {a : Nat} {n : Int} {d d' : Nat} (h : Least c a n d) (h' : Least c a n d') : d = d' := by
  rcases Nat.lt_trichotomy d d' with hl | he | hl
  · rcases h.at' with h1 | h1
    · have := h'.le; omega
    · have := h'.lt d h.ge hl; omega
  · exact he
  · rcases h'.at' with h1 | h1
    · have := h.le; omega
    · have := h.lt d' h'.ge hl; omega
theorem wk_arr (c : TCalendar) : (arrOf false [(wk c).free 0, (wk c).free 1, (wk c).free 2, (wk c).free 3, (wk c).free 4, (wk c).free 5, (wk c).free 6]) = fun i => if i < 7 then fre c i else false := by
  funext i
  simp only [arrOf, wk]
  match i with
  | 0 | 1 | 2 | 3 | 4 | 5 | 6 => rfl
  | i + 7 => simp; omega
theorem L71' (F : Nat) (c : TCalendar) (d : Nat) (k : Int → Option Int) (f : Nat → Bool) (hf : ∀ i, i < 7 → f i = fre c i) (w : Int) (l : List Int) : ∀ (n : Nat) (b : Int) (i : Nat), 
    M71_L1 F ⟨f, w, l⟩ (d : Int) k n b (i : Int) = M71_L1 F ⟨fre c, w, l⟩ (d : Int) k n b (i : Int)
  | 0, b, i => rfl
  | n + 1, b, i => by
    unfold M71_L1
    by_cases h : (i : Int) < Int.tmod (d : Int) 7
    · rw [if_t h, if_t h]
      have h7 : i < 7 := by rw [mod7] at h; omega
      have e : w64 ((i : Int) + 1) = ((i + 1 : Nat) : Int) := by rw [w64_id (by omega) (by omega)]; rfl
      rw [if_pos (by omega), if_pos (by omega), jn_def, jn_def, e]
      simp only [Int.toNat_natCast]
      rw [hf i h7]
      split
      · exact L71' F c d k f hf w l n _ (i + 1)
      · exact L71' F c d k f hf w l n _ (i + 1)
    · rw [if_f h, if_f h]
theorem M71_arr (F : Nat) (c : TCalendar) (R : Right c) (d : Nat) (hd : d ≤ 3000000) (hF : 5000 ≤ F) :
    M71 F (Thistory_week.mk (arrOf false [(wk c).free 0, (wk c).free 1, (wk c).free 2, (wk c).free 3, (wk c).free 4, (wk c).free 5, (wk c).free 6]) (wk c).work (wk c).holidays) (d : Int) = some (cnt c d) := by
  rw [← M71_eq F c R d hd hF, wk_arr]
  unfold M71
  rw [jn_def, jn_def]
  exact L71' F c d _ _ (fun i hi => by simp [hi]) _ _ F _ 0
theorem L125 (F : Nat) (c : TCalendar) (R : Right c) (a : Nat) (n : Int) (ha : a ≤ 1000000) (hn0 : 0 ≤ n) (hn1 : n ≤ 1000000) (k : Int → Option Int) (hF : 5000 ≤ F) : ∀ (f i j : Nat), i ≤ j → a + j ≤ 1000001 → j - i < f →
    (∀ e, e < i → cnt c (a + e) < cnt c a + n) → (a + j = 1000001 ∨ cnt c a + n ≤ cnt c (a + j)) →
    ∃ d, Least c a n (a + d) ∧ M125_L1 F ((wk c).free 0) ((wk c).free 1) ((wk c).free 2) ((wk c).free 3) ((wk c).free 4) ((wk c).free 5) ((wk c).free 6) (wk c).work (wk c).holidays (a : Int) (cnt c a + n) k f (i : Int) (j : Int) = k (d : Int)
  | 0, i, j, _, _, h, _, _ => by omega
  | f + 1, i, j, hij, hj, hf, h1, h2 => by
    unfold M125_L1
    by_cases h : i < j
    · rw [if_t (by omega), mid_nat (by omega)]
      unfold M126
      rw [show w64 ((a : Int) + (((i + j) / 2 : Nat) : Int)) = ((a + (i + j) / 2 : Nat) : Int) by rw [w64_id (by omega) (by omega)]; omega, M71_arr F c R _ (by omega) hF]
      simp only [Option.bind_some, jn_def]
      by_cases h3 : cnt c (a + (i + j) / 2) ≥ cnt c a + n
      · rw [if_neg (by simpa using h3)]
        exact L125 F c R a n ha hn0 hn1 k hF f i ((i + j) / 2) (by omega) (by omega) (by omega) h1 (.inr h3)
      · rw [if_pos (by simpa using h3), show w64 ((((i + j) / 2 : Nat) : Int) + 1) = (((i + j) / 2 + 1 : Nat) : Int) by rw [w64_id (by omega) (by omega)]; omega]
        refine L125 F c R a n ha hn0 hn1 k hF f _ j (by omega) hj (by omega) (fun e he => ?_) h2
        have := cnt_mono c (a := a + e) (b := a + (i + j) / 2) (by omega)
        omega
    · rw [if_f (by omega)]
      refine ⟨i, ⟨by omega, by omega, fun e h3 h4 => ?_, ?_⟩, rfl⟩
      · have := h1 (e - a) (by omega)
        rwa [show a + (e - a) = e by omega] at this
      · rw [show i = j by omega]; exact h2
theorem M76_eq (F : Nat) (c : TCalendar) (R : Right c) (a : Nat) (n : Int) (ha : a ≤ 1000000) (hn0 : 0 ≤ n) (hn1 : n ≤ 1000000) (hF : 1000003 ≤ F) : ∃ d, Least c a n d ∧ M76 F (wk c) (a : Int) n = some ((d : Int), decide ((d : Int) ≤ 1000000)) := by
  unfold M76
  rw [M71_eq F c R _ (by omega) (by omega), Option.bind_some]
  have hr := cnt_range c a
  rw [w64_id (n := cnt c a + n) (by omega) (by omega), show w64 (1000001 - (a : Int)) = ((1000001 - a : Nat) : Int) by rw [w64_id (by omega) (by omega)]; omega]
  unfold M125
  rw [jn_def]
  obtain ⟨d, hd, e⟩ := L125 F c R a n ha hn0 hn1 (fun n14 => some n14) (by omega) F 0 (1000001 - a) (by omega) (by omega) (by omega) (fun e he => by omega) (.inl (by omega))
  refine ⟨a + d, hd, ?_⟩
  have := hd.le
  rw [show M125_L1 F ((wk c).free 0) ((wk c).free 1) ((wk c).free 2) ((wk c).free 3) ((wk c).free 4) ((wk c).free 5) ((wk c).free 6) (wk c).work (wk c).holidays (a : Int) (cnt c a + n) _ F 0 _ = _ from e, Option.bind_some,
    w64_id (n := (a : Int) + d) (by omega) (by omega)]
  rfl
theorem L77 (F : Nat) (c : TCalendar) (kal : Tprovenderref11_calendar) (h1 : kal.free = fre c) (h2 : ∀ d, isHol kal.holidays d = decide (d ∈ c.Holidays)) (a : Nat) (N : Int) (k : Int → Int → Option (Int × Bool)) :
    ∀ (f i : Nat) (n : Int), a ≤ i → i ≤ 1000001 → 1000001 - i < f → 0 ≤ n → n ≤ 1000000 → cnt c a + N = cnt c i + n → (∀ e, a ≤ e → e < i → cnt c e < cnt c a + N) →
    ∃ (d : Nat) (r : Int), Least c a N d ∧ cnt c a + N = cnt c d + r ∧ 0 ≤ r ∧ M77_L1 F kal k f n (i : Int) = k r (d : Int)
  | 0, i, n, _, _, h, _, _, _, _ => by omega
  | f + 1, i, n, hai, hi, hf, hn0, hn1, he, hlt => by
    unfold M77_L1
    by_cases h3 : n > 0
    · rw [if_t h3]
      by_cases h4 : i ≤ 1000000
      · rw [if_t (by omega), M74_eq F c kal h1 h2, Option.bind_some, jn_def]
        have hp : cnt c (i + 1) = cnt c i + b2i (wd c i) := rfl
        have e : w64 ((i : Int) + 1) = ((i + 1 : Nat) : Int) := by rw [w64_id (by omega) (by omega)]; rfl
        have hlt' : ∀ x, a ≤ x → x < i + 1 → cnt c x < cnt c a + N := by
          intro x hx hx'
          by_cases hxi : x = i
          · subst hxi; omega
          · exact hlt x hx (by omega)
        by_cases h5 : wd c i = true
        · rw [h5] at hp
          simp only [b2i, if_true] at hp
          obtain ⟨d, r, g1, g2, g3, g4⟩ := L77 F c kal h1 h2 a N k f (i + 1) (n - 1) (by omega) (by omega) (by omega) (by omega) (by omega) (by omega) hlt'
          refine ⟨d, r, g1, g2, g3, ?_⟩
          rw [if_pos h5]
          refine (congrArg (fun z => M77_L1 F kal k f z _) (w64_id (n := n - 1) (by omega) (by omega))).trans ?_
          rw [e]; exact g4
        · simp only [b2i, h5, Bool.false_eq_true, if_false] at hp
          obtain ⟨d, r, g1, g2, g3, g4⟩ := L77 F c kal h1 h2 a N k f (i + 1) n (by omega) (by omega) (by omega) (by omega) (by omega) (by omega) hlt'
          refine ⟨d, r, g1, g2, g3, ?_⟩
          rw [if_neg h5]
          refine (congrArg (fun z => M77_L1 F kal k f n z) e).trans ?_
          exact g4
      · rw [if_f (by omega)]
        exact ⟨i, n, ⟨hai, hi, hlt, .inl (by omega)⟩, he, hn0, rfl⟩
    · rw [if_f h3]
      exact ⟨i, n, ⟨hai, hi, hlt, .inr (by omega)⟩, he, hn0, rfl⟩
/-- What 'Add' returns. -/
def AddIs (c : TCalendar) (a n : Int) (r : Int × Int) : Prop :=
  if cal c ≠ 0 then r = (0, cal c) else if (0 ≤ a ∧ a ≤ 1000000) ∧ (0 ≤ n ∧ n ≤ 1000000) then
    ∃ d, Least c a.toNat n d ∧ r = if d ≤ 1000000 then ((d : Int), 0) else (0, 3)
  else r = (0, 9)
theorem AddIs.uniq {c : TCalendar} {a n : Int} {r r' : Int × Int} (h : AddIs c a n r) (h' : AddIs c a n r') : r = r' := by
  unfold AddIs at h h'
  split at h
  · rw [if_pos ‹_›] at h'; rw [h, h']
  · rw [if_neg ‹_›] at h'
    split at h
    · rw [if_pos ‹_›] at h'
      obtain ⟨d, h1, rfl⟩ := h
      obtain ⟨d', h2, rfl⟩ := h'
      rw [h1.uniq h2]
    · rw [if_neg ‹_›] at h'; rw [h, h']
theorem M23_eq (F : Nat) (hF : 5000 ≤ F) : M23 F = some true := by
  unfold M23
  rw [M17_eq F _ _ _ hF, Option.bind_some]
  have : workDays (TCalendar.mk ([5, 6] : List Int) ([] : List Int)) 0 14 = (10, 0) := by decide
  rw [this]
  rfl
end Go.Proofs.Ytkciogeafbbggaa
