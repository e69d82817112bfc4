/- Part of the proof: HD. -/
import Derived.Test.YtkciogeafbbggaaOHC
namespace Go.Proofs.Ytkciogeafbbggaa
open Go Go.Pv
set_option linter.unusedVariables false
def fre (c : TCalendar) (i : Nat) : Bool := decide ((i : Int) ∈ c.Free)
def hol (c : TCalendar) : List Int := c.Holidays.filter fun x => !fre c (Int.tmod x 7).toNat
def wk (c : TCalendar) : Thistory_week := ⟨fre c, 7 - (c.Free.length : Int), hol c⟩
theorem free_step (c : TCalendar) (f : Nat → Bool) (x : Int) (r : List Int) (hx : 0 ≤ x) :
    (fun i => upd f x.toNat true i || decide ((i : Int) ∈ r)) = fun i => f i || decide ((i : Int) ∈ x :: r) := by
  funext i
  simp only [upd_def, List.mem_cons]
  by_cases h : i = x.toNat
  · have hx' : (i : Int) = x := by omega
    rw [if_pos h, decide_eq_true (Or.inl hx' : (i : Int) = x ∨ (i : Int) ∈ r)]
    simp
  · have : (i : Int) ≠ x := by omega
    simp [h, this]
theorem L70_1 (F : Nat) (c : TCalendar) (k : (Nat → Bool) → Option Thistory_week) (R : Right c) : ∀ (n j : Nat) (f : Nat → Bool), j ≤ c.Free.length → c.Free.length - j < n →
    M70_L1 F c k n (j : Int) f = k (fun i => f i || decide ((i : Int) ∈ c.Free.drop j))
  | 0, j, f, _, h => by omega
  | n + 1, j, f, hj, hn => by
    have := R.fl
    unfold M70_L1
    by_cases h : j < c.Free.length
    · have hm := R.fr c.Free[j] (List.getElem_mem h)
      rw [if_t (by omega : (j : Int) < ((c.Free.length : Nat) : Int)), idx_nat h, List.drop_eq_getElem_cons h, Option.bind_some, if_pos (by omega),
        show w64 ((j : Int) + 1) = ((j + 1 : Nat) : Int) by rw [w64_id (by omega) (by omega)]; rfl, L70_1 F c k R n (j + 1) _ (by omega) (by omega), free_step c f _ _ hm.1]
    · rw [if_f (by omega), List.drop_eq_nil_of_le (by omega)]
      simp
theorem L70_2 (F : Nat) (c : TCalendar) (f : Nat → Bool) (k : List Int → Option Thistory_week) (R : Right c) : ∀ (n j : Nat) (l : List Int), j ≤ c.Holidays.length → c.Holidays.length - j < n → l.length ≤ j →
    M70_L2 F c f k n (j : Int) l = k (l ++ (c.Holidays.drop j).filter fun x => !f (Int.tmod x 7).toNat)
  | 0, j, l, _, h, _ => by omega
  | n + 1, j, l, hj, hn, hl => by
    have := R.hl
    unfold M70_L2
    by_cases h : j < c.Holidays.length
    · have hm := R.hr c.Holidays[j] (List.getElem_mem h)
      have e : w64 ((j : Int) + 1) = ((j + 1 : Nat) : Int) := by rw [w64_id (by omega) (by omega)]; rfl
      rw [if_t (by omega : (j : Int) < ((c.Holidays.length : Nat) : Int)), idx_nat h, List.drop_eq_getElem_cons h, Option.bind_some]
      have ht : 0 ≤ Int.tmod c.Holidays[j] 7 ∧ (Int.tmod c.Holidays[j] 7).toNat < 7 := by
        rw [Int.tmod_eq_emod_of_nonneg hm.1]; omega
      rw [if_pos ht, jn_def, List.filter_cons]
      by_cases h1 : (!f (Int.tmod c.Holidays[j] 7).toNat) = true
      · rw [if_pos h1, if_pos h1, if_pos (by simp; omega), e]
        refine (L70_2 F c f k R n (j + 1) _ (by omega) (by omega) (by simp; omega)).trans ?_
        simp
      · rw [if_neg h1, if_neg h1, e]
        exact L70_2 F c f k R n (j + 1) _ (by omega) (by omega) (by omega)
    · rw [if_f (by omega), List.drop_eq_nil_of_le (by omega)]
      simp
theorem M70_eq (F : Nat) (c : TCalendar) (R : Right c) (hF : 5000 ≤ F) : M70 F c = some (wk c) := by
  have h1 := R.fl
  have h2 := R.hl
  unfold M70
  simp only [jn_def]
  have e1 := fun k => L70_1 F c k R F 0 (fun _ => false) (by omega) (by omega)
  have e2 := fun f k => L70_2 F c f k R F 0 [] (by omega) (by omega) (by simp)
  refine (e1 _).trans ?_
  refine (e2 _ _).trans ?_
  rw [w64_id (by omega) (by omega)]
  simp only [List.drop_zero, Bool.false_or, List.nil_append]
  rfl
theorem M140_eq (F : Nat) (a : Int) : M140 F a = some false := by simp [M140]
theorem M109_eq (F : Nat) (a : Int) : M109 F a = some false := by simp [M109]
theorem M108_eq (F : Nat) (a b : Int) : M108 F a b = some (decide (a < b)) := by simp [M108, M140_eq]
def below (l : List Int) (t : Int) : Nat := l.countP fun x => decide (x < t)
theorem sorted_get {l : List Int} (h : l.Pairwise (· < ·)) {i j : Nat} {x y : Int} (hi : l[i]? = some x) (hj : l[j]? = some y) (hij : i < j) : x < y := by
  obtain ⟨hi', rfl⟩ := List.getElem?_eq_some_iff.1 hi
  obtain ⟨hj', rfl⟩ := List.getElem?_eq_some_iff.1 hj
  exact List.pairwise_iff_getElem.1 h i j hi' hj' hij
theorem L53 (F : Nat) (l : List Int) (t : Int) (k : Int → Option (Int × Bool)) (hs : l.Pairwise (· < ·)) (hl : l.length < 4611686018427387904 / 2) : ∀ (n a b : Nat), a ≤ b → b ≤ l.length → b - a < n →
    (∀ i x, i < a → l[i]? = some x → x < t) → (∀ i x, b ≤ i → l[i]? = some x → ¬ x < t) → M53_L1 F l t k n (a : Int) (b : Int) = k (below l t : Int)
  | 0, a, b, _, _, h, _, _ => by omega
  | n + 1, a, b, hab, hb, hn, h1, h2 => by
    unfold M53_L1
    by_cases h : a < b
    · rw [if_t (by omega), mid_nat (by omega), idx_nat (by omega), Option.bind_some, M108_eq, Option.bind_some, jn_def]
      have hg : l[(a + b) / 2]? = some l[(a + b) / 2] := List.getElem?_eq_getElem (by omega)
      by_cases h3 : l[(a + b) / 2] < t
      · rw [if_t h3, show w64 ((((a + b) / 2 : Nat) : Int) + 1) = (((a + b) / 2 + 1 : Nat) : Int) by rw [w64_id (by omega) (by omega)]; omega]
        refine L53 F l t k hs hl n _ b (by omega) hb (by omega) (fun i x hi hx => ?_) h2
        by_cases he : i = (a + b) / 2
        · subst he; rw [hg] at hx; simp only [Option.some.injEq] at hx; omega
        · have := sorted_get hs hx hg (by omega); omega
      · rw [if_f h3]
        refine L53 F l t k hs hl n a _ (by omega) (by omega) (by omega) h1 fun i x hi hx => ?_
        by_cases he : i = (a + b) / 2
        · subst he; rw [hg] at hx; simp only [Option.some.injEq] at hx; omega
        · have := sorted_get hs hg hx (by omega); omega
    · rw [if_f (by omega)]
      have : below l t = a := countP_cut _ l a (by omega) (fun i x hi hx => by simpa using h1 i x hi hx) (fun i x hi hx => by simpa using h2 i x (by omega) hx)
      rw [this]
theorem M53_eq (F : Nat) (l : List Int) (t : Int) (hs : l.Pairwise (· < ·)) (hl : l.length < 4611686018427387904 / 2) (hF : l.length < F) : ∃ b, M53 F l t = some ((below l t : Int), b) := by
  unfold M53
  rw [jn_def]
  have := fun k => L53 F l t k hs hl F 0 l.length (by omega) (by omega) (by omega) (fun i x hi => by omega) (fun i x hi hx => by
    have := (List.getElem?_eq_some_iff.1 hx).1; omega)
  rw [show M53_L1 F l t _ F 0 (l.length : Int) = _ from this _]
  by_cases h : below l t < l.length
  · rw [if_t (by omega), idx_nat h]
    simp only [Option.bind_some, M109_eq]
    by_cases h2 : (l[below l t] == t) = true
    · rw [if_pos h2]; exact ⟨_, rfl⟩
    · rw [if_neg h2]; exact ⟨_, rfl⟩
  · rw [if_f (by omega)]; exact ⟨_, rfl⟩
def wd (c : TCalendar) (d : Nat) : Bool := !fre c (d % 7) && !decide ((d : Int) ∈ c.Holidays)
def b2i (b : Bool) : Int := if b then 1 else 0
def cnt (c : TCalendar) : Nat → Int
  | 0 => 0
  | d + 1 => cnt c d + b2i (wd c d)
def part (c : TCalendar) : Nat → Int
  | 0 => 0
  | i + 1 => part c i + b2i (!fre c i)
theorem cnt_range (c : TCalendar) : ∀ i, 0 ≤ cnt c i ∧ cnt c i ≤ i
  | 0 => by simp [cnt]
  | i + 1 => by
    have := cnt_range c i
    simp only [cnt, b2i]
    split <;> omega
theorem cnt_mono (c : TCalendar) {a b : Nat} (h : a ≤ b) : cnt c a ≤ cnt c b := by
  induction h with
  | refl => omega
  | step h ih => simp only [cnt, b2i]; split <;> omega
theorem countP_split {α : Type} (l : List α) (p q : α → Bool) (h : ∀ x, ¬ (p x = true ∧ q x = true)) : l.countP (fun x => p x || q x) = l.countP p + l.countP q := by
  induction l with
  | nil => rfl
  | cons x l ih =>
    simp only [List.countP_cons, ih]
    have := h x
    cases hp : p x <;> cases hq : q x <;> simp_all <;> omega
theorem free_count (l : List Int) (hs : l.Pairwise (· < ·)) (hr : ∀ x, x ∈ l → 0 ≤ x ∧ x ≤ 6) : ((List.range 7).countP fun (i : Nat) => decide ((i : Int) ∈ l)) = l.length := by
  induction l with
  | nil => decide
  | cons x l ih =>
    have h1 := ih (List.pairwise_cons.1 hs).2 (fun y hy => hr y (List.mem_cons_of_mem _ hy))
    have hx := hr x List.mem_cons_self
    have e : (fun i : Nat => decide ((i : Int) ∈ x :: l)) = fun i : Nat => (decide (i = x.toNat)) || decide ((i : Int) ∈ l) := by
      funext i
      have : (i : Int) = x ↔ i = x.toNat := by omega
      simp [this]
    rw [e, countP_split, h1]
    · have : (List.range 7).countP (fun i => decide (i = x.toNat)) = 1 :=
        (show ∀ y : Nat, y < 7 → (List.range 7).countP (fun i => decide (i = y)) = 1 by decide) _ (by omega)
      rw [this, List.length_cons]; omega
    · rintro i ⟨h2, h3⟩
      simp only [decide_eq_true_eq] at h2 h3
      have := (List.pairwise_cons.1 hs).1 _ h3
      omega
theorem part_seven (c : TCalendar) (R : Right c) : part c 7 = 7 - (c.Free.length : Int) := by
  have h := free_count c.Free R.fs R.fr
  have : ∀ n, part c n = n - ((List.range n).countP fun (i : Nat) => decide ((i : Int) ∈ c.Free) : Nat) := by
    intro n
    induction n with
    | zero => simp [part]
    | succ n ih =>
      rw [List.range_succ, List.countP_append, part, ih]
      simp only [b2i, fre, List.countP_cons, List.countP_nil]
      by_cases hn : (n : Int) ∈ c.Free <;> simp [hn] <;> omega
  rw [this 7, h]
  rfl
theorem below_succ (l : List Int) (hs : l.Pairwise (· < ·)) (d : Nat) : (below l ((d + 1 : Nat) : Int) : Int) = below l (d : Int) + b2i (decide ((d : Int) ∈ l)) := by
  unfold below
  have e : (fun x : Int => decide (x < ((d + 1 : Nat) : Int))) = fun x : Int => (decide (x < (d : Int))) || decide (x = (d : Int)) := by
    funext x
    by_cases h1 : x < (d : Int)
    · simp [h1]; omega
    · by_cases h2 : x = (d : Int)
      · simp [h2]; omega
      · simp [h1, h2]; omega
  rw [e, countP_split _ _ _ (by rintro x ⟨h1, h2⟩; simp only [decide_eq_true_eq] at h1 h2; omega)]
  have : ∀ l : List Int, l.Pairwise (· < ·) → (l.countP (fun x => decide (x = (d : Int))) : Int) = b2i (decide ((d : Int) ∈ l)) := by
    intro l hl
    induction l with
    | nil => rfl
    | cons x l ih =>
      have h1 := ih (List.pairwise_cons.1 hl).2
      rw [List.countP_cons]
      by_cases hx : x = (d : Int)
      · have hn : ¬ (d : Int) ∈ l := fun hm => by have := (List.pairwise_cons.1 hl).1 _ hm; omega
        simp only [b2i, hn, decide_false] at h1
        simp only [hx, decide_true, if_true, b2i, List.mem_cons, true_or]
        simp only [Bool.false_eq_true, if_false] at h1
        omega
      · have : (d : Int) ≠ x := fun e => hx e.symm
        simp only [hx, decide_false, b2i, List.mem_cons, this, false_or]
        simpa [b2i] using h1
  rw [← this l hs]
  omega
theorem below_zero (l : List Int) (hr : ∀ x, x ∈ l → 0 ≤ x) : below l 0 = 0 := by
  unfold below
  rw [List.countP_eq_zero]
  intro x hx
  have := hr x hx
  simp; omega
theorem hol_sorted (c : TCalendar) (R : Right c) : (hol c).Pairwise (· < ·) := R.hs.filter _
theorem hol_len (c : TCalendar) (R : Right c) : (hol c).length ≤ 2000 := Nat.le_trans (List.length_filter_le _ _) R.hl
theorem cnt_eq (c : TCalendar) (R : Right c) (d : Nat) : cnt c d = ((d / 7 : Nat) : Int) * (7 - (c.Free.length : Int)) + part c (d % 7) - below (hol c) (d : Int) := by
  induction d with
  | zero =>
    have : below (hol c) ((0 : Nat) : Int) = 0 := below_zero _ fun x hx => (R.hr x (List.mem_filter.1 hx).1).1
    rw [this]
    simp [cnt, part]
  | succ d ih =>
    rw [below_succ _ (hol_sorted c R), cnt, ih]
    have hm : (d : Int) ∈ hol c ↔ (d : Int) ∈ c.Holidays ∧ fre c (d % 7) = false := by
      simp only [hol, List.mem_filter]
      have : (Int.tmod (d : Int) 7).toNat = d % 7 := by rw [Int.tmod_eq_emod_of_nonneg (by omega)]; omega
      rw [this]; simp
    have hw : b2i (wd c d) = b2i (!fre c (d % 7)) - b2i (decide ((d : Int) ∈ hol c)) := by
      simp only [wd]
      by_cases h1 : fre c (d % 7) = true
      · have : ¬ (d : Int) ∈ hol c := by rw [hm]; simp [h1]
        simp [b2i, h1, this]
      · simp only [Bool.not_eq_true] at h1
        by_cases h2 : (d : Int) ∈ c.Holidays
        · have : (d : Int) ∈ hol c := by rw [hm]; exact ⟨h2, h1⟩
          simp [b2i, h1, h2, this]
        · have : ¬ (d : Int) ∈ hol c := by rw [hm]; simp [h2]
          simp [b2i, h1, h2, this]
    rw [hw]
    have h7 := part_seven c R
    by_cases h6 : d % 7 = 6
    · have e1 : (d + 1) / 7 = d / 7 + 1 := by omega
      have e2 : (d + 1) % 7 = 0 := by omega
      rw [e1, e2, h6]
      have : part c 7 = part c 6 + b2i (!fre c 6) := rfl
      have e3 : (((d / 7 + 1 : Nat) : Int)) * (7 - (c.Free.length : Int)) = ((d / 7 : Nat) : Int) * (7 - (c.Free.length : Int)) + (7 - (c.Free.length : Int)) := by
        rw [Int.natCast_add, Int.add_mul]; simp
      rw [e3, show part c 0 = 0 from rfl]
      omega
    · have e1 : (d + 1) / 7 = d / 7 := by omega
      have e2 : (d + 1) % 7 = d % 7 + 1 := by omega
      rw [e1, e2, part]
      omega
end Go.Proofs.Ytkciogeafbbggaa
