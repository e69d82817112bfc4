/- Part of the proof: HNum. -/
import Derived.Test.YtkciogeafbbggaaNHWin
namespace Go.Proofs.Ytkciogeafbbggaa
open Go Go.Pv
set_option linter.unusedVariables false
def nOpen (s : TStory) (day : Int) : Nat := (onSel (kmap [] s.Known) day (usedR s day)).length
theorem nOpen_pcs {s : TStory} (R : RightS s) (day : Int) : ((pcs (kmap [] s.Known) s.Until s.Releases).filter (onDay day)).length = nOpen s day := by
  unfold nOpen
  rw [← on_eq R day, List.length_map]
theorem M91_eq (F : Nat) (s : TStory) : M91 F s = some (Tprovenderref11_view.mk s (kmap [] s.Known)) := by
  unfold M91
  rw [jn_def, M91_L1_eq]
theorem M92_eq (F : Nat) (s : TStory) (R : RightS s) (day : Int) : M92 F (Tprovenderref11_view.mk s (kmap [] s.Known)) day = some (onSel (kmap [] s.Known) day (usedR s day)) := by
  unfold M92
  rw [M89_eq, Option.bind_some, jn_def]
  simp only
  have hlen : ((usedR s day).getD noRel).Exposures.length ≤ 500 := by
    cases hu : usedR s day with
    | none => simp [noRel]
    | some r => exact (exps_zero (R.rel r (usedR_mem hu)).2.2.2).1
  have := fun k => filterL (g := M92_L1 F (Tprovenderref11_view.mk s (kmap [] s.Known)) day k) (k := k) (isOp (kmap [] s.Known) day) 1000 (fun _ => rfl) (fun x l o ho => by
    rw [M92_L1, M130_eq, Option.bind_some]
    simp only [jn_def]
    split
    · rw [if_pos (by simp; omega)]
    · rfl) ((usedR s day).getD noRel).Exposures [] (by simp; omega)
  rw [this]
  simp [onSel]
theorem M119_L1_eq (F : Nat) (day : Int) (k : Int → Option Int) : ∀ (l : List Thistory_piece) (n : Nat), n + l.length ≤ 1000000 → M119_L1 F day k l (n : Int) = k ((n + (l.filter (onDay day)).length : Nat) : Int)
  | [], n, _ => by simp [M119_L1]
  | p :: l, n, h => by
    simp only [List.length_cons] at h
    rw [M119_L1]
    simp only [jn_def, List.filter_cons]
    by_cases h1 : p.from_ ≤ day
    · rw [if_t h1]
      by_cases h2 : day < p.to
      · rw [if_t h2, if_pos (show onDay day p = true by simp [onDay, h1, h2]), show w64 ((n : Int) + 1) = ((n + 1 : Nat) : Int) by rw [w64_id (by omega) (by omega)]; rfl, M119_L1_eq F day k l (n + 1) (by omega), List.length_cons]
        congr 2; omega
      · rw [if_f h2, if_neg (show ¬ onDay day p = true by simp [onDay, h2]), M119_L1_eq F day k l n (by omega)]
    · rw [if_f h1, if_neg (show ¬ onDay day p = true by simp [onDay, h1]), M119_L1_eq F day k l n (by omega)]
theorem M119_eq (F : Nat) (s : TStory) (R : RightS s) (day : Int) : M119 F (pcs (kmap [] s.Known) s.Until s.Releases) day = some ((nOpen s day : Nat) : Int) := by
  unfold M119
  rw [jn_def]
  have := M119_L1_eq F day (fun n4 => some n4) (pcs (kmap [] s.Known) s.Until s.Releases) 0 (by have := pcs_len R (kmap [] s.Known); omega)
  rw [show ((0 : Nat) : Int) = 0 from rfl] at this
  rw [this, Nat.zero_add, nOpen_pcs R]
theorem M60_L2_eq (F : Nat) (a b n : Int) : ∀ (l : List TWindow) (p q : Int), ∃ p' q', ∀ k, M60_L2 F a b n k l p q = k p' q' ∧ M61_L2 F a b n k l p q = k p' q'
  | [], p, q => ⟨p, q, fun k => ⟨rfl, rfl⟩⟩
  | w :: l, p, q => by
    simp only [M60_L2, M61_L2, jn_def]
    repeat' split
    all_goals exact M60_L2_eq F a b n l _ _
theorem M60_L1_eq (F : Nat) (s : TStory) (R : RightS s) (a b : Int) (W : List TWindow) (k : List TTally → Option (List TTally × Int)) : ∀ (m : Nat) (n : Int) (o : List TTally), o.length + m ≤ 1000 →
    ∃ r, M60_L1 F a b (pcs (kmap [] s.Known) s.Until s.Releases) W k m n o = k r ∧ M61_L1 F a b (Tprovenderref11_view.mk s (kmap [] s.Known)) W k m n o = k r
  | 0, n, o, _ => ⟨o, rfl, rfl⟩
  | m + 1, n, o, h => by
    rw [M60_L1, M61_L1]
    simp only [jn_def, M119_eq F s R, M92_eq F s R, Option.bind_some]
    obtain ⟨p, q, hpq⟩ := M60_L2_eq F a b n W 0 0
    rw [(hpq _).1, (hpq _).2]
    rw [if_pos (by simp; omega), if_pos (by simp; omega)]
    exact M60_L1_eq F s R a b W k m (n + 1) _ (by simp; omega)
theorem tallies_eq (F : Nat) (s : TStory) (h : okSt s) (hF : 1000000 ≤ F) (a b c : Int) : ∃ r, M60 F s a b c = some r ∧ M61 F s a b c = some r := by
  unfold M60 M61
  rw [M35_eq F s h, M36_eq F s h, Option.bind_some, Option.bind_some]
  by_cases h0 : (chk s != 0) = true
  · rw [if_pos h0, if_pos h0]; exact ⟨_, rfl, rfl⟩
  rw [if_neg h0, if_neg h0]
  have R := right_of_chk (s := s) (by simpa using h0)
  split
  · exact ⟨_, rfl, rfl⟩
  split
  · exact ⟨_, rfl, rfl⟩
  split
  · exact ⟨_, rfl, rfl⟩
  split
  · exact ⟨_, rfl, rfl⟩
  split
  · exact ⟨_, rfl, rfl⟩
  split
  · exact ⟨_, rfl, rfl⟩
  rename_i hc
  split
  · exact ⟨_, rfl, rfl⟩
  have hc : c ≤ 1000 := by simpa using hc
  obtain ⟨raw, W, _, w1, w2, _⟩ := windows_eq F s R hF
  rw [M90_eq F s R, M91_eq, w1, w2]
  simp only [Option.bind_some, jn_def]
  rw [if_pos (by omega), if_pos (by omega)]
  obtain ⟨r, r1, r2⟩ := M60_L1_eq F s R a b W (fun l20 => some (l20, 0)) c.toNat 0 [] (by simp; omega)
  rw [r1, r2]
  exact ⟨_, rfl, rfl⟩
theorem M68_eq (F : Nat) (a b : List TTally) : M68 F a b = some (decide (a = b)) := by
  unfold M68
  simp only [jn_def]
  exact eqL_all b (g := M68_L1 F b (some true)) (fun _ => rfl) (fun x l n => by rw [M68_L1]) a
theorem tmod_lt (a : Int) {b : Int} (hb : b ≠ 0) : (Int.tmod a b).natAbs < b.natAbs := by
  rw [Int.natAbs_tmod]
  exact Nat.mod_lt _ (by omega)
theorem gcd_loop (F : Nat) : ∀ (f : Nat) (a b : Int), (a ≠ 0 ∨ b ≠ 0) → b.natAbs < f → ∃ g, g ≠ 0 ∧ (∀ k, M121_L1 F k f a b = k g) ∧ ∀ k, M145_L1 F k f a b = k g
  | 0, a, b, _, h => by omega
  | f + 1, a, b, h0, h => by
    by_cases hb : b = 0
    · refine ⟨a, by rcases h0 with h0 | h0; exact h0; exact absurd hb h0, fun k => ?_, fun k => ?_⟩
      · rw [M121_L1, if_neg (by simp [hb])]
      · rw [M145_L1, if_neg (by simp [hb])]
    · obtain ⟨g, g0, g1, g2⟩ := gcd_loop F f b (Int.tmod a b) (.inl hb) (by have := tmod_lt a hb; omega)
      refine ⟨g, g0, fun k => ?_, fun k => ?_⟩
      · rw [M121_L1, if_pos (by simpa using hb), if_pos hb, g1]
      · rw [M145_L1, if_pos (by simpa using hb), if_pos hb, g2]
theorem low_eq (F : Nat) (a b : Int) (hb : 0 < b) (hF : b.natAbs < F) : ∃ r, M121 F a b = some r ∧ M123 F a b = some r := by
  unfold M121 M123 M145
  simp only [jn_def]
  obtain ⟨g, g0, g1, g2⟩ := gcd_loop F F (if w64 (0 - a) > a then w64 (0 - a) else a) b (.inr (by omega)) hF
  rw [if_f (by omega), g1, g2, Option.bind_some, if_pos g0, if_pos g0]
  exact ⟨_, rfl, rfl⟩
def cls (sv : Int) (l : List TWindow) : List Int := l.filterMap fun w => if w.Open then none else if w.Severity ≥ sv then some (w64 (w.To - w.From)) else none
theorem M122_L1_eq (F : Nat) (sv : Int) (k : List Int → Option (List Int)) : ∀ (l : List TWindow) (o : List Int), o.length + l.length ≤ 1000000 → M122_L1 F sv k l o = k (o ++ cls sv l) ∧ M120_L1 F sv k l o = k (o ++ cls sv l)
  | [], o, _ => by simp [M122_L1, M120_L1, cls]
  | w :: l, o, h => by
    simp only [List.length_cons] at h
    rw [M122_L1, M120_L1]
    simp only [jn_def]
    unfold cls
    rw [List.filterMap_cons]
    cases hw : w.Open
    · simp only [Bool.not_false, if_true, Bool.false_eq_true, if_false]
      by_cases hs : w.Severity ≥ sv
      · rw [if_t hs, if_t hs, if_pos hs, if_pos (by simp; omega), if_pos (by simp; omega)]
        have := M122_L1_eq F sv k l (o ++ [w64 (w.To - w.From)]) (by simp; omega)
        rw [this.1, this.2]
        simp [cls]
      · rw [if_f hs, if_f hs, if_neg hs]
        exact M122_L1_eq F sv k l o (by omega)
    · simp only [Bool.not_true, Bool.false_eq_true, if_false, if_true]
      exact M122_L1_eq F sv k l o (by omega)
theorem cls_len (sv : Int) (l : List TWindow) : (cls sv l).length ≤ l.length := List.length_filterMap_le _ _
theorem lens_eq (F : Nat) (s : TStory) (R : RightS s) (hF : 1000000 ≤ F) (sv : Int) : ∃ c : List Int, c.length ≤ 250000 ∧ M122 F s sv = some c ∧ M120 F s sv = some (isort c) := by
  obtain ⟨raw, W, hM, w1, w2, _, hp⟩ := windows_eq F s R hF
  have hW : W.length ≤ 250000 := by
    have := hp.length_eq
    have h2 := hM.len
    have h3 := pcs_len R (kmap [] s.Known)
    simp at this h2
    omega
  refine ⟨cls sv W, Nat.le_trans (cls_len _ _) hW, ?_, ?_⟩
  · unfold M122
    rw [w2, Option.bind_some, jn_def, (M122_L1_eq F sv _ W [] (by simp; omega)).1, List.nil_append]
  · unfold M120
    rw [w1, Option.bind_some, jn_def, (M122_L1_eq F sv _ W [] (by simp; omega)).2, List.nil_append]
    have := cls_len sv W
    unfold M144
    rw [if_pos (by omega), Option.bind_some, if_pos (by simp [isort])]
theorem M113_eq (F : Nat) (s : TStory) (a b c : Int) (h : okSt s) : M113 F s a b c = some (if chk s ≠ 0 then chk s else if a < 0 ∨ a > b ∨ b > 1000000 ∨ c < 0 ∨ c > 100 then 9 else 0) := by
  unfold M113
  rw [M35_eq F s h, Option.bind_some]
  refine ite2 ne0 (fun _ => rfl) (fun _ => ?_)
  by_cases h1 : a < 0
  · rw [if_t h1, if_pos (.inl h1)]
  by_cases h2 : a > b
  · rw [if_f h1, if_t h2, if_pos (.inr (.inl h2))]
  by_cases h3 : b > 1000000
  · rw [if_f h1, if_f h2, if_t h3, if_pos (.inr (.inr (.inl h3)))]
  by_cases h4 : c < 0
  · rw [if_f h1, if_f h2, if_f h3, if_t h4, if_pos (.inr (.inr (.inr (.inl h4))))]
  by_cases h5 : c > 100
  · rw [if_f h1, if_f h2, if_f h3, if_f h4, if_t h5, if_pos (.inr (.inr (.inr (.inr h5))))]
  rw [if_f h1, if_f h2, if_f h3, if_f h4, if_f h5, if_neg (by omega)]
theorem M117_eq (F : Nat) (c : Int) : M117 F c = some (decide (c < 0 ∨ c > 100)) := by
  unfold M117
  by_cases h1 : c < 0
  · rw [if_t h1]; simp [h1]
  · rw [if_f h1]; simp [h1]
theorem w64_w64 (a b : Int) : w64 (w64 a + b) = w64 (a + b) := by
  simp only [IntKind.wrap_i64]; omega
theorem fold_w64 : ∀ (l : List Int) (n : Int), l.foldl (fun n x => w64 (n + x)) (w64 n) = w64 (n + l.foldr (· + ·) 0)
  | [], n => by simp
  | x :: l, n => by
    rw [List.foldl_cons, w64_w64, fold_w64 l, List.foldr_cons]
    congr 1; omega
theorem fold_perm {a b : List Int} (h : a.Perm b) : a.foldr (· + ·) 0 = b.foldr (· + ·) 0 := by
  induction h with
  | nil => rfl
  | cons x _ ih => simp [ih]
  | swap x y l => simp; omega
  | trans _ _ i1 i2 => exact i1.trans i2
theorem M62_L1_eq (F : Nat) (k : Int → Option (Int × Int × Int)) : ∀ (l : List Int) (n : Int), M62_L1 F k l n = k (l.foldl (fun n x => w64 (n + x)) n) ∧ M63_L1 F k l n = k (l.foldl (fun n x => w64 (n + x)) n)
  | [], n => ⟨rfl, rfl⟩
  | x :: l, n => by
    rw [M62_L1, M63_L1, List.foldl_cons]
    exact M62_L1_eq F k l _
theorem isort_perm (l : List Int) : (isort l).Perm l := List.mergeSort_perm _ _
theorem mean_eq (F : Nat) (s : TStory) (h : okSt s) (hF : 1000000 ≤ F) (sv : Int) : ∃ r, M62 F s sv = some r ∧ M63 F s sv = some r := by
  unfold M62 M63
  rw [M113_eq F s _ _ _ h, M36_eq F s h, Option.bind_some, Option.bind_some]
  by_cases h0 : chk s ≠ 0
  · rw [if_pos h0, if_pos (by simpa using h0), if_pos (by simpa using h0)]; exact ⟨_, rfl, rfl⟩
  have h0' : chk s = 0 := by simpa using h0
  have R := right_of_chk h0'
  rw [if_neg h0, M117_eq, Option.bind_some, h0', if_neg (show ¬ ((0 : Int) != 0) = true by simp)]
  by_cases h1 : sv < 0 ∨ sv > 100
  · rw [if_pos (show (0 : Int) < 0 ∨ (0 : Int) > 0 ∨ (0 : Int) > 1000000 ∨ sv < 0 ∨ sv > 100 by omega), if_pos (by simp), if_t h1]; exact ⟨_, rfl, rfl⟩
  rw [if_neg (show ¬ ((0 : Int) < 0 ∨ (0 : Int) > 0 ∨ (0 : Int) > 1000000 ∨ sv < 0 ∨ sv > 100) by omega), if_neg (by simp), if_f h1]
  obtain ⟨c, c0, c1, c2⟩ := lens_eq F s R hF sv
  have hl : (isort c).length = c.length := (isort_perm c).length_eq
  rw [c1, c2, Option.bind_some, Option.bind_some, hl]
  by_cases h2 : c = []
  · rw [if_pos (by simp [h2]), if_pos (by simp [h2])]; exact ⟨_, rfl, rfl⟩
  have hpos : 0 < c.length := List.length_pos_iff.2 h2
  rw [if_neg (by simp [h2]), if_neg (by simp [h2])]
  simp only [jn_def]
  rw [(M62_L1_eq F _ _ _).1, (M62_L1_eq F _ _ _).2]
  have e : (isort c).foldl (fun n x => w64 (n + x)) 0 = c.foldl (fun n x => w64 (n + x)) 0 := by
    have e1 := fold_w64 (isort c) 0
    have e2 := fold_w64 c 0
    rw [show w64 0 = 0 from rfl] at e1 e2
    rw [e1, e2, fold_perm (isort_perm c)]
  rw [e]
  obtain ⟨r, r1, r2⟩ := low_eq F (c.foldl (fun n x => w64 (n + x)) 0) ((c.length : Nat) : Int) (by omega) (by simp; omega)
  rw [r1, r2]
  exact ⟨_, rfl, rfl⟩
def lessN (v : Int) (l : List Int) : Nat := l.countP fun y => decide (y < v)
def sameN (v : Int) (l : List Int) : Nat := l.countP fun y => y == v
theorem less_cons (v x : Int) (l : List Int) : lessN v (x :: l) = lessN v l + if x < v then 1 else 0 := by unfold lessN; rw [List.countP_cons]; simp
theorem same_cons (v x : Int) (l : List Int) : sameN v (x :: l) = sameN v l + if x = v then 1 else 0 := by unfold sameN; rw [List.countP_cons]; simp
theorem cnt_le (v : Int) : ∀ l : List Int, lessN v l + sameN v l ≤ l.length
  | [] => by simp [lessN, sameN]
  | x :: l => by
    have := cnt_le v l
    rw [less_cons, same_cons, List.length_cons]
    split <;> split <;> omega
theorem cnt_all (v : Int) : ∀ l : List Int, (∀ y, y ∈ l → y ≤ v) → lessN v l + sameN v l = l.length
  | [], _ => by simp [lessN, sameN]
  | x :: l, h => by
    have ih := cnt_all v l (fun y hy => h y (List.mem_cons_of_mem _ hy))
    have hx := h x (by simp)
    rw [less_cons, same_cons, List.length_cons]
    split <;> split <;> omega
theorem cnt_less (v : Int) (l : List Int) (h : ∀ y, y ∈ l → y < v) : lessN v l = l.length := by
  unfold lessN
  rw [List.countP_eq_length]
  intro y hy; simpa using h y hy
theorem cnt_zero (v : Int) (l : List Int) (h : ∀ y, y ∈ l → v < y) : lessN v l = 0 ∧ sameN v l = 0 := by
  unfold lessN sameN
  rw [List.countP_eq_zero, List.countP_eq_zero]
  exact ⟨fun y hy => by have := h y hy; simp; omega, fun y hy => by have := h y hy; simp; omega⟩
theorem mid_count {s : List Int} (hs : s.Pairwise (fun a b => a ≤ b)) {p : Nat} (hp : p < s.length) (v : Int) : (lessN v s ≤ p ∧ p < lessN v s + sameN v s) ↔ s[p] = v := by
  obtain ⟨A, x, B, e, hA, hx⟩ : ∃ A x B, s = A ++ x :: B ∧ A.length = p ∧ s[p] = x :=
    ⟨s.take p, s[p], s.drop (p + 1), by rw [← List.drop_eq_getElem_cons hp, List.take_append_drop], by rw [List.length_take]; omega, rfl⟩
  rw [hx]
  rw [e, List.pairwise_append, List.pairwise_cons] at hs
  have hlow : ∀ y, y ∈ A → y ≤ x := fun y hy => hs.2.2 y hy x (by simp)
  have hhigh : ∀ y, y ∈ B → x ≤ y := fun y hy => hs.2.1.1 y hy
  have el : lessN v s = lessN v A + lessN v (x :: B) := by rw [e]; unfold lessN; rw [List.countP_append]
  have es : sameN v s = sameN v A + sameN v (x :: B) := by rw [e]; unfold sameN; rw [List.countP_append]
  have c1 := cnt_le v A
  rw [el, es]
  constructor
  · rintro ⟨h1, h2⟩
    rcases Int.lt_trichotomy x v with h | h | h
    · have c2 := cnt_less v A (fun y hy => by have := hlow y hy; omega)
      rw [less_cons, if_pos h] at h1
      omega
    · exact h
    · have c2 := cnt_zero v (x :: B) (fun y hy => by
        rcases List.mem_cons.1 hy with rfl | hy
        · exact h
        · have := hhigh y hy; omega)
      omega
  · intro h
    subst h
    have c2 := cnt_all x A hlow
    have c3 : lessN x (x :: B) = 0 := by
      unfold lessN
      rw [List.countP_eq_zero]
      intro y hy
      rcases List.mem_cons.1 hy with rfl | hy
      · simp
      · have := hhigh y hy; simp; omega
    have c4 : 1 ≤ sameN x (x :: B) := by rw [same_cons, if_pos rfl]; omega
    omega
theorem isort_srt (l : List Int) : (isort l).Pairwise (fun a b => a ≤ b) := by
  have := List.pairwise_mergeSort (le := fun x y : Int => decide (x ≤ y)) (fun a b c h g => by simp at *; omega) (fun a b => by simp; omega) l
  exact this.imp (fun h => by simpa using h)
theorem M65_L2_eq (F : Nat) (v : Int) (k : Int → Int → Option (Int × Bool × Int)) : ∀ (l : List Int) (n m : Nat), n + m + 2 * l.length ≤ 10000000 → M65_L2 F v k l (n : Int) (m : Int) = k ((n + lessN v l : Nat) : Int) ((m + sameN v l : Nat) : Int)
  | [], n, m, _ => by rw [M65_L2]; simp [lessN, sameN]
  | x :: l, n, m, h => by
    simp only [List.length_cons] at h
    rw [M65_L2]
    simp only [jn_def]
    have e1 : w64 ((n : Int) + 1) = ((n + 1 : Nat) : Int) := by rw [w64_id (by omega) (by omega)]; rfl
    have e2 : w64 ((m : Int) + 1) = ((m + 1 : Nat) : Int) := by rw [w64_id (by omega) (by omega)]; rfl
    rw [e1, e2, less_cons, same_cons]
    by_cases h1 : x < v
    · have h2 : ¬ x = v := by omega
      rw [if_t h1, if_neg (by simpa using h2), M65_L2_eq F v k l (n + 1) m (by omega), if_pos h1, if_neg h2]
      congr 2; omega
    · rw [if_f h1]
      by_cases h2 : x = v
      · rw [if_pos (by simp [h2]), M65_L2_eq F v k l n (m + 1) (by omega), if_neg h1, if_pos h2]
        congr 2; omega
      · rw [if_neg (by simpa using h2), M65_L2_eq F v k l n m (by omega), if_neg h1, if_neg h2]
        rfl
theorem cnt_perm {a b : List Int} (h : a.Perm b) (v : Int) : lessN v a = lessN v b ∧ sameN v a = sameN v b := ⟨h.countP_eq _, h.countP_eq _⟩
theorem M65_L1_eq (F : Nat) (c : List Int) (hc : c.length ≤ 250000) (p : Nat) (hp : p < (isort c).length) (hpp : w64 (Int.tdiv (w64 (((c.length : Nat) : Int) - 1)) 2) = (p : Int)) (k : Option (Int × Bool × Int)) :
    ∀ l : List Int, M65_L1 F c k l = if (isort c)[p] ∈ l then some ((isort c)[p], true, 0) else k
  | [] => by rw [M65_L1]; simp
  | x :: l => by
    rw [M65_L1]
    simp only [jn_def]
    have hm := M65_L2_eq F x (fun n19 n20 => if (decide (n19 ≤ (w64 (Int.tdiv (w64 (((c.length : Nat) : Int) - 1)) 2)))) = true then if (decide ((w64 (Int.tdiv (w64 (((c.length : Nat) : Int) - 1)) 2)) < (w64 (n19 + n20)))) = true then some (x, true, 0) else M65_L1 F c k l else M65_L1 F c k l) c 0 0 (by omega)
    rw [show ((0 : Nat) : Int) = 0 from rfl] at hm
    rw [hm, hpp]
    obtain ⟨q1, q2⟩ := cnt_perm (isort_perm c) x
    have hmid := mid_count (isort_srt c) hp x
    rw [q1, q2] at hmid
    have hle := cnt_le x c
    have ew : w64 (((0 + lessN x c : Nat) : Int) + ((0 + sameN x c : Nat) : Int)) = ((lessN x c + sameN x c : Nat) : Int) := by rw [w64_id (by omega) (by omega)]; omega
    rw [ew, M65_L1_eq F c hc p hp hpp k l]
    by_cases h : (isort c)[p] = x
    · obtain ⟨g1, g2⟩ := hmid.2 h
      rw [if_t (by omega), if_t (by omega), if_pos (by simp [h]), h]
    · have : (isort c)[p] ∈ x :: l ↔ (isort c)[p] ∈ l := by simp [h]
      have e3 : (if (isort c)[p] ∈ x :: l then some ((isort c)[p], true, (0 : Int)) else k) = if (isort c)[p] ∈ l then some ((isort c)[p], true, 0) else k := by simp only [this]
      rw [e3]
      by_cases g : lessN x c ≤ p
      · rw [if_t (by omega), if_f (fun g2 => h (hmid.1 ⟨g, by omega⟩))]
      · rw [if_f (by omega)]
theorem middle_eq (F : Nat) (s : TStory) (h : okSt s) (hF : 1000000 ≤ F) (sv : Int) : ∃ r, M64 F s sv = some r ∧ M65 F s sv = some r := by
  unfold M64 M65
  rw [M113_eq F s _ _ _ h, M36_eq F s h, Option.bind_some, Option.bind_some]
  by_cases h0 : chk s ≠ 0
  · rw [if_pos h0, if_pos (by simpa using h0), if_pos (by simpa using h0)]; exact ⟨_, rfl, rfl⟩
  have h0' : chk s = 0 := by simpa using h0
  have R := right_of_chk h0'
  rw [if_neg h0, M117_eq, Option.bind_some, h0', if_neg (show ¬ ((0 : Int) != 0) = true by simp)]
  by_cases h1 : sv < 0 ∨ sv > 100
  · rw [if_pos (show (0 : Int) < 0 ∨ (0 : Int) > 0 ∨ (0 : Int) > 1000000 ∨ sv < 0 ∨ sv > 100 by omega), if_pos (by simp), if_t h1]; exact ⟨_, rfl, rfl⟩
  rw [if_neg (show ¬ ((0 : Int) < 0 ∨ (0 : Int) > 0 ∨ (0 : Int) > 1000000 ∨ sv < 0 ∨ sv > 100) by omega), if_neg (by simp), if_f h1]
  obtain ⟨c, c0, c1, c2⟩ := lens_eq F s R hF sv
  have hl : (isort c).length = c.length := (isort_perm c).length_eq
  rw [c1, c2, Option.bind_some, Option.bind_some, hl]
  simp only [jn_def]
  by_cases h2 : c = []
  · subst h2
    rw [if_pos (by simp)]; exact ⟨_, rfl, rfl⟩
  have hpos : 0 < c.length := List.length_pos_iff.2 h2
  rw [if_neg (by simp [h2])]
  have hp : (c.length - 1) / 2 < (isort c).length := by omega
  have e : w64 (Int.tdiv (w64 (((c.length : Nat) : Int) - 1)) 2) = (((c.length - 1) / 2 : Nat) : Int) := by
    rw [show w64 (((c.length : Nat) : Int) - 1) = ((c.length - 1 : Nat) : Int) by rw [w64_id (by omega) (by omega)]; omega]
    rw [show Int.tdiv ((c.length - 1 : Nat) : Int) 2 = (((c.length - 1) / 2 : Nat) : Int) from rfl]
    exact w64_id (by omega) (by omega)
  rw [M65_L1_eq F c c0 _ hp e, if_pos ((isort_perm c).mem_iff.1 (List.getElem_mem _)), e, idx_nat hp, Option.bind_some]
  exact ⟨_, rfl, rfl⟩
def row (m : Nat) (g : Nat → Int) : List Int := (List.range m).map g
theorem row_get (m : Nat) (g : Nat → Int) {j : Nat} (h : j < m) : idx (row m g) (j : Int) = some (g j) := by
  rw [idx_nat (by simp [row]; exact h)]
  simp [row]
theorem row_set (m : Nat) (g : Nat → Int) (j : Nat) (v : Int) : (row m g).set j v = row m (fun i => if i = j then v else g i) := by
  apply List.ext_getElem
  · simp [row]
  · intro i h1 h2
    simp only [row, List.getElem_set, List.getElem_map, List.getElem_range]
    by_cases h : j = i
    · rw [if_pos h, if_pos h.symm]
    · rw [if_neg h, if_neg (fun e => h e.symm)]
theorem row_congr {m : Nat} {g g' : Nat → Int} (h : ∀ i, i < m → g i = g' i) : row m g = row m g' := by
  unfold row
  apply List.map_congr_left
  intro i hi
  exact h i (List.mem_range.1 hi)
theorem M124_L2_eq (F : Nat) (a b : Int) (ha : 0 ≤ a ∧ a ≤ 1000000) (hb : 0 ≤ b ∧ b ≤ 1000000) (p : Thistory_piece) (k : List Int → Option (List Int)) (m : Nat) (hm : (m : Int) = b - a) (e : Int) (he : e = if p.to < b then p.to else b) :
    ∀ (f : Nat) (n : Int) (g : Nat → Int), a ≤ n → n ≤ 1000000 → (e - n).toNat < f → (∀ i : Nat, i < m → n ≤ a + i → 0 ≤ g i ∧ g i ≤ 1000000) → M124_L2 F a b p k f n (row m g) = k (row m (fun i => if n ≤ a + i ∧ a + i < e then g i + 1 else g i))
  | 0, _, _, _, _, h, _ => by omega
  | f + 1, n, g, h1, h1', h2, h3 => by
    rw [M124_L2, ← he]
    by_cases hn : n < e
    · have hnb : n < b := by rw [he] at hn; split at hn <;> omega
      have hj : (n - a).toNat < m := by omega
      have ej : w64 (n - a) = (((n - a).toNat : Nat) : Int) := by rw [w64_id (by omega) (by omega)]; omega
      have en : w64 (n + 1) = n + 1 := w64_id (by omega) (by omega)
      have hg := h3 _ hj (by omega)
      rw [if_t hn, ej, row_get m g hj, Option.bind_some, Option.bind_some, Int.toNat_natCast, row_set, en, w64_id (by omega) (by omega)]
      rw [M124_L2_eq F a b ha hb p k m hm e he f (n + 1) _ (by omega) (by omega) (by omega) (fun i hi hni => by
        rw [if_neg (by omega)]; exact h3 i hi (by omega))]
      congr 1
      apply row_congr
      intro i hi
      by_cases hij : i = (n - a).toNat
      · rw [if_pos hij, if_neg (by omega), if_pos (by omega), hij]
      · rw [if_neg hij]
        by_cases hc : n + 1 ≤ a + i ∧ a + i < e
        · rw [if_pos hc, if_pos (by omega)]
        · rw [if_neg hc, if_neg (by omega)]
    · rw [if_f hn]
      congr 1
      apply row_congr
      intro i hi
      rw [if_neg (by omega)]
def cov (l : List Thistory_piece) (day : Int) : Int := ((l.filter (onDay day)).length : Nat)
theorem cov_cons (p : Thistory_piece) (l : List Thistory_piece) (day : Int) : cov (p :: l) day = cov l day + if p.from_ ≤ day ∧ day < p.to then 1 else 0 := by
  unfold cov
  rw [List.filter_cons]
  by_cases h : p.from_ ≤ day ∧ day < p.to
  · rw [if_pos (show onDay day p = true by simp [onDay, h.1, h.2]), if_pos h, List.length_cons]; rfl
  · rw [if_neg (show ¬ onDay day p = true by simpa [onDay] using h), if_neg h]; simp
theorem M124_L1_eq (F : Nat) (hF : 3000000 ≤ F) (a b : Int) (ha : 0 ≤ a ∧ a ≤ 1000000) (hb : 0 ≤ b ∧ b ≤ 1000000) (k : List Int → Option (List Int)) (m : Nat) (hm : (m : Int) = b - a) :
    ∀ (l : List Thistory_piece) (g : Nat → Int), (∀ i, i < m → 0 ≤ g i ∧ g i + l.length ≤ 1000000) → (∀ p, p ∈ l → 0 ≤ p.from_ ∧ p.from_ ≤ 1000000) → M124_L1 F a b k l (row m g) = k (row m (fun i => g i + cov l (a + i)))
  | [], g, _, _ => by
    rw [M124_L1]
    congr 1
    apply row_congr
    intro i hi
    simp [cov]
  | p :: l, g, hg, hp => by
    have hpp := hp p (by simp)
    rw [M124_L1]
    simp only [jn_def]
    have hmax : a ≤ (if p.from_ > a then p.from_ else a) ∧ (if p.from_ > a then p.from_ else a) ≤ 1000000 := by split <;> omega
    have hmin : (if p.to < b then p.to else b) ≤ 1000000 := by split <;> omega
    rw [M124_L2_eq F a b ha hb p _ m hm _ rfl F _ g hmax.1 hmax.2 (by omega) (fun i hi _ => by have := hg i hi; omega)]
    rw [M124_L1_eq F hF a b ha hb k m hm l _ (fun i hi => by
      have := hg i hi
      simp only [List.length_cons] at this
      split <;> omega) (fun q hq => hp q (List.mem_cons_of_mem _ hq))]
    congr 1
    apply row_congr
    intro i hi
    rw [cov_cons]
    by_cases h : p.from_ ≤ a + i ∧ a + i < p.to
    · rw [if_pos h, if_pos]
      · omega
      · constructor
        · split <;> omega
        · split <;> omega
    · rw [if_neg h, if_neg]
      · omega
      · rintro ⟨h1, h2⟩
        apply h
        constructor
        · split at h1 <;> omega
        · split at h2 <;> omega
theorem pcs_to {K : KMap} {u : Int} {p : Thistory_piece} : ∀ {l : List TRelease}, (∀ r, r ∈ l → r.Day ≤ u) → p ∈ pcs K u l → p.to ≤ u
  | [], _, h => by simp [pcs] at h
  | r :: l, hd, h => by
    rw [pcs] at h
    rcases List.mem_append.1 h with h | h
    · obtain ⟨x, hx, hp⟩ := List.mem_filterMap.1 h
      obtain ⟨_, _, _, h4⟩ := pc_some hp
      refine Int.le_trans h4 ?_
      cases l with
      | nil => exact Int.le_refl _
      | cons r' l => exact hd r' (by simp)
    · exact pcs_to (fun r hr => hd r (List.mem_cons_of_mem _ hr)) h
theorem pcs_from {s : TStory} (R : RightS s) : ∀ p, p ∈ pcs (kmap [] s.Known) s.Until s.Releases → 0 ≤ p.from_ ∧ p.from_ < p.to ∧ p.to ≤ s.Until := by
  intro p hp
  obtain ⟨r, h1, h2, h3, h4⟩ := pcs_mem hp
  have h5 := R.rel r h1
  have h6 := pcs_to (fun r hr => (R.rel r hr).2.2.1) hp
  exact ⟨by omega, h3, h6⟩
theorem counts_eq (F : Nat) (hF : 3000000 ≤ F) (s : TStory) (R : RightS s) (a b : Int) (h : 0 ≤ a ∧ a ≤ b ∧ b ≤ 1000000) : M124 F (pcs (kmap [] s.Known) s.Until s.Releases) a b = some (row (b - a).toNat (fun i => ((nOpen s (a + i) : Nat) : Int))) := by
  unfold M124
  have e : w64 (b - a) = b - a := w64_id (by omega) (by omega)
  rw [e, if_pos (by omega)]
  simp only [jn_def]
  have e2 : List.replicate (b - a).toNat (0 : Int) = row (b - a).toNat (fun _ => 0) := by
    unfold row
    rw [List.map_const', List.length_range]
  have hl := pcs_len R (kmap [] s.Known)
  have hu := R.unt
  rw [e2, M124_L1_eq F hF a b (by omega) (by omega) _ _ (by omega) _ _ (fun i hi => by omega) (fun p hp => by have := pcs_from R p hp; omega)]
  congr 1
  apply row_congr
  intro i hi
  unfold cov
  rw [nOpen_pcs R]; simp
theorem step1 (i x : Int) (h : 2 * x = i * (i - 1)) : 2 * (x + i) = (i + 1) * ((i + 1) - 1) := by grind
theorem step2 (i x : Int) (h : 6 * x = i * (i - 1) * (2 * i - 1)) : 6 * (x + i * i) = (i + 1) * ((i + 1) - 1) * (2 * (i + 1) - 1) := by grind
theorem step3 (m x xx : Int) (h : 2 * x = m * (m - 1)) (h2 : 6 * xx = m * (m - 1) * (2 * m - 1)) : 12 * (m * xx - x * x) = m * m * (m * m - 1) := by grind
theorem sums_small (i x xx : Int) (h0 : 0 ≤ i) (h1 : i ≤ 10000) (hx : 2 * x = i * (i - 1)) (hxx : 6 * xx = i * (i - 1) * (2 * i - 1)) : (0 ≤ x ∧ x ≤ 100000000) ∧ (0 ≤ xx ∧ xx ≤ 1000000000000) := by
  by_cases hi : i = 0
  · subst hi; simp at hx hxx; omega
  have a1 : 0 ≤ i * (i - 1) := Int.mul_nonneg h0 (by omega)
  have a2 : i * (i - 1) ≤ 10000 * 10000 := Int.mul_le_mul h1 (by omega) (by omega) (by omega)
  have a3 : 0 ≤ i * (i - 1) * (2 * i - 1) := Int.mul_nonneg a1 (by omega)
  have a4 : i * (i - 1) * (2 * i - 1) ≤ (10000 * 10000) * 20000 := Int.mul_le_mul a2 (by omega) (by omega) (by omega)
  omega
theorem M66_L1_eq (F : Nat) (s : TStory) (R : RightS s) (a : Int) (m : Nat) (hm : m ≤ 10000) (ha : 0 ≤ a ∧ a ≤ 1000000) :
    ∀ (q i : Nat) (x y xx xy : Int), i + q = m → 2 * x = (i : Int) * ((i : Int) - 1) → 6 * xx = (i : Int) * ((i : Int) - 1) * (2 * (i : Int) - 1) → ∃ x' y' xx' xy' : Int, 2 * x' = (m : Int) * ((m : Int) - 1) ∧ 6 * xx' = (m : Int) * ((m : Int) - 1) * (2 * (m : Int) - 1) ∧
      ∀ k : Int → Int → Int → Int → Option (Int × Int × Int), M66_L1 F (row m (fun i => ((nOpen s (a + i) : Nat) : Int))) k q i x y xx xy = k x' y' xx' xy' ∧ M67_L1 F a (Tprovenderref11_view.mk s (kmap [] s.Known)) k q i x y xx xy = k x' y' xx' xy'
  | 0, i, x, y, xx, xy, hi, hx, hxx => by
    rw [Nat.add_zero] at hi
    subst hi
    exact ⟨x, y, xx, xy, hx, hxx, fun k => ⟨rfl, rfl⟩⟩
  | q + 1, i, x, y, xx, xy, hi, hx, hxx => by
    have e1 : w64 (a + i) = a + i := w64_id (by omega) (by omega)
    have hb : (i : Int) ≤ 10000 := by omega
    have hb0 : (0 : Int) ≤ i := by omega
    have hii : 0 ≤ (i : Int) * i ∧ (i : Int) * i ≤ 100000000 := ⟨Int.mul_nonneg hb0 hb0, Int.mul_le_mul hb hb hb0 (by omega)⟩
    obtain ⟨hxb, hxxb⟩ := sums_small (i : Int) x xx hb0 hb hx hxx
    obtain ⟨x', y', xx', xy', q1, q2, q3⟩ := M66_L1_eq F s R a m hm ha q (i + 1) (x + i) (w64 (y + ((nOpen s (a + i) : Nat) : Int))) (xx + (i : Int) * i) (w64 (xy + w64 ((i : Int) * ((nOpen s (a + i) : Nat) : Int)))) (by omega) (by have := step1 (i : Int) x hx; exact_mod_cast this) (by have := step2 (i : Int) xx hxx; exact_mod_cast this)
    refine ⟨x', y', xx', xy', q1, q2, fun k => ?_⟩
    rw [M66_L1, M67_L1, row_get m _ (by omega), Option.bind_some, Option.bind_some, e1, M92_eq F s R, Option.bind_some]
    rw [w64_id (n := x + i) (by omega) (by omega), w64_id (n := (i : Int) * i) (by omega) (by omega), w64_id (n := xx + (i : Int) * i) (by omega) (by omega)]
    exact q3 k
theorem trend_eq (F : Nat) (s : TStory) (h : okSt s) (hF : 100000000000000000 ≤ F) (a b : Int) (ha : (IntKind.i64).min ≤ a ∧ a ≤ (IntKind.i64).max) (hb : (IntKind.i64).min ≤ b ∧ b ≤ (IntKind.i64).max) : ∃ r, M66 F s a b = some r ∧ M67 F s a b = some r := by
  unfold M66 M67
  rw [M113_eq F s _ _ _ h, M36_eq F s h, Option.bind_some, Option.bind_some]
  by_cases h0 : chk s ≠ 0
  · rw [if_pos h0, if_pos (by simpa using h0), if_pos (by simpa using h0)]; exact ⟨_, rfl, rfl⟩
  have h0' : chk s = 0 := by simpa using h0
  have R := right_of_chk h0'
  rw [if_neg h0, h0', if_neg (show ¬ ((0 : Int) != 0) = true by simp)]
  by_cases hbad : a < 0 ∨ a > b ∨ b > 1000000
  · rw [if_pos (show a < 0 ∨ a > b ∨ b > 1000000 ∨ (0 : Int) < 0 ∨ (0 : Int) > 100 by omega), if_pos (show ((9 : Int) != 0) = true by simp)]
    by_cases h1 : a < 0
    · rw [if_t h1]; exact ⟨_, rfl, rfl⟩
    by_cases h2 : a > b
    · rw [if_f h1, if_t h2]; exact ⟨_, rfl, rfl⟩
    rw [if_f h1, if_f h2, if_t (by omega)]; exact ⟨_, rfl, rfl⟩
  rw [if_neg (show ¬ (a < 0 ∨ a > b ∨ b > 1000000 ∨ (0 : Int) < 0 ∨ (0 : Int) > 100) by omega), if_neg (show ¬ ((0 : Int) != 0) = true by simp)]
  have h1 : ¬ a < 0 := by omega
  have h2 : ¬ a > b := by omega
  have h3 : ¬ b > 1000000 := by omega
  have e : w64 (b - a) = b - a := w64_id (by omega) (by omega)
  rw [if_f h1, if_f h2, if_f h3]
  simp only [e]
  by_cases h4 : b - a > 10000
  · rw [if_t h4, if_t h4]; exact ⟨_, rfl, rfl⟩
  by_cases h5 : b - a < 2
  · rw [if_f h4, if_f h4, if_t h5, if_t h5]; exact ⟨_, rfl, rfl⟩
  rw [if_f h4, if_f h4, if_f h5, if_f h5, M90_eq F s R, M91_eq, Option.bind_some, Option.bind_some, counts_eq F (by omega) s R a b (by omega), Option.bind_some]
  simp only [jn_def]
  rw [if_pos (by omega), if_pos (by omega)]
  obtain ⟨m, hm⟩ : ∃ m : Nat, (m : Int) = b - a := ⟨(b - a).toNat, by omega⟩
  have em : (b - a).toNat = m := by omega
  rw [em, ← hm]
  obtain ⟨x, y, xx, xy, q1, q2, q3⟩ := M66_L1_eq F s R a m (by omega) (by omega) m 0 0 0 0 0 (by omega) (by simp) (by simp)
  rw [show ((0 : Nat) : Int) = 0 from rfl] at q3
  rw [(q3 _).1, (q3 _).2]
  have hmb : (m : Int) ≤ 10000 ∧ 2 ≤ (m : Int) := by omega
  obtain ⟨s1, s2⟩ := sums_small (m : Int) x xx (by omega) hmb.1 q1 q2
  have b1 : 0 ≤ (m : Int) * xx ∧ (m : Int) * xx ≤ 10000 * 1000000000000 := ⟨Int.mul_nonneg (by omega) s2.1, Int.mul_le_mul hmb.1 s2.2 s2.1 (by omega)⟩
  have b2 : 0 ≤ x * x ∧ x * x ≤ 100000000 * 100000000 := ⟨Int.mul_nonneg s1.1 s1.1, Int.mul_le_mul s1.2 s1.2 s1.1 (by omega)⟩
  have b3 := step3 (m : Int) x xx q1 q2
  have b4 : 4 ≤ (m : Int) * m := Int.mul_le_mul (a := 2) (b := 2) hmb.2 hmb.2 (by omega) (by omega)
  have b5 : 1 ≤ (m : Int) * m * ((m : Int) * m - 1) := Int.mul_le_mul (a := 1) (b := 1) (by omega) (by omega) (by omega) (by omega)
  have ed : w64 (w64 ((m : Int) * xx) - w64 (x * x)) = (m : Int) * xx - x * x := by
    rw [w64_id (n := (m : Int) * xx) (by omega) (by omega), w64_id (n := x * x) (by omega) (by omega), w64_id (by omega) (by omega)]
  rw [ed]
  obtain ⟨r, r1, r2⟩ := low_eq F (w64 (w64 ((m : Int) * xy) - w64 (x * y))) ((m : Int) * xx - x * x) (by omega) (by omega)
  rw [r1, r2]
  exact ⟨_, rfl, rfl⟩
def plt (a b : Thistory_piece) : Bool := decide (a.from_ < b.from_)
theorem M115_eq (F : Nat) (a b : Thistory_piece) : M115 F a b = some (cmpI a.from_ b.from_) := by unfold M115; rw [M116_eq]; rfl
theorem porder : Ord (fun x y : Thistory_piece => some (cmpI x.from_ y.from_)) plt where
  cmp := fun x y => ⟨_, rfl, by unfold plt; rw [Bool.eq_iff_iff, decide_eq_true_eq, decide_eq_true_eq]; exact cmpI_lt⟩
  irr := fun x => by simp [plt]
  tr := fun x y z h g => by simp [plt] at *; omega
  wk := fun x y z h g => by simp [plt] at *; omega
theorem E159_L2 (F : Nat) (a : Int) (k : List Thistory_piece → Option (List Thistory_piece)) : ∀ (n : Nat) (j : Int) (l : List Thistory_piece), M159_L2 F a k n j l = insG_L2 (fun x y => some (cmpI x.from_ y.from_)) F a k n j l := by
  intro n
  induction n with
  | zero => intros; rfl
  | succ n ih => intro j l; simp only [M159_L2, insG_L2, ih, M115_eq]
theorem E159_L1 (F : Nat) (a b : Int) : ∀ (n : Nat) (j : Int) (l : List Thistory_piece), M159_L1 F a b n j l = insG_L1 (fun x y => some (cmpI x.from_ y.from_)) F a b n j l := by
  intro n
  induction n with
  | zero => intros; rfl
  | succ n ih => intro j l; simp only [M159_L1, insG_L1, ih, E159_L2]
theorem E159 (F : Nat) (a b : Int) (l : List Thistory_piece) : M159 F a b l = insG (fun x y => some (cmpI x.from_ y.from_)) F a b l := by unfold M159 insG; rw [E159_L1]
theorem E183_L1 (F : Nat) (a b : Int) : ∀ (n : Nat) (j : Int) (l : List Thistory_piece), M183_L1 F a b n j l = swpG_L1 F a b n j l := by
  intro n
  induction n with
  | zero => intros; rfl
  | succ n ih => intro j l; simp only [M183_L1, swpG_L1, ih]
theorem E183 (F : Nat) (a b n : Int) (l : List Thistory_piece) : M183 F a b n l = swpG F a b n l := by unfold M183 swpG; rw [E183_L1]
theorem E175_L1 (F : Nat) (m : Int) (k : Int → List Thistory_piece → Option (List Thistory_piece)) : ∀ (n : Nat) (i j : Int) (l : List Thistory_piece), M175_L1 F m k n i j l = rotG_L1 F m k n i j l := by
  intro n
  induction n with
  | zero => intros; rfl
  | succ n ih => intro i j l; simp only [M175_L1, rotG_L1, ih, E183]
theorem E175 (F : Nat) (a m b : Int) (l : List Thistory_piece) : M175 F a m b l = rotG F a m b l := by unfold M175 rotG; simp only [E175_L1, E183]
theorem E160_L2 (F : Nat) (e : Int) (k : List Thistory_piece → Option (List Thistory_piece)) : ∀ (n : Nat) (j : Int) (l : List Thistory_piece), M160_L2 F e k n j l = symG_L2 F e k n j l := by
  intro n
  induction n with
  | zero => intros; rfl
  | succ n ih => intro j l; simp only [M160_L2, symG_L2, ih]
theorem E160_L4 (F : Nat) (e : Int) (k : List Thistory_piece → Option (List Thistory_piece)) : ∀ (n : Nat) (j : Int) (l : List Thistory_piece), M160_L4 F e k n j l = symG_L4 F e k n j l := by
  intro n
  induction n with
  | zero => intros; rfl
  | succ n ih => intro j l; simp only [M160_L4, symG_L4, ih]
theorem E160_L1 (F : Nat) (a : Int) (l : List Thistory_piece) (k : Int → Option (List Thistory_piece)) : ∀ (n : Nat) (i j : Int), M160_L1 F a l k n i j = symG_L1 (fun x y => some (cmpI x.from_ y.from_)) F a l k n i j := by
  intro n
  induction n with
  | zero => intros; rfl
  | succ n ih => intro i j; simp only [M160_L1, symG_L1, ih, M115_eq]
theorem E160_L3 (F : Nat) (a : Int) (l : List Thistory_piece) (k : Int → Option (List Thistory_piece)) : ∀ (n : Nat) (i j : Int), M160_L3 F a l k n i j = symG_L3 (fun x y => some (cmpI x.from_ y.from_)) F a l k n i j := by
  intro n
  induction n with
  | zero => intros; rfl
  | succ n ih => intro i j; simp only [M160_L3, symG_L3, ih, M115_eq]
theorem E160_L5 (F : Nat) (a m b : Int) (l : List Thistory_piece) (k : Int → Option (List Thistory_piece)) : ∀ (n : Nat) (i j : Int), M160_L5 F a m b l k n i j = symG_L5 (fun x y => some (cmpI x.from_ y.from_)) F a m b l k n i j := by
  intro n
  induction n with
  | zero => intros; rfl
  | succ n ih => intro i j; simp only [M160_L5, symG_L5, ih, M115_eq]
theorem E160 : ∀ (F : Nat) (a m b : Int) (l : List Thistory_piece), M160 F a m b l = symG (fun x y => some (cmpI x.from_ y.from_)) F a m b l := by
  intro F
  induction F with
  | zero => intros; rfl
  | succ F ih => intro a m b l; simp only [M160, symG, M160_B, symG_B, ih, E160_L1, E160_L2, E160_L3, E160_L4, E160_L5, E175]
theorem E154_L3 (F : Nat) (a n : Int) (k : Int → List Thistory_piece → Option (List Thistory_piece)) : ∀ (f : Nat) (i j : Int) (l : List Thistory_piece), M154_L3 F a n k f i j l = stbG_L3 (fun x y => some (cmpI x.from_ y.from_)) F a n k f i j l := by
  intro f
  induction f with
  | zero => intros; rfl
  | succ f ih => intro i j l; simp only [M154_L3, stbG_L3, ih, E160]
theorem E154_L2 (F : Nat) (a : Int) : ∀ (f : Nat) (i : Int) (l : List Thistory_piece), M154_L2 F a f i l = stbG_L2 (fun x y => some (cmpI x.from_ y.from_)) F a f i l := by
  intro f
  induction f with
  | zero => intros; rfl
  | succ f ih => intro i l; simp only [M154_L2, stbG_L2, ih, E160, E154_L3]
theorem E154_L1 (F : Nat) (a : Int) (k : Int → List Thistory_piece → Option (List Thistory_piece)) : ∀ (f : Nat) (i j : Int) (l : List Thistory_piece), M154_L1 F a k f i j l = stbG_L1 (fun x y => some (cmpI x.from_ y.from_)) F a k f i j l := by
  intro f
  induction f with
  | zero => intros; rfl
  | succ f ih => intro i j l; simp only [M154_L1, stbG_L1, ih, E159]
theorem stb154 (F : Nat) (n : Int) (l : List Thistory_piece) : M154 F n l = stbG (fun x y => some (cmpI x.from_ y.from_)) F n l := by
  unfold M154 stbG; simp only [E154_L1, E154_L2, E159]
theorem M143_eq (F : Nat) (l : List Thistory_piece) (hl : l.length < 400000) (hF : 1000000 ≤ F) : ∃ R, M143 F l = some R ∧ Srt plt R ∧ R.Perm l := by
  unfold M143
  rw [stb154]
  obtain ⟨R, r1, r2, r3⟩ := stbG_eq porder F l (by omega) (by omega)
  rw [r1, Option.bind_some, if_pos r3.length_eq]
  exact ⟨R, rfl, r2, r3⟩
theorem M114_eq (F : Nat) (l : List Thistory_piece) (hl : l.length < 400000) (hF : 1000000 ≤ F) : ∃ R, M114 F l = some R ∧ Srt plt R ∧ R.Perm l := by
  unfold M114
  rw [clone_eq (R := Unit) (g := M142 F) 140737488355328 56 (fun l => rfl) l (by omega), Option.bind_some]
  obtain ⟨R, r1, r2, r3⟩ := M143_eq F l hl hF
  rw [r1, Option.bind_some, if_pos r3.length_eq]
  exact ⟨R, rfl, r2, r3⟩
def sees (sv : Int) (d : Int) (p : Thistory_piece) : Bool := decide (sv ≤ p.x.Severity) && onDay d p
theorem sees_iff {sv d : Int} {p : Thistory_piece} : sees sv d p = true ↔ sv ≤ p.x.Severity ∧ p.from_ ≤ d ∧ d < p.to := by unfold sees onDay; simp
def hit (f sv : Int) (l : List Thistory_piece) (d : Nat) : Bool := decide (f ≤ (d : Int)) && l.any (sees sv d)
def days (f t sv : Int) (l : List Thistory_piece) : Nat := (List.range t.toNat).countP (hit f sv l)
theorem days_perm {f t sv : Int} {a b : List Thistory_piece} (h : a.Perm b) : days f t sv a = days f t sv b := by
  unfold days
  apply List.countP_congr
  intro d _
  unfold hit
  rw [Bool.and_eq_true, Bool.and_eq_true, List.any_eq_true, List.any_eq_true]
  simp only [h.mem_iff]
theorem countP_or {α : Type} (A B : α → Bool) : ∀ (l : List α), (∀ d, d ∈ l → ¬ (A d = true ∧ B d = true)) → l.countP (fun d => A d || B d) = l.countP A + l.countP B
  | [], _ => rfl
  | x :: l, h => by
    have ih := countP_or A B l (fun d hd => h d (List.mem_cons_of_mem _ hd))
    have hx := h x (by simp)
    rw [List.countP_cons, List.countP_cons, List.countP_cons, ih]
    cases hA : A x <;> cases hB : B x <;> simp_all <;> omega
theorem countP_iv (b e : Nat) : ∀ t : Nat, (List.range t).countP (fun d => decide (b ≤ d) && decide (d < e)) = min e t - b
  | 0 => by simp
  | t + 1 => by
    rw [List.range_succ, List.countP_append, countP_iv b e t, List.countP_cons, List.countP_nil]
    by_cases h : b ≤ t ∧ t < e
    · simp only [h.1, h.2, decide_true, Bool.and_self, if_true]; omega
    · rw [if_neg (by simpa using h)]; omega
structure Swept (f t sv : Int) (Q : List Thistory_piece) (n at' : Int) : Prop where
  cnt : n = (days f t sv Q : Nat)
  low : f ≤ at'
  top : at' ≤ 1000000
  all : ∀ d : Int, f ≤ d → d < t → Q.any (sees sv d) = true → d < at'
  by' : at' = f ∨ ∃ q, q ∈ Q ∧ sv ≤ q.x.Severity ∧ at' ≤ q.to
theorem days_le (f t sv : Int) (Q : List Thistory_piece) : days f t sv Q ≤ t.toNat := by
  unfold days
  have := List.countP_le_length (p := hit f sv Q) (l := List.range t.toNat)
  simpa using this
theorem any_snoc {sv d : Int} {Q : List Thistory_piece} {p : Thistory_piece} : (Q ++ [p]).any (sees sv d) = (Q.any (sees sv d) || sees sv d p) := by simp
theorem Swept.skip {f t sv : Int} {Q : List Thistory_piece} {n a : Int} (h : Swept f t sv Q n a) {p : Thistory_piece} (hp : p.x.Severity < sv) : Swept f t sv (Q ++ [p]) n a := by
  have e : ∀ d, sees sv d p = false := fun d => by unfold sees; rw [show decide (sv ≤ p.x.Severity) = false by simp; omega]; rfl
  refine ⟨?_, h.low, h.top, fun d h1 h2 h3 => h.all d h1 h2 (by rw [any_snoc, e, Bool.or_false] at h3; exact h3), ?_⟩
  · rw [h.cnt]
    unfold days hit
    simp only [any_snoc, e, Bool.or_false]
  · rcases h.by' with h | ⟨q, h1, h2⟩
    · exact .inl h
    · exact .inr ⟨q, List.mem_append_left _ h1, h2⟩
theorem Swept.next {f t sv : Int} {Q : List Thistory_piece} {n a : Int} (h : Swept f t sv Q n a) (hf : 0 ≤ f) {p : Thistory_piece} (hp : sv ≤ p.x.Severity) (hs : ∀ q, q ∈ Q → q.from_ ≤ p.from_)
    (ht : 0 ≤ t) {b e : Int} (hb : b = if p.from_ > a then p.from_ else a) (he : e = if p.to < t then p.to else t) (n' : Int) (hn : n' = if b < e then n + (e - b) else n) :
    n' = (days f t sv (Q ++ [p]) : Nat) := by
  have new : ∀ d : Nat, d ∈ List.range t.toNat → (hit f sv (Q ++ [p]) d = (hit f sv Q d || (decide (b.toNat ≤ d) && decide (d < e.toNat)))) ∧ ¬ (hit f sv Q d = true ∧ (decide (b.toNat ≤ d) && decide (d < e.toNat)) = true) := by
    intro d hd
    have hd := List.mem_range.1 hd
    have hlow := h.low
    have key : f ≤ (d : Int) → Q.any (sees sv d) = false → (sees sv d p = true ↔ b.toNat ≤ d ∧ d < e.toNat) := by
      intro h1 h2
      rw [sees_iff]
      constructor
      · rintro ⟨_, h3, h4⟩
        have : a ≤ d := by
          rcases h.by' with hh | ⟨q, q1, q2, q3⟩
          · omega
          · by_cases hlt : (d : Int) < a
            · exfalso
              have := hs q q1
              have hq : sees sv d q = true := sees_iff.2 ⟨q2, by omega, by omega⟩
              rw [List.any_eq_false] at h2
              exact h2 q q1 hq
            · omega
        constructor
        · rw [hb]; split <;> omega
        · rw [he]; split <;> omega
      · rintro ⟨h3, h4⟩
        refine ⟨hp, ?_, ?_⟩
        · rw [hb] at h3; split at h3 <;> omega
        · rw [he] at h4; split at h4 <;> omega
    have key2 : b.toNat ≤ d ∧ d < e.toNat → f ≤ (d : Int) ∧ Q.any (sees sv d) = false := by
      rintro ⟨h3, h4⟩
      have hab : a ≤ d := by rw [hb] at h3; split at h3 <;> omega
      refine ⟨by omega, ?_⟩
      cases hq : Q.any (sees sv d) with
      | false => rfl
      | true => have := h.all d (by omega) (by omega) hq; omega
    have hI : (decide (b.toNat ≤ d) && decide (d < e.toNat)) = true ↔ b.toNat ≤ d ∧ d < e.toNat := by simp
    constructor
    · unfold hit
      rw [any_snoc]
      by_cases h1 : f ≤ (d : Int)
      · rw [show decide (f ≤ (d : Int)) = true by simpa using h1, Bool.true_and, Bool.true_and]
        cases hq : Q.any (sees sv d) with
        | true => simp
        | false =>
          rw [Bool.false_or, Bool.false_or, Bool.eq_iff_iff, hI]
          exact key h1 hq
      · rw [show decide (f ≤ (d : Int)) = false by simpa using h1, Bool.false_and, Bool.false_and, Bool.false_or]
        symm
        rw [Bool.eq_false_iff]
        intro hh
        exact h1 (key2 (hI.1 hh)).1
    · rintro ⟨h1, h2⟩
      have := (key2 (hI.1 h2)).2
      unfold hit at h1
      rw [this, Bool.and_false] at h1
      simp at h1
  have e1 : days f t sv (Q ++ [p]) = days f t sv Q + (min e.toNat t.toNat - b.toNat) := by
    unfold days
    rw [← countP_iv, ← countP_or _ _ _ (fun d hd => (new d hd).2)]
    apply List.countP_congr
    intro d hd
    rw [(new d hd).1]
  have hlow := h.low
  have het : e ≤ t := by rw [he]; split <;> omega
  have hb0 : 0 ≤ b := by rw [hb]; split <;> omega
  rw [e1, hn, h.cnt]
  split <;> omega
theorem M58_L1_eq (F : Nat) (f t sv : Int) (hf : 0 ≤ f) (ht : 0 ≤ t ∧ t ≤ 1000000) (k : Int → Option (Int × Int)) : ∀ (l Q : List Thistory_piece) (n a : Int), Swept f t sv Q n a → Srt plt (Q ++ l) → (∀ p, p ∈ l → p.from_ ≤ 1000000 ∧ 0 ≤ p.from_) →
    M58_L1 F t sv k l n a = k (days f t sv (Q ++ l) : Nat)
  | [], Q, n, a, h, _, _ => by rw [M58_L1, h.cnt, List.append_nil]
  | p :: l, Q, n, a, h, hs, hb => by
    have hp := hb p (by simp)
    have hq : ∀ q, q ∈ Q → q.from_ ≤ p.from_ := fun q hq => by
      have := (Srt.app.1 hs).2.2 q hq p (by simp)
      unfold plt at this
      simpa using this
    have es : Q ++ p :: l = (Q ++ [p]) ++ l := by simp
    rw [M58_L1]
    simp only [jn_def]
    by_cases h1 : p.x.Severity < sv
    · rw [if_t h1, M58_L1_eq F f t sv hf ht k l (Q ++ [p]) n a (h.skip h1) (by rw [← es]; exact hs) (fun q hq => hb q (List.mem_cons_of_mem _ hq)), ← es]
    · rw [if_f h1]
      have h1 : sv ≤ p.x.Severity := by omega
      generalize hbb : (if p.from_ > a then p.from_ else a) = b
      generalize hee : (if p.to < t then p.to else t) = e
      have hnx := h.next hf h1 hq ht.1 hbb.symm hee.symm _ rfl
      have hlow := h.low
      have htop := h.top
      have hdl := days_le f t sv Q
      have hcnt := h.cnt
      have hbr : a ≤ b ∧ p.from_ ≤ b ∧ b ≤ 1000000 := by rw [← hbb]; split <;> omega
      have her : e ≤ t ∧ e ≤ p.to := by rw [← hee]; split <;> omega
      by_cases h2 : b < e
      · rw [if_pos h2] at hnx
        rw [if_t h2, w64_id (n := e - b) (by omega) (by omega), w64_id (n := n + (e - b)) (by omega) (by omega)]
        have hsw : Swept f t sv (Q ++ [p]) (n + (e - b)) e := by
          refine ⟨hnx, by omega, by omega, fun d g1 g2 g3 => ?_, .inr ⟨p, by simp, h1, her.2⟩⟩
          rw [any_snoc, Bool.or_eq_true] at g3
          rcases g3 with g3 | g3
          · have := h.all d g1 g2 g3; omega
          · have := (sees_iff.1 g3).2.2
            rw [← hee]; split <;> omega
        rw [M58_L1_eq F f t sv hf ht k l (Q ++ [p]) (n + (e - b)) e hsw (by rw [← es]; exact hs) (fun q hq => hb q (List.mem_cons_of_mem _ hq)), ← es]
      · rw [if_neg h2] at hnx
        have hsw : Swept f t sv (Q ++ [p]) n a := by
          refine ⟨hnx, hlow, htop, fun d g1 g2 g3 => ?_, ?_⟩
          · rw [any_snoc, Bool.or_eq_true] at g3
            rcases g3 with g3 | g3
            · exact h.all d g1 g2 g3
            · have g4 := (sees_iff.1 g3).2
              by_cases hda : d < a
              · exact hda
              · exfalso
                apply h2
                rw [← hbb, ← hee]
                split <;> split <;> omega
          · rcases h.by' with g | ⟨q, g1, g2⟩
            · exact .inl g
            · exact .inr ⟨q, List.mem_append_left _ g1, g2⟩
        rw [if_f h2, M58_L1_eq F f t sv hf ht k l (Q ++ [p]) n a hsw (by rw [← es]; exact hs) (fun q hq => hb q (List.mem_cons_of_mem _ hq)), ← es]
def rowB (m : Nat) (g : Nat → Bool) : List Bool := (List.range m).map g
theorem rowB_get (m : Nat) (g : Nat → Bool) {j : Nat} (h : j < m) : idx (rowB m g) (j : Int) = some (g j) := by
  rw [idx_nat (by simp [rowB]; exact h)]
  simp [rowB]
theorem rowB_set (m : Nat) (g : Nat → Bool) (j : Nat) (v : Bool) : (rowB m g).set j v = rowB m (fun i => if i = j then v else g i) := by
  apply List.ext_getElem
  · simp [rowB]
  · intro i h1 h2
    simp only [rowB, List.getElem_set, List.getElem_map, List.getElem_range]
    by_cases h : j = i
    · rw [if_pos h, if_pos h.symm]
    · rw [if_neg h, if_neg (fun e => h e.symm)]
theorem rowB_congr {m : Nat} {g g' : Nat → Bool} (h : ∀ i, i < m → g i = g' i) : rowB m g = rowB m g' := by
  unfold rowB
  apply List.map_congr_left
  intro i hi
  exact h i (List.mem_range.1 hi)
theorem M59_L2_eq (F : Nat) (t : Int) (ht : 0 ≤ t ∧ t ≤ 1000000) (p : Thistory_piece) (k : List Bool → Option (Int × Int)) (e : Int) (he : e = if p.to < t then p.to else t) :
    ∀ (f : Nat) (n : Int) (g : Nat → Bool), 0 ≤ n → n ≤ 1000000 → (e - n).toNat < f → M59_L2 F t (toS p) k f n (rowB t.toNat g) = k (rowB t.toNat (fun i => g i || (decide (n ≤ (i : Int)) && decide ((i : Int) < e))))
  | 0, _, _, _, _, h => by omega
  | f + 1, n, g, h1, h1', h2 => by
    rw [M59_L2, show (toS p).to = p.to from rfl, ← he]
    by_cases hn : n < e
    · have hnb : n < t := by rw [he] at hn; split at hn <;> omega
      have hj : n.toNat < t.toNat := by omega
      have ej : n = ((n.toNat : Nat) : Int) := by omega
      have en : w64 (n + 1) = n + 1 := w64_id (by omega) (by omega)
      have hget : idx (rowB t.toNat g) n = some (g n.toNat) := by rw [ej]; exact rowB_get _ _ hj
      rw [if_t hn, hget, Option.bind_some, rowB_set, en, M59_L2_eq F t ht p k e he f (n + 1) _ (by omega) (by omega) (by omega)]
      congr 1
      apply rowB_congr
      intro i hi
      by_cases hij : i = n.toNat
      · have a1 : n ≤ (i : Int) := by omega
        have a2 : (i : Int) < e := by omega
        rw [if_pos hij]; simp [a1, a2]
      · rw [if_neg hij]
        congr 1
        rw [Bool.eq_iff_iff]
        simp
        omega
    · rw [if_f hn]
      congr 1
      apply rowB_congr
      intro i hi
      have : (decide (n ≤ (i : Int)) && decide ((i : Int) < e)) = false := by
        rw [Bool.eq_false_iff]; simp; omega
      rw [this, Bool.or_false]
theorem M59_L1_eq (F : Nat) (hF : 3000000 ≤ F) (f t sv : Int) (hf : 0 ≤ f ∧ f ≤ 1000000) (ht : 0 ≤ t ∧ t ≤ 1000000) (k : List Bool → Option (Int × Int)) : ∀ (l Q : List Thistory_piece), (∀ p, p ∈ l → 0 ≤ p.from_ ∧ p.from_ ≤ 1000000) →
    M59_L1 F f t sv k (l.map toS) (rowB t.toNat (hit f sv Q)) = k (rowB t.toNat (hit f sv (Q ++ l)))
  | [], Q, _ => by rw [List.map_nil, M59_L1, List.append_nil]
  | p :: l, Q, hp => by
    have hpp := hp p (by simp)
    have es : Q ++ p :: l = (Q ++ [p]) ++ l := by simp
    rw [List.map_cons, M59_L1]
    simp only [jn_def]
    rw [show (toS p).x = p.x from rfl, show (toS p).from_ = p.from_ from rfl, es, ← M59_L1_eq F hF f t sv hf ht k l (Q ++ [p]) (fun q hq => hp q (List.mem_cons_of_mem _ hq))]
    by_cases h1 : p.x.Severity < sv
    · rw [if_t h1]
      congr 1
      apply rowB_congr
      intro i hi
      unfold hit
      rw [any_snoc, show sees sv i p = false by unfold sees; rw [show decide (sv ≤ p.x.Severity) = false by simp; omega]; rfl, Bool.or_false]
    · rw [if_f h1, M59_L2_eq F t ht p _ _ rfl F _ _ (by split <;> omega) (by split <;> omega) (by split <;> split <;> omega)]
      congr 1
      apply rowB_congr
      intro i hi
      unfold hit
      rw [any_snoc, Bool.eq_iff_iff]
      simp only [Bool.or_eq_true, Bool.and_eq_true, decide_eq_true_eq, sees_iff]
      constructor
      · rintro (h | ⟨h2, h3⟩)
        · exact ⟨h.1, .inl h.2⟩
        · refine ⟨?_, .inr ⟨by omega, ?_, ?_⟩⟩
          · split at h2 <;> omega
          · split at h2 <;> omega
          · split at h3 <;> omega
      · rintro ⟨h2, h3 | ⟨_, h3, h4⟩⟩
        · exact .inl ⟨h2, h3⟩
        · refine .inr ⟨?_, ?_⟩
          · split <;> omega
          · split <;> omega
theorem M59_L3_eq (F : Nat) (k : Int → Option (Int × Int)) : ∀ (l : List Bool) (n : Nat), n + l.length ≤ 10000000 → M59_L3 F k l (n : Int) = k ((n + l.countP id : Nat) : Int)
  | [], n, _ => by rw [M59_L3]; simp
  | x :: l, n, h => by
    simp only [List.length_cons] at h
    rw [M59_L3]
    simp only [jn_def]
    rw [List.countP_cons]
    cases x
    · rw [if_neg (by simp), M59_L3_eq F k l n (by omega)]; simp
    · rw [if_pos rfl, show w64 ((n : Int) + 1) = ((n + 1 : Nat) : Int) by rw [w64_id (by omega) (by omega)]; rfl, M59_L3_eq F k l (n + 1) (by omega)]
      congr 2; simp; omega
theorem exposed_eq (F : Nat) (s : TStory) (h : okSt s) (hF : 3000000 ≤ F) (f t sv : Int) : ∃ r, M58 F s f t sv = some r ∧ M59 F s f t sv = some r := by
  unfold M58 M59
  rw [M113_eq F s _ _ _ h, M36_eq F s h, Option.bind_some, Option.bind_some]
  by_cases h0 : chk s ≠ 0
  · rw [if_pos h0, if_pos (by simpa using h0), if_pos (by simpa using h0)]; exact ⟨_, rfl, rfl⟩
  have h0' : chk s = 0 := by simpa using h0
  have R := right_of_chk h0'
  rw [if_neg h0, h0', if_neg (show ¬ ((0 : Int) != 0) = true by simp), M117_eq, Option.bind_some]
  by_cases hbad : f < 0 ∨ f > t ∨ t > 1000000 ∨ sv < 0 ∨ sv > 100
  · rw [if_pos hbad, if_pos (show ((9 : Int) != 0) = true by simp)]
    by_cases h1 : f < 0
    · rw [if_t h1]; exact ⟨_, rfl, rfl⟩
    by_cases h2 : f > t
    · rw [if_f h1, if_t h2]; exact ⟨_, rfl, rfl⟩
    by_cases h3 : t > 1000000
    · rw [if_f h1, if_f h2, if_t h3]; exact ⟨_, rfl, rfl⟩
    rw [if_f h1, if_f h2, if_f h3, if_t (show sv < 0 ∨ sv > 100 by omega)]; exact ⟨_, rfl, rfl⟩
  rw [if_neg hbad, if_neg (show ¬ ((0 : Int) != 0) = true by simp), if_f (show ¬ f < 0 by omega), if_f (show ¬ f > t by omega), if_f (show ¬ t > 1000000 by omega), if_f (show ¬ (sv < 0 ∨ sv > 100) by omega)]
  rw [if_pos (show 0 ≤ t ∧ ((1 : Nat) : Int) * t ≤ 140737488355328 ∧ t ≤ 140737488355328 by omega)]
  have hl := pcs_len R (kmap [] s.Known)
  have hu := R.unt
  have hfrom : ∀ p, p ∈ pcs (kmap [] s.Known) s.Until s.Releases → 0 ≤ p.from_ ∧ p.from_ ≤ 1000000 := fun p hp => by have := pcs_from R p hp; omega
  obtain ⟨W, w1, w2, w3⟩ := M114_eq F (pcs (kmap [] s.Known) s.Until s.Releases) (by omega) (by omega)
  rw [M90_eq F s R, M91_eq, Option.bind_some, Option.bind_some, w1, M118_eq F s R, Option.bind_some, Option.bind_some]
  simp only [jn_def]
  have hlit : List.replicate t.toNat false = rowB t.toNat (hit f sv []) := by
    rw [rowB_congr (g' := fun _ => false) (fun i _ => by simp [hit])]
    unfold rowB
    rw [List.map_const', List.length_range]
  rw [hlit, M59_L1_eq F hF f t sv (by omega) (by omega) _ _ [] hfrom]
  have h3 := M59_L3_eq F (fun n42 => some (n42, 0)) (rowB t.toNat (hit f sv ([] ++ pcs (kmap [] s.Known) s.Until s.Releases))) 0 (by simp [rowB]; omega)
  rw [show ((0 : Nat) : Int) = 0 from rfl] at h3
  rw [h3]
  rw [M58_L1_eq F f t sv (by omega) (by omega) _ W [] 0 f ⟨by unfold days; rw [List.countP_eq_zero.2 (fun d _ => by simp [hit])]; rfl, by omega, by omega, fun d _ _ h => by simp at h, .inl rfl⟩ (by simpa using w2) (fun p hp => by have := hfrom p (w3.mem_iff.1 hp); omega)]
  rw [List.nil_append, List.nil_append, days_perm w3]
  refine ⟨_, rfl, ?_⟩
  congr 2
  unfold days rowB
  rw [List.countP_map]
  simp [Function.comp_def]
theorem plain_14 (s : TStory) (a b c d e : Int) (hs : okTStory s) (ha : (IntKind.i64).min ≤ a ∧ a ≤ (IntKind.i64).max) (hb : (IntKind.i64).min ≤ b ∧ b ≤ (IntKind.i64).max) (hc : (IntKind.i64).min ≤ c ∧ c ≤ (IntKind.i64).max)
    (hd : (IntKind.i64).min ≤ d ∧ d ≤ (IntKind.i64).max) (he : (IntKind.i64).min ≤ e ∧ e ≤ (IntKind.i64).max) : ∃ F, M14 F s a b c d e = some true := by
  refine ⟨1000000000000000003, ?_⟩
  generalize hF : 1000000000000000003 = F
  have ok := okSt_of hs
  unfold M14
  obtain ⟨r1, p1, q1⟩ := exposed_eq F s ok (by omega) a b c
  obtain ⟨r2, p2, q2⟩ := tallies_eq F s ok (by omega) a d e
  obtain ⟨r3, p3, q3⟩ := mean_eq F s ok (by omega) c
  obtain ⟨r4, p4, q4⟩ := middle_eq F s ok (by omega) c
  obtain ⟨r5, p5, q5⟩ := trend_eq F s ok (by omega) a b ha hb
  simp only [p1, q1, p2, q2, p3, q3, p4, q4, p5, q5, Option.bind_some, M68_eq, M23_eq F (show 5000 ≤ F by omega)]
  simp
end Go.Proofs.Ytkciogeafbbggaa
