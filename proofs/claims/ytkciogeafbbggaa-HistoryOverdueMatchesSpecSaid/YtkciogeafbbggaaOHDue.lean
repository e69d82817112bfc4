/- Part of the proof: HDue. -/
import Derived.Test.YtkciogeafbbggaaOHE
namespace Go.Proofs.Ytkciogeafbbggaa
open Go Go.Pv
set_option linter.unusedVariables false
def badT (t : TTerm) : Prop := t.Severity < 0 ∨ 100 < t.Severity ∨ t.Days < 0 ∨ 10000 < t.Days
instance (t : TTerm) : Decidable (badT t) := by unfold badT; exact inferInstance
def chkT (p : Int) : List TTerm → Int
  | [] => 0
  | t :: r => if badT t then 9 else if t.Severity ≤ p then 10 else chkT t.Severity r
theorem chkT_9 {p : Int} {t : TTerm} {r : List TTerm} (h : badT t) : chkT p (t :: r) = 9 := by simp [chkT, h]
theorem chkT_10 {p : Int} {t : TTerm} {r : List TTerm} (h : ¬ badT t) (h' : t.Severity ≤ p) : chkT p (t :: r) = 10 := by simp only [chkT]; rw [if_neg h, if_pos h']
theorem chkT_r {p : Int} {t : TTerm} {r : List TTerm} (h : ¬ badT t) (h' : ¬ t.Severity ≤ p) : chkT p (t :: r) = chkT t.Severity r := by simp only [chkT]; rw [if_neg h, if_neg h']
theorem chkT_zero : ∀ (l : List TTerm) (p : Int), chkT p l = 0 → ∀ t, t ∈ l → ¬ badT t
  | [], p, _ => by simp
  | x :: r, p, h => by
    by_cases hb : badT x
    · rw [chkT_9 hb] at h; simp at h
    · by_cases hs : x.Severity ≤ p
      · rw [chkT_10 hb hs] at h; simp at h
      · rw [chkT_r hb hs] at h
        intro t ht
        rcases List.mem_cons.1 ht with rfl | ht
        · exact hb
        · exact chkT_zero r _ h t ht
def prvT (a : List TTerm) (j : Nat) : Int := if j = 0 then -1 else ((a[j - 1]?).map (·.Severity)).getD 0
def terms (l : List TTerm) : Int := if l.length = 0 then 13 else if l.length > 10 then 3 else chkT (-1) l
theorem L26 (F : Nat) (a : List TTerm) (k : Option Int) (hlen : a.length < 4000) : ∀ (n j : Nat), j ≤ a.length → a.length - j < n →
    M26_L1 F a k n (j : Int) = orr (chkT (prvT a j) (a.drop j)) k
  | 0, j, _, h => by omega
  | n + 1, j, hj, hn => by
    unfold M26_L1
    by_cases h : j < a.length
    · rw [if_t (by omega : (j : Int) < ((a.length : Nat) : Int)), idx_nat h, List.drop_eq_getElem_cons h]
      simp only [Option.bind_some, jn_def]
      by_cases h1 : a[j].Severity < 0
      · rw [if_t h1, chkT_9 (.inl h1), orr_9]
      · rw [if_f h1]
        by_cases h2 : a[j].Severity > 100
        · rw [if_t h2, chkT_9 (.inr (.inl h2)), orr_9]
        · rw [if_f h2]
          by_cases h3 : a[j].Days < 0
          · rw [if_t h3, chkT_9 (.inr (.inr (.inl h3))), orr_9]
          · rw [if_f h3]
            by_cases h4 : a[j].Days > 10000
            · rw [if_t h4, chkT_9 (.inr (.inr (.inr h4))), orr_9]
            · rw [if_f h4]
              have hb : ¬ badT a[j] := by unfold badT; omega
              have ih := L26 F a k hlen n (j + 1) (by omega) (by omega)
              have e : w64 ((j : Int) + 1) = ((j + 1 : Nat) : Int) := by rw [w64_id (by omega) (by omega)]; rfl
              have hp : prvT a (j + 1) = a[j].Severity := by simp [prvT, h]
              rw [hp] at ih
              by_cases h5 : j = 0
              · subst h5
                rw [if_f (by omega), e, ih, chkT_r hb (by simp [prvT]; omega)]
              · rw [if_t (by omega : (j : Int) > 0)]
                have e2 : w64 ((j : Int) - 1) = ((j - 1 : Nat) : Int) := by rw [w64_id (by omega) (by omega)]; omega
                have hp2 : prvT a j = a[j - 1].Severity := by simp [prvT, h5, show j - 1 < a.length by omega]
                rw [e2, idx_nat (by omega), Option.bind_some, hp2]
                by_cases h6 : a[j].Severity ≤ a[j - 1].Severity
                · rw [if_t h6, chkT_10 hb h6, orr_10]
                · rw [if_f h6, chkT_r hb h6, e, ih]
    · rw [if_f (by omega), List.drop_eq_nil_of_le (by omega)]
      rfl
theorem L27 (F : Nat) (a : List TTerm) (k : Option Int) (hlen : a.length < 4000) : ∀ (n j : Nat), j ≤ a.length → a.length - j < n →
    M27_L1 F a k n (j : Int) = orr (chkT (prvT a j) (a.drop j)) k
  | 0, j, _, h => by omega
  | n + 1, j, hj, hn => by
    unfold M27_L1
    by_cases h : j < a.length
    · rw [if_t (by omega : (j : Int) < ((a.length : Nat) : Int)), idx_nat h, List.drop_eq_getElem_cons h]
      simp only [Option.bind_some, jn_def]
      by_cases h1 : a[j].Severity < 0
      · rw [if_t h1, chkT_9 (.inl h1), orr_9]
      · rw [if_f h1]
        by_cases h2 : a[j].Severity > 100
        · rw [if_t h2, chkT_9 (.inr (.inl h2)), orr_9]
        · rw [if_f h2]
          by_cases h3 : a[j].Days < 0
          · rw [if_t h3, chkT_9 (.inr (.inr (.inl h3))), orr_9]
          · rw [if_f h3]
            by_cases h4 : a[j].Days > 10000
            · rw [if_t h4, chkT_9 (.inr (.inr (.inr h4))), orr_9]
            · rw [if_f h4]
              have hb : ¬ badT a[j] := by unfold badT; omega
              have ih := L27 F a k hlen n (j + 1) (by omega) (by omega)
              have e : w64 ((j : Int) + 1) = ((j + 1 : Nat) : Int) := by rw [w64_id (by omega) (by omega)]; rfl
              have hp : prvT a (j + 1) = a[j].Severity := by simp [prvT, h]
              rw [hp] at ih
              by_cases h5 : j = 0
              · subst h5
                rw [if_f (by omega), e, ih, chkT_r hb (by simp [prvT]; omega)]
              · rw [if_t (by omega : (j : Int) > 0)]
                have e2 : w64 ((j : Int) - 1) = ((j - 1 : Nat) : Int) := by rw [w64_id (by omega) (by omega)]; omega
                have hp2 : prvT a j = a[j - 1].Severity := by simp [prvT, h5, show j - 1 < a.length by omega]
                rw [e2, idx_nat (by omega), Option.bind_some, hp2]
                by_cases h6 : a[j].Severity ≤ a[j - 1].Severity
                · rw [if_t h6, chkT_10 hb h6, orr_10]
                · rw [if_f h6, chkT_r hb h6, e, ih]
    · rw [if_f (by omega), List.drop_eq_nil_of_le (by omega)]
      rfl
theorem orr_some (e : Int) : orr e (some 0) = some e := by unfold orr; split <;> simp_all
theorem M26_eq (F : Nat) (l : List TTerm) (hF : 5000 ≤ F) : M26 F l = some (terms l) := by
  unfold M26 terms
  by_cases h1 : l.length = 0
  · rw [if_pos (by simp [h1]), if_pos h1]
  · rw [if_neg (show ¬ (((l.length : Nat) : Int) == 0) = true by simp; intro e; exact h1 (by simp [e])), if_neg h1]
    by_cases h2 : l.length > 10
    · rw [if_t (by omega), if_pos h2]
    · rw [if_f (by omega), if_neg h2, jn_def]
      exact (L26 F l (some 0) (by omega) F 0 (by omega) (by omega)).trans (orr_some _)
theorem M27_eq (F : Nat) (l : List TTerm) (hF : 5000 ≤ F) : M27 F l = some (terms l) := by
  unfold M27 terms
  by_cases h1 : l.length = 0
  · rw [if_pos (by simp [h1]), if_pos h1]
  · rw [if_neg (show ¬ (((l.length : Nat) : Int) == 0) = true by simp; intro e; exact h1 (by simp [e])), if_neg h1]
    by_cases h2 : l.length > 10
    · rw [if_t (by omega), if_pos h2]
    · rw [if_f (by omega), if_neg h2, jn_def]
      exact (L27 F l (some 0) (by omega) F 0 (by omega) (by omega)).trans (orr_some _)
theorem terms_zero {l : List TTerm} (h : terms l = 0) : l.length ≤ 10 ∧ ∀ t, t ∈ l → ¬ badT t := by
  unfold terms at h
  split at h
  · simp at h
  · split at h
    · simp at h
    · exact ⟨by omega, chkT_zero l _ h⟩
def pick (sev : Int) (acc : Int) (t : TTerm) : Int := if t.Severity ≤ sev then t.Days else acc
theorem L79 (F : Nat) (a : List TTerm) (w : TWindow) (k : Int → Option (Int × Bool × Int)) (hlen : a.length < 4000) : ∀ (n j : Nat) (b : Int), j ≤ a.length → a.length - j < n →
    M79_L1 F a w k n b (j : Int) = k ((a.drop j).foldl (pick w.Severity) b)
  | 0, j, b, _, h => by omega
  | n + 1, j, b, hj, hn => by
    unfold M79_L1
    by_cases h : j < a.length
    · rw [if_t (by omega : (j : Int) < ((a.length : Nat) : Int)), idx_nat h, List.drop_eq_getElem_cons h]
      have e : w64 ((j : Int) + 1) = ((j + 1 : Nat) : Int) := by rw [w64_id (by omega) (by omega)]; rfl
      simp only [Option.bind_some, jn_def, List.foldl_cons, e]
      rw [L79 F a w k hlen n (j + 1) _ (by omega) (by omega), L79 F a w k hlen n (j + 1) _ (by omega) (by omega)]
      by_cases h1 : a[j].Severity ≤ w.Severity
      · rw [if_t h1]; simp [pick, h1]
      · rw [if_f h1]; simp [pick, h1]
    · rw [if_f (by omega), List.drop_eq_nil_of_le (by omega)]
      rfl
theorem L80 (F : Nat) (a : List TTerm) (sev : Int) (k : Bool → Int → Int → Option (TTerm × Bool)) (hlen : a.length < 4000) (hb : ∀ t, t ∈ a → ¬ badT t) : ∀ (n j : Nat) (f : Bool) (s d : Int), j ≤ a.length → a.length - j < n → (f = true → 0 ≤ d ∧ d ≤ 10000) →
    ∃ f' s' d', M80_L1 F a sev k n f (j : Int) s d = k f' s' d' ∧ (a.drop j).foldl (pick sev) (if f = true then d else -1) = (if f' = true then d' else -1) ∧ (f' = true → 0 ≤ d' ∧ d' ≤ 10000)
  | 0, j, f, s, d, _, h, _ => by omega
  | n + 1, j, f, s, d, hj, hn, hd => by
    unfold M80_L1
    by_cases h : j < a.length
    · rw [if_t (by omega : (j : Int) < ((a.length : Nat) : Int)), idx_nat h, List.drop_eq_getElem_cons h]
      have e : w64 ((j : Int) + 1) = ((j + 1 : Nat) : Int) := by rw [w64_id (by omega) (by omega)]; rfl
      simp only [Option.bind_some, jn_def, List.foldl_cons, e]
      by_cases h1 : a[j].Severity ≤ sev
      · rw [if_t h1]
        have hx := hb a[j] (List.getElem_mem h)
        unfold badT at hx
        obtain ⟨f', s', d', g1, g2, g3⟩ := L80 F a sev k hlen hb n (j + 1) true a[j].Severity a[j].Days (by omega) (by omega) (fun _ => by omega)
        refine ⟨f', s', d', g1, ?_, g3⟩
        rw [← g2]; simp [pick, h1]
      · rw [if_f h1]
        obtain ⟨f', s', d', g1, g2, g3⟩ := L80 F a sev k hlen hb n (j + 1) f s d (by omega) (by omega) hd
        refine ⟨f', s', d', g1, ?_, g3⟩
        rw [← g2]
        congr 1
        unfold pick; rw [if_neg h1]
    · rw [if_f (by omega), List.drop_eq_nil_of_le (by omega)]
      exact ⟨f, s, d, rfl, rfl, hd⟩
theorem M77_eq (F : Nat) (c : TCalendar) (k : Tprovenderref11_calendar) (h1 : k.free = fre c) (h2 : ∀ d, isHol k.holidays d = decide (d ∈ c.Holidays)) (m : Nat) (hm : m ≤ 1000000) (n : Int) (hn0 : 0 ≤ n) (hn1 : n ≤ 1000000) (hF : 1000003 ≤ F) :
    ∃ d x, Least c m n d ∧ M77 F k (m : Int) n = some x ∧ x.2 = decide (d ≤ 1000000) ∧ (d ≤ 1000000 → x.1 = (d : Int)) := by
  unfold M77
  rw [jn_def]
  obtain ⟨d, r, g1, g2, g3, g4⟩ := L77 F c k h1 h2 m n (fun n5 n6 => if (n5 == 0) = true then some (n6, (decide (n6 ≤ 1000000))) else some (n6, false)) F m n (by omega) (by omega) (by omega) hn0 hn1 rfl (fun e h3 h4 => by omega)
  rw [g4]
  by_cases h3 : d ≤ 1000000
  · have hr : r = 0 := by
      rcases g1.at' with e | e
      · omega
      · omega
    rw [hr, if_pos (by rfl)]
    exact ⟨d, _, g1, rfl, by simp [h3]; omega, fun _ => rfl⟩
  · by_cases hr : r = 0
    · rw [hr, if_pos (by rfl)]
      exact ⟨d, _, g1, rfl, by simp [h3]; omega, fun h => absurd h h3⟩
    · rw [if_neg (by simpa using hr)]
      exact ⟨d, _, g1, rfl, by simp [h3], fun h => absurd h h3⟩
end Go.Proofs.Ytkciogeafbbggaa
