/- Part of the proof: HNum. -/
import Derived.Test.YtkciogeafbbggaaOHWin
namespace Go.Proofs.Ytkciogeafbbggaa
open Go Go.Pv
set_option linter.unusedVariables false
def row (m : Nat) (g : Nat → Int) : List Int := (List.range m).map g
theorem pcs_to {K : KMap} {u : Int} {p : Thistory_piece} : ∀ {l : List TRelease}, (∀ r, r ∈ l → r.Day ≤ u) → p ∈ pcs K u l → p.to ≤ u
  | [], _, h => by simp [pcs] at h
  | r :: l, hd, h => by
    rw [pcs] at h
    rcases List.mem_append.1 h with h | h
    · obtain ⟨x, hx, hp⟩ := List.mem_filterMap.1 h
      obtain ⟨_, _, _, h4⟩ := pc_some hp
      refine Int.le_trans h4 ?_
      cases l with
      | nil => exact Int.le_refl _
      | cons r' l => exact hd r' (by simp)
    · exact pcs_to (fun r hr => hd r (List.mem_cons_of_mem _ hr)) h
theorem pcs_from {s : TStory} (R : RightS s) : ∀ p, p ∈ pcs (kmap [] s.Known) s.Until s.Releases → 0 ≤ p.from_ ∧ p.from_ < p.to ∧ p.to ≤ s.Until := by
  intro p hp
  obtain ⟨r, h1, h2, h3, h4⟩ := pcs_mem hp
  have h5 := R.rel r h1
  have h6 := pcs_to (fun r hr => (R.rel r hr).2.2.1) hp
  exact ⟨by omega, h3, h6⟩
def sees (sv : Int) (d : Int) (p : Thistory_piece) : Bool := decide (sv ≤ p.x.Severity) && onDay d p
theorem sees_iff {sv d : Int} {p : Thistory_piece} : sees sv d p = true ↔ sv ≤ p.x.Severity ∧ p.from_ ≤ d ∧ d < p.to := by unfold sees onDay; simp
def hit (f sv : Int) (l : List Thistory_piece) (d : Nat) : Bool := decide (f ≤ (d : Int)) && l.any (sees sv d)
def days (f t sv : Int) (l : List Thistory_piece) : Nat := (List.range t.toNat).countP (hit f sv l)
theorem countP_or {α : Type} (A B : α → Bool) : ∀ (l : List α), (∀ d, d ∈ l → ¬ (A d = true ∧ B d = true)) → l.countP (fun d => A d || B d) = l.countP A + l.countP B
  | [], _ => rfl
  | x :: l, h => by
    have ih := countP_or A B l (fun d hd => h d (List.mem_cons_of_mem _ hd))
    have hx := h x (by simp)
    rw [List.countP_cons, List.countP_cons, List.countP_cons, ih]
    cases hA : A x <;> cases hB : B x <;> simp_all <;> omega
theorem countP_iv (b e : Nat) : ∀ t : Nat, (List.range t).countP (fun d => decide (b ≤ d) && decide (d < e)) = min e t - b
  | 0 => by simp
  | t + 1 => by
    rw [List.range_succ, List.countP_append, countP_iv b e t, List.countP_cons, List.countP_nil]
    by_cases h : b ≤ t ∧ t < e
    · simp only [h.1, h.2, decide_true, Bool.and_self, if_true]; omega
    · rw [if_neg (by simpa using h)]; omega
structure Swept (f t sv : Int) (Q : List Thistory_piece) (n at' : Int) : Prop where
  cnt : n = (days f t sv Q : Nat)
  low : f ≤ at'
  top : at' ≤ 1000000
  all : ∀ d : Int, f ≤ d → d < t → Q.any (sees sv d) = true → d < at'
  by' : at' = f ∨ ∃ q, q ∈ Q ∧ sv ≤ q.x.Severity ∧ at' ≤ q.to
theorem any_snoc {sv d : Int} {Q : List Thistory_piece} {p : Thistory_piece} : (Q ++ [p]).any (sees sv d) = (Q.any (sees sv d) || sees sv d p) := by simp
theorem Swept.skip {f t sv : Int} {Q : List Thistory_piece} {n a : Int} (h : Swept f t sv Q n a) {p : Thistory_piece} (hp : p.x.Severity < sv) : Swept f t sv (Q ++ [p]) n a := by
  have e : ∀ d, sees sv d p = false := fun d => by unfold sees; rw [show decide (sv ≤ p.x.Severity) = false by simp; omega]; rfl
  refine ⟨?_, h.low, h.top, fun d h1 h2 h3 => h.all d h1 h2 (by rw [any_snoc, e, Bool.or_false] at h3; exact h3), ?_⟩
  · rw [h.cnt]
    unfold days hit
    simp only [any_snoc, e, Bool.or_false]
  · rcases h.by' with h | ⟨q, h1, h2⟩
    · exact .inl h
    · exact .inr ⟨q, List.mem_append_left _ h1, h2⟩
theorem Swept.next {f t sv : Int} {Q : List Thistory_piece} {n a : Int} (h : Swept f t sv Q n a) (hf : 0 ≤ f) {p : Thistory_piece} (hp : sv ≤ p.x.Severity) (hs : ∀ q, q ∈ Q → q.from_ ≤ p.from_)
    (ht : 0 ≤ t) {b e : Int} (hb : b = if p.from_ > a then p.from_ else a) (he : e = if p.to < t then p.to else t) (n' : Int) (hn : n' = if b < e then n + (e - b) else n) :
    n' = (days f t sv (Q ++ [p]) : Nat) := by
  have new : ∀ d : Nat, d ∈ List.range t.toNat → (hit f sv (Q ++ [p]) d = (hit f sv Q d || (decide (b.toNat ≤ d) && decide (d < e.toNat)))) ∧ ¬ (hit f sv Q d = true ∧ (decide (b.toNat ≤ d) && decide (d < e.toNat)) = true) := by
    intro d hd
    have hd := List.mem_range.1 hd
    have hlow := h.low
    have key : f ≤ (d : Int) → Q.any (sees sv d) = false → (sees sv d p = true ↔ b.toNat ≤ d ∧ d < e.toNat) := by
      intro h1 h2
      rw [sees_iff]
      constructor
      · rintro ⟨_, h3, h4⟩
        have : a ≤ d := by
          rcases h.by' with hh | ⟨q, q1, q2, q3⟩
          · omega
          · by_cases hlt : (d : Int) < a
            · exfalso
              have := hs q q1
              have hq : sees sv d q = true := sees_iff.2 ⟨q2, by omega, by omega⟩
              rw [List.any_eq_false] at h2
              exact h2 q q1 hq
            · omega
        constructor
        · rw [hb]; split <;> omega
        · rw [he]; split <;> omega
      · rintro ⟨h3, h4⟩
        refine ⟨hp, ?_, ?_⟩
        · rw [hb] at h3; split at h3 <;> omega
        · rw [he] at h4; split at h4 <;> omega
    have key2 : b.toNat ≤ d ∧ d < e.toNat → f ≤ (d : Int) ∧ Q.any (sees sv d) = false := by
      rintro ⟨h3, h4⟩
      have hab : a ≤ d := by rw [hb] at h3; split at h3 <;> omega
      refine ⟨by omega, ?_⟩
      cases hq : Q.any (sees sv d) with
      | false => rfl
      | true => have := h.all d (by omega) (by omega) hq; omega
    have hI : (decide (b.toNat ≤ d) && decide (d < e.toNat)) = true ↔ b.toNat ≤ d ∧ d < e.toNat := by simp
    constructor
    · unfold hit
      rw [any_snoc]
      by_cases h1 : f ≤ (d : Int)
      · rw [show decide (f ≤ (d : Int)) = true by simpa using h1, Bool.true_and, Bool.true_and]
        cases hq : Q.any (sees sv d) with
        | true => simp
        | false =>
          rw [Bool.false_or, Bool.false_or, Bool.eq_iff_iff, hI]
          exact key h1 hq
      · rw [show decide (f ≤ (d : Int)) = false by simpa using h1, Bool.false_and, Bool.false_and, Bool.false_or]
        symm
        rw [Bool.eq_false_iff]
        intro hh
        exact h1 (key2 (hI.1 hh)).1
    · rintro ⟨h1, h2⟩
      have := (key2 (hI.1 h2)).2
      unfold hit at h1
      rw [this, Bool.and_false] at h1
      simp at h1
  have e1 : days f t sv (Q ++ [p]) = days f t sv Q + (min e.toNat t.toNat - b.toNat) := by
    unfold days
    rw [← countP_iv, ← countP_or _ _ _ (fun d hd => (new d hd).2)]
    apply List.countP_congr
    intro d hd
    rw [(new d hd).1]
  have hlow := h.low
  have het : e ≤ t := by rw [he]; split <;> omega
  have hb0 : 0 ≤ b := by rw [hb]; split <;> omega
  rw [e1, hn, h.cnt]
  split <;> omega
end Go.Proofs.Ytkciogeafbbggaa
