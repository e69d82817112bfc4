/- Part of the proof: KW. -/
import Derived.Test.YtpbkggamiipdmaaMPvK
namespace Go.Pv
open Go Go.ChangeShapes Go.WideShapes Go.ChangeAt Go.RowKit
set_option linter.unusedVariables false
variable {P : Program} {α : Type}
/-- The bytes of a slice that is handed over. -/
theorem opens_sliceW {t e k : Nat} {ee : α → List V} {sz : List α → Nat} {ok : List α → Prop} (ht : P.underlying t = some (.slice e)) (he : Opens P t (fun l : List α => [V.lst k (l.map ee)]) sz ok) :
    Opens P t (fun l : List α => [V.lst k (l.map ee)]) sz (fun l => ok l ∧ l.length * P.bytesOf e ≤ reachBytes) := by
  intro H enc w fuel cs x h hw
  obtain ⟨l, r1, r2, r3⟩ := he enc w fuel cs x h hw
  refine ⟨l, r1, r2, r3, ?_⟩
  rcases Deep.open_slice ht h with ⟨rfl, rfl⟩ | ⟨a, len, cap, m, n, D, Pl, rfl, _, hlc, hcm, hm, rfl, hel⟩
  · have := r1.2 0 _ _ rfl rfl
    have hl : l = [] := by
      generalize hr : l.map ee = rows at this
      cases this with
      | nil => simpa using hr
    subst hl; simp
  · simp only [if_true] at hm
    subst hm
    have hl : l.length = len := by
      have := r1.2 0 _ _ rfl rfl
      generalize hr : l.map ee = rows at this
      cases this with
      | nil => have : l = [] := by simpa using hr
               subst this; rfl
      | lst f h1 h2 h3 => rw [← h3, ← hr]; simp
    unfold wOk at hw
    rw [DataW.weights] at hw
    simp only [ht, List.all_cons, List.all_append, Bool.and_eq_true, decide_eq_true_eq, List.length_map, List.length_range] at hw
    have := hw.1
    rw [hl]
    exact Nat.le_trans (Nat.mul_le_mul_right _ (by omega)) this
end Go.Pv
