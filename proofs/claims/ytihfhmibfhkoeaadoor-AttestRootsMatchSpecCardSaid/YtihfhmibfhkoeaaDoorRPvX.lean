/- The framework of walks over abstract values (own text), part X. -/
import Derived.Test.YtihfhmibfhkoeaaDoorRPvV
import Derived.Test.YtihfhmibfhkoeaaDoorRPvQ
namespace Go.Pv
open Go
theorem eqL_at {α : Type} [DecidableEq α] {g : List α → Int → Option Bool} (b : List α) (k : Option Bool)
    (h0 : ∀ n, g [] n = k) (h1 : ∀ x l n, g (x :: l) n = (idx b n).bind fun y => if (!(decide (x = y))) = true then some false else g l (n + 1)) :
    ∀ (l : List α) (n : Nat), n + l.length ≤ b.length → g l n = if l = (b.drop n).take l.length then k else some false
  | [], n, _ => by simp [h0]
  | x :: l, n, h => by
    have hn : n < b.length := by simp at h; omega
    rw [h1, idx_nat hn, Option.bind_some]
    have ih := eqL_at b k h0 h1 l (n + 1) (by simp at h; omega)
    have e : ((n : Int) + 1) = ((n + 1 : Nat) : Int) := rfl
    rw [e, ih, List.drop_eq_getElem_cons hn]
    simp only [List.length_cons, List.take_succ_cons, List.cons.injEq]
    by_cases hx : x = b[n]
    · simp [hx]
    · simp [hx]
theorem eqL_all {α : Type} [DecidableEq α] {g : List α → Int → Option Bool} (b : List α)
    (h0 : ∀ n, g [] n = some true) (h1 : ∀ x l n, g (x :: l) n = (idx b n).bind fun y => if (!(decide (x = y))) = true then some false else g l (n + 1)) (a : List α) :
    (if (((a.length : Nat) : Int) != ((b.length : Nat) : Int)) = true then some false else g a 0) = some (decide (a = b)) := by
  by_cases h : a.length = b.length
  · rw [if_neg (by simp [h])]
    have := eqL_at b (some true) h0 h1 a 0 (by omega)
    rw [show ((0 : Nat) : Int) = 0 from rfl] at this
    rw [this, List.drop_zero, List.take_of_length_le (by omega)]
    split <;> simp [*]
  · rw [if_pos (by simp; omega)]
    have : a ≠ b := fun e => h (by rw [e])
    simp [this]
end Go.Pv
