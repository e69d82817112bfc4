/- The framework of walks over abstract values (own text), part Q. -/
import Derived.Test.YtpbkggamiipdmaaGreatR3PvS
namespace Go.Pv
open Go
theorem w64_id {n : Int} (h : -9223372036854775808 ≤ n) (h' : n ≤ 9223372036854775807) : w64 n = n := by
  have : w64 n = if n % 18446744073709551616 ≥ 9223372036854775808 then n % 18446744073709551616 - 18446744073709551616 else n % 18446744073709551616 := by
    simp [w64, IntKind.wrap, IntKind.signed, IntKind.bits]
  rw [this]
  split <;> omega
theorem jn_def {α β : Type} (k : α) (b : α → β) : jn k b = b k := rfl
theorem idx_nat {α : Type} {xs : List α} {j : Nat} (h : j < xs.length) : idx xs (j : Int) = some xs[j] := by
  simp [idx, h]
theorem if_t {α : Type} {p : Prop} [Decidable p] {x y : α} (h : p) : (if decide p = true then x else y) = x := by simp [h]
theorem if_f {α : Type} {p : Prop} [Decidable p] {x y : α} (h : ¬ p) : (if decide p = true then x else y) = y := by simp [h]
theorem mid_nat {a b : Nat} (h : a + b < 4611686018427387904) : w64 (Int.fdiv (IntKind.wrap .u64 (w64 ((a : Int) + (b : Int)))) (2 ^ (min (Int.toNat 1) (IntKind.bits .u64)))) = (((a + b) / 2 : Nat) : Int) := by
  rw [w64_id (n := (a : Int) + b) (by omega) (by omega)]
  have : IntKind.wrap .u64 ((a : Int) + b) = ((a + b : Nat) : Int) := by
    simp only [IntKind.wrap, IntKind.signed, IntKind.bits, Bool.false_and]
    simp
    omega
  rw [this]
  have e : (2 : Int) ^ (min (Int.toNat 1) (IntKind.bits .u64)) = 2 := by decide
  rw [e, Int.fdiv_eq_ediv_of_nonneg _ (by omega)]
  rw [w64_id (by omega) (by omega)]
  omega
theorem mget_mput {α β : Type} [DecidableEq α] (xs : List (α × β)) (k k' : α) (v : β) : mget (mput xs k v) k' = if k = k' then some v else mget xs k' := by
  induction xs with
  | nil => simp [mput, mget]
  | cons p r ih =>
    simp only [mput]
    split
    · rename_i h
      simp only [mget, h]
      split <;> simp_all
    · rename_i h
      simp only [mget]
      by_cases h2 : p.1 = k'
      · rw [if_pos h2, if_pos h2, if_neg (fun e => h (h2.trans e.symm))]
      · rw [if_neg h2, if_neg h2]; exact ih
end Go.Pv
