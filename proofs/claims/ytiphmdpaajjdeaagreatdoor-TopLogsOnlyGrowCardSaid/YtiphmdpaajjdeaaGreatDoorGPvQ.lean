/- The framework of walks over abstract values (own text), part Q. -/
import Derived.Test.YtiphmdpaajjdeaaGreatDoorGPvS
namespace Go.Pv
open Go
theorem w64_id {n : Int} (h : -9223372036854775808 ≤ n) (h' : n ≤ 9223372036854775807) : w64 n = n := by
  have : w64 n = if n % 18446744073709551616 ≥ 9223372036854775808 then n % 18446744073709551616 - 18446744073709551616 else n % 18446744073709551616 := by
    simp [w64, IntKind.wrap, IntKind.signed, IntKind.bits]
  rw [this]
  split <;> omega
theorem jn_def {α β : Type} (k : α) (b : α → β) : jn k b = b k := rfl
theorem idx_nat {α : Type} {xs : List α} {j : Nat} (h : j < xs.length) : idx xs (j : Int) = some xs[j] := by
  simp [idx, h]
end Go.Pv
