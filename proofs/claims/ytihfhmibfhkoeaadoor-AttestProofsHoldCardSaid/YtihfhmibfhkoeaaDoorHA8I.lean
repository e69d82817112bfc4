/- Part of the proof: A8I. -/
import Derived.Test.YtihfhmibfhkoeaaDoorHA8L
namespace Go.Proofs.YtihfhmibfhkoeaaDoor
open Go Go.Pv
set_option linter.unusedVariables false
set_option linter.unusedSimpArgs false
set_option maxRecDepth 100000
def sumsF (l : List (List UInt8)) : Int := if l.all isHex = true then 0 else 2
theorem M74_L1_eq (F : Nat) (k : Option Int) : ∀ l : List (List UInt8), M74_L1 F k l = if l.all isHex = true then k else some 2
  | [] => rfl
  | x :: l => by
    rw [M74_L1, M73_eq, Option.bind_some, M74_L1_eq F k l, List.all_cons]
    cases isHex x <;> rfl
theorem M74_eq (F : Nat) (l : List (List UInt8)) (m : Int) : M74 F l m = some (if (l.length : Int) > m then 3 else sumsF l) := by
  unfold M74 sumsF
  rw [jn_def, M74_L1_eq]
  by_cases h : (l.length : Int) > m
  · rw [if_pos (by simpa using h), if_pos h]
  · rw [if_neg (by simpa using h), if_neg h]
    split <;> rfl
theorem M119_L1_is (F : Nat) (a : Int) (k : Int → Option Int) : ∀ (m : Nat) (j : Int), M119_L1 F a k m j = M116_L1 F a k m j
  | 0, j => rfl
  | m + 1, j => by rw [M119_L1, M116_L1, M119_L1_is F a k m]
theorem M119_is (F : Nat) (a : Int) : M119 F a = M116 F a := by unfold M119 M116; rw [jn_def, jn_def, M119_L1_is]
def joinT (a b : List UInt8) : List UInt8 := hex16 (fnv ((([1] : List UInt8) ++ a) ++ b)).toNat
theorem joinT_hex (a b : List UInt8) : isHex (joinT a b) = true := hex16_hex _
theorem M117_eq (F : Nat) (hF : 17 ≤ F) (a b : List UInt8) (h1 : a.length ≤ 16) (h2 : b.length ≤ 16) : M117 F a b = some (joinT a b) := by
  unfold M117
  rw [if_pos (by simp; omega), if_pos (by simp; omega), M114_eq F _ (by unfold maxLen; simp; omega) hF]; rfl
theorem M120_eq (F : Nat) (hF : 17 ≤ F) (a b : List UInt8) (h1 : a.length ≤ 16) (h2 : b.length ≤ 16) : M120 F a b = some (joinT a b) := by
  unfold M120
  rw [if_pos (by simp; omega), if_pos (by simp; omega), M64_eq F _ (by unfold maxLen; simp; omega) hF]; rfl
end Go.Proofs.YtihfhmibfhkoeaaDoor
