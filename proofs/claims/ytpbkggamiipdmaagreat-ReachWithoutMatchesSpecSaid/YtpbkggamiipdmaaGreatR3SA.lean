/- Part of the proof: SA. -/
import Derived.Test.YtpbkggamiipdmaaGreatR3Z6M
import Derived.Test.YtpbkggamiipdmaaGreatR3Z6O
import Derived.Test.YtpbkggamiipdmaaGreatR3PvQ
import Derived.Test.YtpbkggamiipdmaaGreatR3PvX
namespace Go.Proofs.YtpbkggamiipdmaaGreat
open Go Go.Pv
set_option linter.unusedVariables false
set_option linter.unusedSimpArgs false
set_option maxRecDepth 100000
abbrev Tx := List UInt8
def vis (c : UInt8) : Bool := decide (33 ≤ c.toNat) && decide (c.toNat ≤ 126) && !decide (c.toNat = 35)
def nm (s : Tx) : Bool := s.all vis && decide (1 ≤ s.length) && decide (s.length ≤ 100)
def le (a b : Tx) : Bool := Op.bytesLess a b || a == b
theorem le_nil {s : Tx} (h : nm s = true) : le s [] = false := by
  cases s with
  | nil => simp [nm] at h
  | cons c s => simp [le, Op.bytesLess]
theorem le_iff {a b : Tx} : le a b = false ↔ Op.bytesLess b a = true := by
  unfold le
  rcases bl_tri a b with h | h | h
  · simp [h, bl_asymm h]
  · subst h; simp [bl_irrefl]
  · simp [h, bl_asymm h, (bl_ne h).symm]
theorem M79_eq (F : Nat) (s : Tx) (h : s.length ≤ maxLen) : M79 F s = some (nm s) := by
  have h' : (s.length : Int) ≤ 9223372036854775807 := by have : s.length ≤ 9223372036854775807 := h; omega
  unfold M79
  rw [jn_def, if_pos h', Int.toNat_natCast]
  generalize hk : (if (!(s == [])) = true then some (decide ((s.length : Int) ≤ 100)) else some false) = k
  have := bytesL (g := M79_L1 F s k) (k := k) (f := false) s vis (fun _ => rfl) (fun m n => by
    rw [M79_L1]
    cases hi : idx s n with
    | none => rfl
    | some c =>
      simp only [Option.bind_some]
      by_cases h1 : c.toNat < 33
      · rw [if_t (by omega)]; simp [vis]; omega
      · rw [if_f (by omega)]
        by_cases h2 : c.toNat > 126
        · rw [if_t (by omega)]; simp [vis]; omega
        · rw [if_f (by omega)]
          by_cases h3 : c.toNat = 35
          · rw [if_pos (by simp [h3])]; simp [vis, h3]
          · rw [if_neg (by simp; omega), if_pos]; simp [vis]; omega) s.length 0 (by omega)
  rw [show ((0 : Nat) : Int) = 0 from rfl] at this
  rw [this, List.drop_zero, ← hk]
  unfold nm
  cases s.all vis
  · simp
  · cases s with
    | nil => simp
    | cons c s => simp only [if_true, Bool.true_and]; rw [if_pos (by simp)]; congr 1; rw [Bool.eq_iff_iff]; simp only [decide_eq_true_eq, Bool.and_eq_true, List.length_cons]; omega
theorem M82_eq (F : Nat) (s : Tx) (h : s.length ≤ maxLen) : M82 F s = some (nm s) := by
  have h' : (s.length : Int) ≤ 9223372036854775807 := by have : s.length ≤ 9223372036854775807 := h; omega
  unfold M82
  rw [jn_def, if_pos h', Int.toNat_natCast]
  generalize hk : (if decide ((s.length : Int) ≥ 1) = true then some (decide ((s.length : Int) ≤ 100)) else some false) = k
  have := bytesL (g := M82_L1 F s k) (k := k) (f := false) s vis (fun _ => rfl) (fun m n => by
    rw [M82_L1]
    cases hi : idx s n with
    | none => rfl
    | some c =>
      simp only [Option.bind_some]
      by_cases h1 : c.toNat < 33
      · rw [if_t (by omega)]; simp [vis]; omega
      · rw [if_f (by omega)]
        by_cases h2 : c.toNat > 126
        · rw [if_t (by omega)]; simp [vis]; omega
        · rw [if_f (by omega)]
          by_cases h3 : c.toNat = 35
          · rw [if_pos (by simp [h3])]; simp [vis, h3]
          · rw [if_neg (by simp; omega), if_pos]; simp [vis]; omega) s.length 0 (by omega)
  rw [show ((0 : Nat) : Int) = 0 from rfl] at this
  rw [this, List.drop_zero, ← hk]
  unfold nm
  cases s.all vis
  · simp
  · simp only [if_true, Bool.true_and]
    by_cases h1 : 1 ≤ s.length
    · rw [if_t (by omega)]; congr 1; rw [Bool.eq_iff_iff]; simp only [decide_eq_true_eq, Bool.and_eq_true]; omega
    · rw [if_f (by omega)]; congr 1; symm; rw [Bool.eq_false_iff]; simp only [decide_eq_true_eq, Bool.and_eq_true, ne_eq]; omega
def nmd (s before : Tx) (first : Bool) : Int := if !nm s then 8 else if !first then (if le s before then 10 else 0) else 0
theorem M173_eq (F : Nat) (s b : Tx) (f : Bool) (h : s.length ≤ maxLen) : M173 F s b f = some (nmd s b f) := by
  unfold M173 nmd
  rw [M79_eq F s h, Option.bind_some, jn_def]
  cases nm s
  · simp
  · cases f
    · simp [le]; split <;> rfl
    · simp
/-- The error of a name behind another one, if there is one. -/
def nme (s : Tx) (p : Option Tx) : Int := if !nm s then 8 else match p with | some b => if le s b then 10 else 0 | none => 0
theorem nmd_first (s b : Tx) : nmd s b true = nme s none := by unfold nmd nme; cases nm s <;> rfl
theorem nmd_next (s b : Tx) : nmd s b false = nme s (some b) := by unfold nmd nme; cases nm s <;> rfl
theorem nme_zero {s : Tx} {p : Option Tx} (h : nme s p = 0) : nm s = true ∧ ∀ b, p = some b → Op.bytesLess b s = true := by
  unfold nme at h
  cases hn : nm s
  · simp [hn] at h
  · refine ⟨rfl, fun b hb => ?_⟩
    subst hb
    simp only [hn, Bool.not_true, Bool.false_eq_true, if_false] at h
    split at h
    · simp at h
    · rename_i hl; exact le_iff.1 (by simpa using hl)
end Go.Proofs.YtpbkggamiipdmaaGreat
