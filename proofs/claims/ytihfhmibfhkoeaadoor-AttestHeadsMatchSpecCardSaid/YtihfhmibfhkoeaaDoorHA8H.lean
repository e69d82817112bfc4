/- Part of the proof: A8H. -/
import Derived.Test.YtihfhmibfhkoeaaDoorHA8L
import Derived.Lib.ItoaLen
namespace Go.Proofs.YtihfhmibfhkoeaaDoor
open Go Go.Pv
set_option linter.unusedVariables false
set_option linter.unusedSimpArgs false
set_option maxRecDepth 100000
def headF (n : Int) (t : List UInt8) : Int := if n < 0 ∨ n > 1073741824 then 9 else if isHex t = false then 2 else 0
def headT (n : Int) (t : List UInt8) : List UInt8 := ((([104, 101, 97, 100, 32] : List UInt8) ++ Lib.itoa n) ++ ([32] : List UInt8)) ++ t
theorem M69_eq (F : Nat) (n : Int) (t : List UInt8) : M69 F n t = some (headF n t) := by
  unfold M69 headF
  rw [M73_eq, Option.bind_some]
  by_cases h1 : n < 0
  · rw [if_pos (by simpa using h1), if_pos (.inl h1)]
  · rw [if_neg (by simpa using h1)]
    by_cases h2 : n > 1073741824
    · rw [if_pos (by simpa using h2), if_pos (.inr h2)]
    · rw [if_neg (by simpa using h2), if_neg (show ¬(n < 0 ∨ n > 1073741824) by omega)]
      cases isHex t <;> rfl
theorem M71_eq (F : Nat) (n : Int) (t : List UInt8) (h : t.length ≤ maxLen) : M71 F n t = some (headF n t) := by
  unfold M71 headF
  rw [M77_eq F t h, Option.bind_some]
  by_cases h1 : n < 0
  · rw [if_pos (by simpa using h1), if_pos (.inl h1)]
  · rw [if_neg (by simpa using h1)]
    by_cases h2 : n > 1073741824
    · rw [if_pos (by simpa using h2), if_pos (.inr h2)]
    · rw [if_neg (by simpa using h2), if_neg (show ¬(n < 0 ∨ n > 1073741824) by omega)]
      cases isHex t <;> rfl
theorem headF_0 {n : Int} {t : List UInt8} (h : headF n t = 0) : 0 ≤ n ∧ n ≤ 1073741824 ∧ isHex t = true := by
  unfold headF at h
  split at h
  · exact absurd h (by decide)
  · split at h
    · exact absurd h (by decide)
    · rename_i h1 h2
      exact ⟨by omega, by omega, by simpa using h2⟩
theorem M70_eq (F : Nat) (n : Int) (t : List UInt8) (h0 : 0 ≤ n) (h1 : n ≤ 1073741824) (ht : t.length = 16) : M70 F n t = some (headT n t) := by
  unfold M70 M107
  have hl := Lib.itoa_length_le n (by omega) (by omega)
  rw [if_pos (by omega), Option.bind_some, if_pos (by simp; omega), if_pos (by simp; omega), if_pos (by simp; omega)]; rfl
theorem M72_eq (F : Nat) (n : Int) (t : List UInt8) (h0 : 0 ≤ n) (h1 : n ≤ 1073741824) (ht : t.length = 16) : M72 F n t = some (headT n t) := M70_eq F n t h0 h1 ht
def signH (k : TKey) (n : Int) (t : List UInt8) : THead × Int :=
  if headF n t ≠ 0 then (THead.mk 0 [] (TSignature.mk [] []), headF n t) else if (signF k (headT n t)).2 ≠ 0 then (THead.mk 0 [] (TSignature.mk [] []), (signF k (headT n t)).2) else (THead.mk n t (signF k (headT n t)).1, 0)
def signedH (k : TKey) (h : THead) : Bool × Int :=
  if headF h.Size h.Root ≠ 0 then (false, headF h.Size h.Root) else signedF k (headT h.Size h.Root) h.Signature
theorem M19_eq (F : Nat) (k : TKey) (n : Int) (t : List UInt8) (hF : 17 ≤ F) (h1 : k.Name.length ≤ maxLen) (h2 : 7 + k.Secret.length ≤ maxLen) : M19 F k n t = some (signH k n t) := by
  unfold M19 signH
  rw [M69_eq, Option.bind_some]
  by_cases h : headF n t = 0
  · have h0 := headF_0 h
    rw [if_neg (by rw [h]; decide), if_neg (by omega), M70_eq F n t h0.1 h0.2.1 (isHex_len h0.2.2), Option.bind_some, M14_eq F k _ hF h1 h2, Option.bind_some]
    by_cases h3 : (signF k (headT n t)).2 = 0
    · rw [if_neg (by rw [h3]; decide), if_neg (by omega)]
    · rw [if_pos (by simpa using h3), if_pos h3]
  · rw [if_pos (by simpa using h), if_pos h]
theorem M20_eq (F : Nat) (k : TKey) (n : Int) (t : List UInt8) (hF : 17 ≤ F) (h1 : k.Name.length ≤ maxLen) (h3 : k.Public.length ≤ maxLen) (h2 : 7 + k.Secret.length ≤ maxLen) (h4 : t.length ≤ maxLen) : M20 F k n t = some (signH k n t) := by
  unfold M20 signH
  rw [M71_eq F n t h4, Option.bind_some]
  by_cases h : headF n t = 0
  · have h0 := headF_0 h
    rw [if_neg (by rw [h]; decide), if_neg (by omega), M72_eq F n t h0.1 h0.2.1 (isHex_len h0.2.2), Option.bind_some, M15_eq F k _ hF h1 h3 h2, Option.bind_some]
    by_cases h3 : (signF k (headT n t)).2 = 0
    · rw [if_neg (by rw [h3]; decide), if_neg (by omega)]
    · rw [if_pos (by simpa using h3), if_pos h3]
  · rw [if_pos (by simpa using h), if_pos h]
theorem M21_eq (F : Nat) (k : TKey) (d : THead) (hF : 17 ≤ F) (h1 : k.Name.length ≤ maxLen) : M21 F k d = some (signedH k d) := by
  unfold M21 signedH
  rw [M69_eq, Option.bind_some]
  by_cases h : headF d.Size d.Root = 0
  · have h0 := headF_0 h
    rw [if_neg (by rw [h]; decide), if_neg (by omega), M70_eq F _ _ h0.1 h0.2.1 (isHex_len h0.2.2), Option.bind_some, M16_eq F k _ _ hF h1, Option.bind_some]
  · rw [if_pos (by simpa using h), if_pos h]
theorem M22_eq (F : Nat) (k : TKey) (d : THead) (hF : 17 ≤ F) (h1 : k.Name.length ≤ maxLen) (h3 : k.Public.length ≤ maxLen) (h4 : d.Root.length ≤ maxLen) : M22 F k d = some (signedH k d) := by
  unfold M22 signedH
  rw [M71_eq F _ _ h4, Option.bind_some]
  by_cases h : headF d.Size d.Root = 0
  · have h0 := headF_0 h
    rw [if_neg (by rw [h]; decide), if_neg (by omega), M72_eq F _ _ h0.1 h0.2.1 (isHex_len h0.2.2), Option.bind_some, M17_eq F k _ _ hF h1 h3, Option.bind_some]
  · rw [if_pos (by simpa using h), if_pos h]
theorem keyF_weak {k : TKey} {t : List UInt8} (h : keyF k t true = 0) : keyF k t false = 0 := by
  obtain ⟨h1, h2, h3, _⟩ := keyF_0 h
  unfold keyF
  rw [h1, h2, if_neg (by decide), if_neg (by decide), if_neg (by simp), if_neg (by simp; omega)]
theorem signH_signed {k : TKey} {n : Int} {t : List UInt8} (h : (signH k n t).2 = 0) : signedH k (signH k n t).1 = (true, 0) := by
  unfold signH at *
  by_cases h1 : headF n t = 0
  · rw [if_neg (by omega)] at *
    by_cases h2 : (signF k (headT n t)).2 = 0
    · rw [if_neg (by omega)] at *
      unfold signedH
      simp only
      rw [if_neg (by omega)]
      unfold signF at *
      by_cases h3 : keyF k (headT n t) true = 0
      · rw [if_pos h3]
        unfold signedF
        rw [if_pos (keyF_weak h3)]
        simp
      · rw [if_neg h3] at h2; exact absurd h2 h3
    · rw [if_pos h2] at h; exact absurd h h2
  · rw [if_pos h1] at h; exact absurd h h1
theorem pl_5 (a1 : TKey) (a2 : Int) (a3 : List UInt8) (a4 : THead) (h1 : a1.Name.length ≤ maxLen) (h2 : 7 + a1.Secret.length ≤ maxLen) (h3 : a1.Public.length ≤ maxLen) (h4 : a3.length ≤ maxLen) (h5 : a4.Root.length ≤ maxLen) : ∃ F, M5 F a1 a2 a3 a4 = some true := by
  refine ⟨17, ?_⟩
  have hF : 17 ≤ 17 := by omega
  unfold M5
  rw [M19_eq 17 _ _ _ hF h1 h2, Option.bind_some, M20_eq 17 _ _ _ hF h1 h3 h2 h4, Option.bind_some, M21_eq 17 _ _ hF h1, Option.bind_some, M22_eq 17 _ _ hF h1 h3 h5, Option.bind_some, M18_eq 17 hF, M21_eq 17 _ _ hF h1, jn_def]
  rw [if_neg (by simp), if_neg (by simp), if_neg (by simp), if_neg (by simp)]
  by_cases h : (signH a1 a2 a3).2 = 0
  · rw [signH_signed h]; simp
  · rw [if_neg (by simpa using h)]; rfl
end Go.Proofs.YtihfhmibfhkoeaaDoor
