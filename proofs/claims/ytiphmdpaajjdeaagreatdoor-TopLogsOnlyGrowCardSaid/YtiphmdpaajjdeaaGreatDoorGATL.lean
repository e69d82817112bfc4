/- Part of the proof: ATL. -/
import Derived.Test.YtiphmdpaajjdeaaGreatDoorGATK
namespace Go.Proofs.YtiphmdpaajjdeaaGreatDoor
open Go Go.Pv
set_option linter.unusedVariables false
set_option linter.unusedSimpArgs false
set_option maxRecDepth 100000
def hexC (c : UInt8) : Bool := (decide ((c.toNat : Int) ≥ 48) && decide ((c.toNat : Int) ≤ 57)) || (decide ((c.toNat : Int) ≥ 97) && decide ((c.toNat : Int) ≤ 102))
def isHex (a : List UInt8) : Bool := ((a.length : Int) == 16) && a.all hexC
theorem M73_L1_eq (F : Nat) (a : List UInt8) (ha : a.length = 16) : ∀ (m j : Nat) (f : Nat → Int), j + m = a.length →
    ∃ f', M73_L1 F a (fun f4 => some (f4, true)) m (j : Int) f = some (f', (a.drop j).all hexC) ∧ ((a.drop j).all hexC = true → ∀ i (h : i < a.length), f' i = if i < j then f i else (a[i].toNat : Int))
  | 0, j, f, h => by
    refine ⟨f, ?_, ?_⟩
    · rw [M73_L1, List.drop_eq_nil_of_le (by omega)]; rfl
    · intro _ i hi; rw [if_pos (by omega)]
  | m + 1, j, f, h => by
    have hj : j < a.length := by omega
    obtain ⟨f', e, hf⟩ := M73_L1_eq F a ha m (j + 1) (upd f j (a[j].toNat : Int)) (by omega)
    rw [M73_L1, jn_def, idx_nat hj, Option.bind_some, show ((j : Int) + 1) = ((j + 1 : Nat) : Int) by rfl, List.drop_eq_getElem_cons hj, List.all_cons]
    have h16 : (0 ≤ (j : Int) ∧ j < 16) = True := eq_true (by omega)
    simp only [Int.toNat_natCast, h16, if_true, e]
    by_cases hc : hexC a[j] = true
    · refine ⟨f', ?_, ?_⟩
      · rw [hc, Bool.true_and]
        revert hc
        unfold hexC
        generalize (a.drop (j + 1)).all _ = B
        generalize decide ((a[j].toNat : Int) ≥ 97) = b1
        generalize decide ((a[j].toNat : Int) ≤ 102) = b2
        generalize decide ((a[j].toNat : Int) ≥ 48) = b3
        generalize decide ((a[j].toNat : Int) ≤ 57) = b4
        cases b1 <;> cases b2 <;> cases b3 <;> cases b4 <;> simp
      · rw [hc, Bool.true_and]
        intro h2 i hi
        rw [hf h2 i hi]
        unfold upd
        by_cases h3 : i < j
        · rw [if_pos (by omega), if_neg (by omega), if_pos h3]
        · rw [if_neg h3]
          by_cases h4 : i = j
          · subst h4; rw [if_pos (by omega), if_pos rfl]
          · rw [if_neg (by omega)]
    · refine ⟨f, ?_, ?_⟩
      · have hc2 : hexC a[j] = false := by simpa using hc
        rw [hc2, Bool.false_and]
        revert hc2
        unfold hexC
        generalize (a.drop (j + 1)).all _ = B
        generalize decide ((a[j].toNat : Int) ≥ 97) = b1
        generalize decide ((a[j].toNat : Int) ≤ 102) = b2
        generalize decide ((a[j].toNat : Int) ≥ 48) = b3
        generalize decide ((a[j].toNat : Int) ≤ 57) = b4
        cases b1 <;> cases b2 <;> cases b3 <;> cases b4 <;> simp
      · intro h2
        have : hexC a[j] = true := by
          rw [Bool.and_eq_true] at h2; exact h2.1
        exact absurd this hc
theorem M73_eq (F : Nat) (a : List UInt8) : ∃ f, M73 F a = some (f, isHex a) ∧ (isHex a = true → (List.range 16).map f = a.map fun c => (c.toNat : Int)) := by
  unfold M73 isHex
  by_cases h : a.length = 16
  · obtain ⟨f, e, hf⟩ := M73_L1_eq F a h a.length 0 (fun _ => 0) (by omega)
    refine ⟨f, ?_, ?_⟩
    · rw [if_neg (by simp; omega), jn_def, if_pos (by omega), Int.toNat_natCast]
      rw [show (0 : Int) = ((0 : Nat) : Int) by rfl, show (fun _ : Nat => ((0 : Nat) : Int)) = (fun _ => (0 : Int)) by rfl, e, List.drop_zero, h]
      rfl
    · intro h2
      rw [Bool.and_eq_true] at h2
      apply List.ext_getElem
      · simp [h]
      · intro i h3 h4
        simp only [List.getElem_map, List.getElem_range]
        rw [hf h2.2 i (by simpa using h4), if_neg (by omega)]
  · refine ⟨arrOf 0 [0, 0, 0, 0, 0, 0, 0, 0, 0, 0, 0, 0, 0, 0, 0, 0], ?_, ?_⟩
    · rw [if_pos (by simp; omega), show ((a.length : Int) == 16) = false by simp; omega, Bool.false_and]
    · intro h2
      rw [show ((a.length : Int) == 16) = false by simp; omega, Bool.false_and] at h2
      exact absurd h2 (by decide)
theorem M43_eq (F : Nat) (a : List UInt8) : M43 F a = some (isHex a) := by
  obtain ⟨f, e, _⟩ := M73_eq F a
  unfold M43; rw [e]; rfl
theorem map_toNat_inj (a b : List UInt8) : (a.map (fun c => (c.toNat : Int)) == b.map fun c => (c.toNat : Int)) = (a == b) := by
  rw [Bool.eq_iff_iff, beq_iff_eq, beq_iff_eq]
  constructor
  · intro h
    have := List.map_inj_right (f := fun c : UInt8 => (c.toNat : Int)) (l := a) (l' := b) (by intro x y hxy; exact UInt8.toNat_inj.1 (Int.ofNat.inj hxy))
    exact this.1 h
  · intro h; rw [h]
theorem byteI_map (a : List UInt8) : (a.map fun c => (c.toNat : Int)).all byteI = true := by
  rw [List.all_eq_true]
  intro x hx
  obtain ⟨c, _, rfl⟩ := List.mem_map.1 hx
  have := c.toNat_lt
  unfold byteI
  simp
  try omega
theorem M46_eq (F : Nat) (a b : List UInt8) (ha : isHex a = true) (hb : isHex b = true) : M46 F a b = some (a == b) := by
  obtain ⟨f, e, hf⟩ := M73_eq F a
  obtain ⟨g, e2, hg⟩ := M73_eq F b
  unfold M46
  rw [e, Option.bind_some, e2, Option.bind_some, ha, hb]
  simp only [if_true, reduceIte]
  rw [hf ha, hg hb, if_pos ⟨byteI_map a, byteI_map b⟩, map_toNat_inj]
theorem M74_L1_eq (F : Nat) (a : List UInt8) (k : Option Bool) : ∀ (m j : Nat), j + m = a.length → M74_L1 F a k m (j : Int) = if (a.drop j).all hexC = true then k else some false
  | 0, j, h => by rw [M74_L1, List.drop_eq_nil_of_le (by omega)]; simp
  | m + 1, j, h => by
    have hj : j < a.length := by omega
    rw [M74_L1, jn_def, idx_nat hj]
    simp only [Option.bind_some]
    rw [show ((j : Int) + 1) = ((j + 1 : Nat) : Int) by rfl, M74_L1_eq F a k m (j + 1) (by omega), List.drop_eq_getElem_cons hj, List.all_cons]
    generalize (a.drop (j + 1)).all hexC = B
    unfold hexC
    generalize decide ((a[j].toNat : Int) ≥ 97) = b1
    generalize decide ((a[j].toNat : Int) ≤ 102) = b2
    generalize decide ((a[j].toNat : Int) ≥ 48) = b3
    generalize decide ((a[j].toNat : Int) ≤ 57) = b4
    cases B <;> cases b1 <;> cases b2 <;> cases b3 <;> cases b4 <;> rfl
theorem M48_eq (F : Nat) (a : List UInt8) (h : a.length ≤ maxLen) : M48 F a = some (isHex a) := by
  unfold M48 M74 maxLen at *
  rw [jn_def, if_pos (by omega), Int.toNat_natCast, show (0 : Int) = ((0 : Nat) : Int) by rfl, M74_L1_eq F a _ a.length 0 (by omega), List.drop_zero]
  unfold isHex
  cases a.all hexC
  · simp
  · simp
theorem dig_hex (n : Nat) : hexC (dig n) = true := by
  have : ∀ m, m < 16 → hexC (dig m) = true := by decide
  have e : dig n = dig (n % 16) := by unfold dig; rw [Nat.mod_mod]
  rw [e]; exact this _ (Nat.mod_lt _ (by omega))
theorem hex16_hex (n : Nat) : isHex (hex16 n) = true := by
  unfold isHex
  rw [hex16_len]
  simp only [Bool.and_eq_true, List.all_eq_true]
  refine ⟨by decide, ?_⟩
  intro x hx
  obtain ⟨i, _, rfl⟩ := List.mem_map.1 hx
  exact dig_hex _
theorem isHex_len {a : List UInt8} (h : isHex a = true) : a.length = 16 := by
  unfold isHex at h
  rw [Bool.and_eq_true, beq_iff_eq] at h
  omega
end Go.Proofs.YtiphmdpaajjdeaaGreatDoor
