/- Part of the proof: A8L. -/
import Derived.Test.YtihfhmibfhkoeaaDoorHA8K
namespace Go.Proofs.YtihfhmibfhkoeaaDoor
open Go Go.Pv
set_option linter.unusedVariables false
set_option linter.unusedSimpArgs false
set_option maxRecDepth 100000
def hexC (c : UInt8) : Bool := (decide ((c.toNat : Int) ≥ 48) && decide ((c.toNat : Int) ≤ 57)) || (decide ((c.toNat : Int) ≥ 97) && decide ((c.toNat : Int) ≤ 102))
def isHex (a : List UInt8) : Bool := ((a.length : Int) == 16) && a.all hexC
theorem M115_L1_eq (F : Nat) (a : List UInt8) (ha : a.length = 16) : ∀ (m j : Nat) (f : Nat → Int), j + m = a.length →
    ∃ f', M115_L1 F a (fun f4 => some (f4, true)) m (j : Int) f = some (f', (a.drop j).all hexC) ∧ ((a.drop j).all hexC = true → ∀ i (h : i < a.length), f' i = if i < j then f i else (a[i].toNat : Int))
  | 0, j, f, h => by
    refine ⟨f, ?_, ?_⟩
    · rw [M115_L1, List.drop_eq_nil_of_le (by omega)]; rfl
    · intro _ i hi; rw [if_pos (by omega)]
  | m + 1, j, f, h => by
    have hj : j < a.length := by omega
    obtain ⟨f', e, hf⟩ := M115_L1_eq F a ha m (j + 1) (upd f j (a[j].toNat : Int)) (by omega)
    rw [M115_L1, jn_def, idx_nat hj, Option.bind_some, show ((j : Int) + 1) = ((j + 1 : Nat) : Int) by rfl, List.drop_eq_getElem_cons hj, List.all_cons]
    have h16 : (0 ≤ (j : Int) ∧ j < 16) = True := eq_true (by omega)
    simp only [Int.toNat_natCast, h16, if_true, e]
    by_cases hc : hexC a[j] = true
    · refine ⟨f', ?_, ?_⟩
      · rw [hc, Bool.true_and]
        revert hc
        unfold hexC
        generalize (a.drop (j + 1)).all _ = B
        generalize decide ((a[j].toNat : Int) ≥ 97) = b1
        generalize decide ((a[j].toNat : Int) ≤ 102) = b2
        generalize decide ((a[j].toNat : Int) ≥ 48) = b3
        generalize decide ((a[j].toNat : Int) ≤ 57) = b4
        cases b1 <;> cases b2 <;> cases b3 <;> cases b4 <;> simp
      · rw [hc, Bool.true_and]
        intro h2 i hi
        rw [hf h2 i hi]
        unfold upd
        by_cases h3 : i < j
        · rw [if_pos (by omega), if_neg (by omega), if_pos h3]
        · rw [if_neg h3]
          by_cases h4 : i = j
          · subst h4; rw [if_pos (by omega), if_pos rfl]
          · rw [if_neg (by omega)]
    · refine ⟨f, ?_, ?_⟩
      · have hc2 : hexC a[j] = false := by simpa using hc
        rw [hc2, Bool.false_and]
        revert hc2
        unfold hexC
        generalize (a.drop (j + 1)).all _ = B
        generalize decide ((a[j].toNat : Int) ≥ 97) = b1
        generalize decide ((a[j].toNat : Int) ≤ 102) = b2
        generalize decide ((a[j].toNat : Int) ≥ 48) = b3
        generalize decide ((a[j].toNat : Int) ≤ 57) = b4
        cases b1 <;> cases b2 <;> cases b3 <;> cases b4 <;> simp
      · intro h2
        have : hexC a[j] = true := by
          rw [Bool.and_eq_true] at h2; exact h2.1
        exact absurd this hc
theorem M115_eq (F : Nat) (a : List UInt8) : ∃ f, M115 F a = some (f, isHex a) ∧ (isHex a = true → (List.range 16).map f = a.map fun c => (c.toNat : Int)) := by
  unfold M115 isHex
  by_cases h : a.length = 16
  · obtain ⟨f, e, hf⟩ := M115_L1_eq F a h a.length 0 (fun _ => 0) (by omega)
    refine ⟨f, ?_, ?_⟩
    · rw [if_neg (by simp; omega), jn_def, if_pos (by omega), Int.toNat_natCast]
      rw [show (0 : Int) = ((0 : Nat) : Int) by rfl, show (fun _ : Nat => ((0 : Nat) : Int)) = (fun _ => (0 : Int)) by rfl, e, List.drop_zero, h]
      rfl
    · intro h2
      rw [Bool.and_eq_true] at h2
      apply List.ext_getElem
      · simp [h]
      · intro i h3 h4
        simp only [List.getElem_map, List.getElem_range]
        rw [hf h2.2 i (by simpa using h4), if_neg (by omega)]
  · refine ⟨arrOf 0 [0, 0, 0, 0, 0, 0, 0, 0, 0, 0, 0, 0, 0, 0, 0, 0], ?_, ?_⟩
    · rw [if_pos (by simp; omega), show ((a.length : Int) == 16) = false by simp; omega, Bool.false_and]
    · intro h2
      rw [show ((a.length : Int) == 16) = false by simp; omega, Bool.false_and] at h2
      exact absurd h2 (by decide)
theorem M73_eq (F : Nat) (a : List UInt8) : M73 F a = some (isHex a) := by
  obtain ⟨f, e, _⟩ := M115_eq F a
  unfold M73; rw [e]; rfl
theorem map_toNat_inj (a b : List UInt8) : (a.map (fun c => (c.toNat : Int)) == b.map fun c => (c.toNat : Int)) = (a == b) := by
  rw [Bool.eq_iff_iff, beq_iff_eq, beq_iff_eq]
  constructor
  · intro h
    have := List.map_inj_right (f := fun c : UInt8 => (c.toNat : Int)) (l := a) (l' := b) (by intro x y hxy; exact UInt8.toNat_inj.1 (Int.ofNat.inj hxy))
    exact this.1 h
  · intro h; rw [h]
theorem byteI_map (a : List UInt8) : (a.map fun c => (c.toNat : Int)).all byteI = true := by
  rw [List.all_eq_true]
  intro x hx
  obtain ⟨c, _, rfl⟩ := List.mem_map.1 hx
  have := c.toNat_lt
  unfold byteI
  simp
  try omega
theorem M76_eq (F : Nat) (a b : List UInt8) (ha : isHex a = true) (hb : isHex b = true) : M76 F a b = some (a == b) := by
  obtain ⟨f, e, hf⟩ := M115_eq F a
  obtain ⟨g, e2, hg⟩ := M115_eq F b
  unfold M76
  rw [e, Option.bind_some, e2, Option.bind_some, ha, hb]
  simp only [if_true, reduceIte]
  rw [hf ha, hg hb, if_pos ⟨byteI_map a, byteI_map b⟩, map_toNat_inj]
theorem M118_L1_eq (F : Nat) (a : List UInt8) (k : Option Bool) : ∀ (m j : Nat), j + m = a.length → M118_L1 F a k m (j : Int) = if (a.drop j).all hexC = true then k else some false
  | 0, j, h => by rw [M118_L1, List.drop_eq_nil_of_le (by omega)]; simp
  | m + 1, j, h => by
    have hj : j < a.length := by omega
    rw [M118_L1, jn_def, idx_nat hj]
    simp only [Option.bind_some]
    rw [show ((j : Int) + 1) = ((j + 1 : Nat) : Int) by rfl, M118_L1_eq F a k m (j + 1) (by omega), List.drop_eq_getElem_cons hj, List.all_cons]
    generalize (a.drop (j + 1)).all hexC = B
    unfold hexC
    generalize decide ((a[j].toNat : Int) ≥ 97) = b1
    generalize decide ((a[j].toNat : Int) ≤ 102) = b2
    generalize decide ((a[j].toNat : Int) ≥ 48) = b3
    generalize decide ((a[j].toNat : Int) ≤ 57) = b4
    cases B <;> cases b1 <;> cases b2 <;> cases b3 <;> cases b4 <;> rfl
theorem M77_eq (F : Nat) (a : List UInt8) (h : a.length ≤ maxLen) : M77 F a = some (isHex a) := by
  unfold M77 M118 maxLen at *
  rw [jn_def, if_pos (by omega), Int.toNat_natCast, show (0 : Int) = ((0 : Nat) : Int) by rfl, M118_L1_eq F a _ a.length 0 (by omega), List.drop_zero]
  unfold isHex
  cases a.all hexC
  · simp
  · simp
theorem dig_hex (n : Nat) : hexC (dig n) = true := by
  have : ∀ m, m < 16 → hexC (dig m) = true := by decide
  have e : dig n = dig (n % 16) := by unfold dig; rw [Nat.mod_mod]
  rw [e]; exact this _ (Nat.mod_lt _ (by omega))
theorem hex16_hex (n : Nat) : isHex (hex16 n) = true := by
  unfold isHex
  rw [hex16_len]
  simp only [Bool.and_eq_true, List.all_eq_true]
  refine ⟨by decide, ?_⟩
  intro x hx
  obtain ⟨i, _, rfl⟩ := List.mem_map.1 hx
  exact dig_hex _
def pubOf (a : List UInt8) : List UInt8 := hex16 (fnv (([112, 117, 98, 108, 105, 99, 58] : List UInt8) ++ a)).toNat
def textOf (p t : List UInt8) : List UInt8 := hex16 (fnv ((p ++ ([10] : List UInt8)) ++ t)).toNat
def keyF (k : TKey) (t : List UInt8) (b : Bool) : Int :=
  if nameB k.Name = false then 8 else if isHex k.Public = false then 2 else if b = true ∧ (k.Public == pubOf k.Secret) = false then 2 else if (decide ((t.length : Int) > 1000000)) = true then 3 else 0
theorem M62_eq (F : Nat) (a : List UInt8) (h : 7 + a.length ≤ maxLen) (hF : 17 ≤ F) : M62 F a = some (pubOf a) := by
  unfold M62
  rw [if_pos (by unfold maxLen at h; simpa using h), M114_eq F _ (by rw [List.length_append]; exact h) hF]; rfl
theorem M65_eq (F : Nat) (k : TKey) (t : List UInt8) (b : Bool) (hF : 17 ≤ F) (h1 : k.Name.length ≤ maxLen) (h2 : b = true → 7 + k.Secret.length ≤ maxLen) : M65 F k t b = some (keyF k t b) := by
  unfold M65 keyF
  rw [M61_eq F _ h1, Option.bind_some, jn_def, M73_eq, Option.bind_some]
  cases nameB k.Name
  · rfl
  · cases hh : isHex k.Public
    · rfl
    · cases b
      · simp only [Bool.not_true, Bool.false_eq_true, if_false, false_and, reduceCtorEq]
        split <;> rfl
      · simp only [Bool.not_true, Bool.false_eq_true, if_false, if_true]
        rw [M62_eq F _ (h2 rfl) hF, Option.bind_some, M76_eq F _ (pubOf k.Secret) hh (hex16_hex _), Option.bind_some]
        cases (k.Public == pubOf k.Secret)
        · rfl
        · simp only [Bool.not_true, Bool.false_eq_true, if_false, and_false, reduceCtorEq, if_true]
          split <;> rfl
theorem isHex_len {a : List UInt8} (h : isHex a = true) : a.length = 16 := by
  unfold isHex at h
  rw [Bool.and_eq_true, beq_iff_eq] at h
  omega
theorem keyF_0 {k : TKey} {t : List UInt8} {b : Bool} (h : keyF k t b = 0) : nameB k.Name = true ∧ isHex k.Public = true ∧ t.length ≤ 1000000 ∧ (b = true → k.Public = pubOf k.Secret) := by
  unfold keyF at h
  split at h
  · exact absurd h (by decide)
  · split at h
    · exact absurd h (by decide)
    · split at h
      · exact absurd h (by decide)
      · split at h
        · exact absurd h (by decide)
        · rename_i a1 a2 a3 a4
          refine ⟨by simpa using a1, by simpa using a2, ?_, ?_⟩
          · rw [decide_eq_true_eq] at a4; omega
          · intro hb
            subst hb
            simpa using a3
theorem M66_eq (F : Nat) (k : TKey) (t : List UInt8) (hF : 17 ≤ F) (h1 : k.Public.length = 16) (h2 : t.length ≤ 1000000) : M66 F k t = some ⟨k.Name, textOf k.Public t⟩ := by
  unfold M66
  rw [if_pos (by simp; omega), if_pos (by simp; omega), M114_eq F _ (by unfold maxLen; simp; omega) hF]; rfl
def signF (k : TKey) (t : List UInt8) : TSignature × Int := if keyF k t true = 0 then (⟨k.Name, textOf k.Public t⟩, 0) else (⟨[], []⟩, keyF k t true)
def signedF (k : TKey) (t : List UInt8) (s : TSignature) : Bool × Int := if keyF k t false = 0 then (decide (TSignature.mk k.Name (textOf k.Public t) = s), 0) else (false, keyF k t false)
theorem M14_eq (F : Nat) (k : TKey) (t : List UInt8) (hF : 17 ≤ F) (h1 : k.Name.length ≤ maxLen) (h2 : 7 + k.Secret.length ≤ maxLen) : M14 F k t = some (signF k t) := by
  unfold M14 signF
  rw [M65_eq F k t true hF h1 (fun _ => h2), Option.bind_some]
  by_cases h : keyF k t true = 0
  · rw [if_neg (by rw [h]; decide), if_pos h, M66_eq F k t hF (isHex_len (keyF_0 h).2.1) (keyF_0 h).2.2.1]; rfl
  · rw [if_pos (by simpa using h), if_neg h]
theorem M16_eq (F : Nat) (k : TKey) (t : List UInt8) (s : TSignature) (hF : 17 ≤ F) (h1 : k.Name.length ≤ maxLen) : M16 F k t s = some (signedF k t s) := by
  unfold M16 signedF
  rw [M65_eq F k t false hF h1 (fun h => absurd h (by decide)), Option.bind_some]
  by_cases h : keyF k t false = 0
  · rw [if_neg (by rw [h]; decide), if_pos h, M66_eq F k t hF (isHex_len (keyF_0 h).2.1) (keyF_0 h).2.2.1]; rfl
  · rw [if_pos (by simpa using h), if_neg h]
def newF (n s : List UInt8) : TKey × Int :=
  if nameB n = false then (⟨[], [], []⟩, 8) else if (s == ([] : List UInt8)) = true then (⟨[], [], []⟩, 13) else if (decide ((s.length : Int) > 60)) = true then (⟨[], [], []⟩, 3) else (⟨n, s, pubOf s⟩, 0)
theorem M12_eq (F : Nat) (n s : List UInt8) (hF : 17 ≤ F) (h1 : n.length ≤ maxLen) : M12 F n s = some (newF n s) := by
  unfold M12 newF
  rw [M61_eq F _ h1, Option.bind_some]
  cases nameB n
  · rfl
  · simp only [Bool.not_true, Bool.false_eq_true, if_false, reduceCtorEq]
    split
    · rfl
    · split
      · rfl
      · rename_i h; rw [decide_eq_true_eq] at h
        rw [M62_eq F _ (by unfold maxLen; omega) hF]; rfl
theorem M18_eq (F : Nat) (hF : 17 ≤ F) : M18 F = some true := by
  unfold M18
  have e1 : newF [97, 110, 110] [115] = (⟨[97, 110, 110], [115], pubOf [115]⟩, 0) := by rfl
  rw [M12_eq F _ _ hF (by decide), Option.bind_some, e1]
  have k1 : ∀ b, keyF ⟨[97, 110, 110], [115], pubOf [115]⟩ [116] b = 0 := by
    intro b
    unfold keyF
    rw [show nameB [97, 110, 110] = true by decide, show isHex (pubOf [115]) = true from hex16_hex _]
    cases b <;> simp
  rw [M14_eq F _ _ hF (by decide) (by decide), Option.bind_some]
  unfold signF
  rw [if_pos (k1 true), M16_eq F _ _ _ hF (by decide), Option.bind_some]
  unfold signedF
  rw [if_pos (k1 false)]
  have : (pubOf [115] == ([] : List UInt8)) = false := by
    have := hex16_len (fnv (([112, 117, 98, 108, 105, 99, 58] : List UInt8) ++ [115])).toNat
    rw [beq_eq_false_iff_ne]
    intro h
    have h2 : (pubOf [115]).length = 16 := this
    rw [h] at h2; exact absurd h2 (by decide)
  simp [this]
end Go.Proofs.YtihfhmibfhkoeaaDoor
