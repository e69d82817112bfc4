/- Part of the proof: ATK. -/
import Derived.Test.YtiphmdpaajjdeaaGreatDoorGATM
import Derived.Test.YtiphmdpaajjdeaaGreatDoorGPvQ
namespace Go.Proofs.YtiphmdpaajjdeaaGreatDoor
open Go Go.Pv
set_option linter.unusedVariables false
set_option linter.unusedSimpArgs false
set_option maxRecDepth 100000
def fnS (h : Int) (c : UInt8) : Int := IntKind.wrap .u64 ((IntKind.wrap .u64 ((BitVec.ofInt (IntKind.bits .u64) h ^^^ BitVec.ofInt (IntKind.bits .u64) (IntKind.wrap .u64 (c.toNat : Int))).toNat : Int)) * 1099511628211)
def fnv (a : List UInt8) : Int := a.foldl fnS 14695981039346656037
theorem wrap_range (n : Int) : 0 ≤ IntKind.wrap .u64 n ∧ IntKind.wrap .u64 n < 18446744073709551616 := by
  simp only [IntKind.wrap, IntKind.signed, IntKind.bits, Bool.false_and]
  simp
  omega
theorem fnv_range (a : List UInt8) : 0 ≤ fnv a ∧ fnv a < 18446744073709551616 := by
  have : ∀ (l : List UInt8) (h : Int), (0 ≤ h ∧ h < 18446744073709551616) → 0 ≤ l.foldl fnS h ∧ l.foldl fnS h < 18446744073709551616 := by
    intro l
    induction l with
    | nil => intro h hh; exact hh
    | cons c l ih => intro h _; exact ih _ (wrap_range _)
  exact this a _ (by omega)
theorem M90_L1_eq (F : Nat) (a : List UInt8) (k : Int → Option (List UInt8)) : ∀ (m j : Nat) (h : Int), j + m = a.length → M90_L1 F a k m (j : Int) h = k ((a.drop j).foldl fnS h)
  | 0, j, h, hj => by rw [M90_L1, List.drop_eq_nil_of_le (by omega)]; rfl
  | m + 1, j, h, hh => by
    have hj : j < a.length := by omega
    rw [M90_L1, idx_nat hj, Option.bind_some, show ((j : Int) + 1) = ((j + 1 : Nat) : Int) by rfl, M90_L1_eq F a k m (j + 1) _ (by omega), List.drop_eq_getElem_cons hj, List.foldl_cons]
    rfl
theorem M68_L1_eq (F : Nat) (a : List UInt8) (k : Int → Option (List UInt8)) : ∀ (m j : Nat) (h : Int), j + m = a.length → M68_L1 F a k m (j : Int) h = k ((a.drop j).foldl fnS h)
  | 0, j, h, hj => by rw [M68_L1, List.drop_eq_nil_of_le (by omega)]; rfl
  | m + 1, j, h, hh => by
    have hj : j < a.length := by omega
    rw [M68_L1, idx_nat hj, Option.bind_some, show ((j : Int) + 1) = ((j + 1 : Nat) : Int) by rfl, M68_L1_eq F a k m (j + 1) _ (by omega), List.drop_eq_getElem_cons hj, List.foldl_cons]
    rfl
def dgs : List UInt8 := [48, 49, 50, 51, 52, 53, 54, 55, 56, 57, 97, 98, 99, 100, 101, 102]
def dig (n : Nat) : UInt8 := dgs.getD (n % 16) 0
def nib (n j : Nat) : Nat := n / 16 ^ j % 16
def hex16 (n : Nat) : List UInt8 := (List.range 16).map fun i => dig (nib n (15 - i))
theorem hex16_len (n : Nat) : (hex16 n).length = 16 := by simp [hex16]
theorem and15 (m : Nat) : IntKind.wrap .u64 ((BitVec.ofInt (IntKind.bits .u64) (m : Int) &&& BitVec.ofInt (IntKind.bits .u64) 15).toNat : Int) = ((m % 16 : Nat) : Int) := by
  have e : (BitVec.ofInt 64 (m : Int) &&& BitVec.ofInt 64 15).toNat = m % 16 := by
    rw [BitVec.toNat_and]
    have e1 : (BitVec.ofInt 64 (m : Int)).toNat = m % 2 ^ 64 := by simp
    have e2 : (BitVec.ofInt 64 15).toNat = 2 ^ 4 - 1 := by decide
    rw [e1, e2, Nat.and_two_pow_sub_one_eq_mod]
    omega
  show IntKind.wrap .u64 ((BitVec.ofInt 64 (m : Int) &&& BitVec.ofInt 64 15).toNat : Int) = _
  rw [e]
  simp only [IntKind.wrap, IntKind.signed, IntKind.bits, Bool.false_and]
  simp
  omega
theorem dgs_get {n : Nat} (h : n < 16) : dgs[n]? = some (dig n) := by
  unfold dig
  rw [Nat.mod_eq_of_lt h, List.getD_eq_getElem?_getD]
  have : n < dgs.length := by simpa [dgs] using h
  rw [List.getElem?_eq_getElem this]; rfl
theorem idx16 {n : Nat} (h : n < 16) : idx ([48, 49, 50, 51, 52, 53, 54, 55, 56, 57, 97, 98, 99, 100, 101, 102] : List UInt8) (n : Int) = some (dig n) := by
  unfold idx; rw [if_pos (by omega)]; exact dgs_get h
theorem idx36 {n : Nat} (h : n < 16) : idx ([48, 49, 50, 51, 52, 53, 54, 55, 56, 57, 97, 98, 99, 100, 101, 102, 103, 104, 105, 106, 107, 108, 109, 110, 111, 112, 113, 114, 115, 116, 117, 118, 119, 120, 121, 122] : List UInt8) (n : Int) = some (dig n) := by
  unfold idx
  rw [if_pos (by omega)]
  have : ([48, 49, 50, 51, 52, 53, 54, 55, 56, 57, 97, 98, 99, 100, 101, 102, 103, 104, 105, 106, 107, 108, 109, 110, 111, 112, 113, 114, 115, 116, 117, 118, 119, 120, 121, 122] : List UInt8) = dgs ++ [103, 104, 105, 106, 107, 108, 109, 110, 111, 112, 113, 114, 115, 116, 117, 118, 119, 120, 121, 122] := rfl
  rw [this, Int.toNat_natCast, List.getElem?_append_left (by simpa [dgs] using h)]
  exact dgs_get h
theorem shr_nat (n s : Nat) (hs : s ≤ 64) : Int.fdiv (n : Int) (2 ^ (min (Int.toNat (s : Int)) (IntKind.bits .u64))) = ((n / 2 ^ s : Nat) : Int) := by
  have e : min (Int.toNat (s : Int)) (IntKind.bits .u64) = s := by
    rw [Int.toNat_natCast]; show min s 64 = s; omega
  rw [e]
  have e2 : (2 : Int) ^ s = ((2 ^ s : Nat) : Int) := by simp
  rw [e2, Int.fdiv_eq_ediv_of_nonneg _ (Int.natCast_nonneg _)]
  rfl
theorem M90_L2_eq (F : Nat) (n : Nat) (k : List Int → Option (List UInt8)) : ∀ (j fuel : Nat) (l : List Int), j ≤ 16 → j < fuel → l.length + j = 16 →
    M90_L2 F (n : Int) k fuel (((4 * j : Nat) : Int) - 4) l = k (l ++ (List.range j).map fun i => ((dig (nib n (j - 1 - i))).toNat : Int))
  | 0, fuel + 1, l, _, _, hl => by
    rw [M90_L2, if_neg (by simp)]
    simp
  | j + 1, fuel + 1, l, hj, hf, hl => by
    rw [M90_L2, if_pos (by simp; omega), if_pos (by omega)]
    have e : (((4 * (j + 1) : Nat) : Int) - 4) = ((4 * j : Nat) : Int) := by omega
    rw [e, shr_nat n (4 * j) (by omega), and15, show n / 2 ^ (4 * j) % 16 = nib n j by unfold nib; rw [Nat.pow_mul], idx16 (by unfold nib; omega), Option.bind_some, if_pos (by simp; omega), w64_id (by omega) (by omega)]
    rw [M90_L2_eq F n k j fuel _ (by omega) (by omega) (by simp; omega)]
    congr 1
    rw [List.append_assoc]
    congr 1
    rw [List.range_succ_eq_map, List.map_cons, List.map_map]
    have e0 : dig (nib n (j + 1 - 1 - 0)) = dig (nib n j) := rfl
    rw [e0]
    simp only [List.singleton_append, List.cons.injEq, true_and]
    apply List.map_congr_left
    intro i _
    simp only [Function.comp]
    rw [show j + 1 - 1 - (i + 1) = j - 1 - i by omega]
theorem M90_eq (F : Nat) (a : List UInt8) (h : a.length ≤ maxLen) (hF : 17 ≤ F) : M90 F a = some (hex16 (fnv a).toNat) := by
  unfold M90 maxLen at *
  rw [jn_def, if_pos (by omega), show (((a.length : Int)).toNat) = a.length by simp, show M90_L1 F a _ a.length 0 14695981039346656037 = M90_L1 F a _ a.length ((0 : Nat) : Int) 14695981039346656037 by rfl, M90_L1_eq F a _ a.length 0 _ (by omega), List.drop_zero]
  show jn _ _ = _
  rw [jn_def]
  obtain ⟨n, hn⟩ := Int.eq_ofNat_of_zero_le (fnv_range a).1
  have hn' : List.foldl fnS 14695981039346656037 a = (n : Int) := hn
  rw [hn', hn]
  have := M90_L2_eq F n (fun l13 => some (l13.map fun n => UInt8.ofNat n.toNat)) 16 F [] (by omega) (by omega) (by simp)
  rw [show (60 : Int) = ((4 * 16 : Nat) : Int) - 4 by rfl, this]
  simp only [Int.toNat_natCast, List.nil_append, hex16, List.map_map, Option.some.injEq]
  apply List.map_congr_left
  intro i _
  simp
theorem M133_16 (F : Nat) : M133 F 16 = some true := by unfold M133; decide
theorem M134_16 (F : Nat) : M134 F (IntKind.wrap .u64 16) = some 4 := by unfold M134 M149; decide
theorem M116_L1_eq (F n : Nat) (k : Int → Int → (Nat → Int) → Option (List Int × List UInt8)) : ∀ (fuel t : Nat) (f : Nat → Int), t ≤ 15 → n / 16 ^ t < 16 ^ fuel → n / 16 ^ t < 16 ^ (16 - t) →
    (∀ j, 65 - t ≤ j → j < 65 → f j = ((dig (nib n (64 - j))).toNat : Int)) →
    ∃ T f', T ≤ 15 ∧ n / 16 ^ T < 16 ∧ (∀ j, 65 - T ≤ j → j < 65 → f' j = ((dig (nib n (64 - j))).toNat : Int)) ∧
      M116_L1 F 16 4 k (fuel + 1) ((n / 16 ^ t : Nat) : Int) ((65 - t : Nat) : Int) f = k ((n / 16 ^ T : Nat) : Int) ((65 - T : Nat) : Int) f'
  | 0, t, f, ht, hf, hn, h => by
    refine ⟨t, f, ht, by omega, h, ?_⟩
    rw [M116_L1, show IntKind.wrap .u64 16 = 16 by decide, if_neg (by rw [decide_eq_true_eq]; omega)]
  | fuel + 1, t, f, ht, hf, hn, h => by
    by_cases hc : n / 16 ^ t < 16
    · refine ⟨t, f, ht, hc, h, ?_⟩
      rw [M116_L1, show IntKind.wrap .u64 16 = 16 by decide, if_neg (by rw [decide_eq_true_eq]; omega)]
    · have t14 : t ≤ 14 := by
        rcases Nat.lt_or_ge t 15 with h1 | h1
        · omega
        · have : t = 15 := by omega
          subst this
          omega
      have e1 : n / 16 ^ t / 16 = n / 16 ^ (t + 1) := by rw [Nat.div_div_eq_div_mul, Nat.pow_succ]
      have q1 : n / 16 ^ (t + 1) < 16 ^ fuel := by
        rw [← e1]; rw [Nat.pow_succ] at hf; omega
      have q2 : n / 16 ^ (t + 1) < 16 ^ (16 - (t + 1)) := by
        rw [← e1]
        have : 16 ^ (16 - t) = 16 ^ (16 - (t + 1)) * 16 := by rw [← Nat.pow_succ]; congr 1; omega
        omega
      obtain ⟨T, f', hT, hT2, hf', he⟩ := M116_L1_eq F n k fuel (t + 1) (upd f (65 - (t + 1)) ((dig (nib n t)).toNat : Int)) (by omega) q1 q2 (by
        intro j hj1 hj2
        unfold upd
        by_cases hj : j = 65 - (t + 1)
        · rw [if_pos hj, show 64 - j = t by omega]
        · rw [if_neg hj]; exact h j (by omega) hj2)
      refine ⟨T, f', hT, hT2, hf', ?_⟩
      rw [M116_L1, show IntKind.wrap .u64 16 = 16 by decide, if_pos (by rw [decide_eq_true_eq]; omega), show IntKind.wrap .u64 (16 - 1) = 15 by decide, show IntKind.wrap .u64 4 = ((4 : Nat) : Int) by decide, and15, idx36 (by omega), Option.bind_some]
      have e2 : w64 (((65 - t : Nat) : Int) - 1) = ((65 - (t + 1) : Nat) : Int) := by
        rw [w64_id (by omega) (by omega)]; omega
      rw [e2, if_pos (by omega), if_pos (by omega), shr_nat _ 4 (by omega), Int.toNat_natCast]
      have e3 : n / 16 ^ t / 2 ^ 4 = n / 16 ^ (t + 1) := e1
      rw [e3]
      exact he
theorem dig_toNat (n : Nat) : UInt8.ofNat (((dig n).toNat : Int)).toNat = dig n := by simp
theorem M88_eq (F n : Nat) (hn : n < 18446744073709551616) (hF : 17 ≤ F) : ∃ T, T ≤ 15 ∧ n / 16 ^ T < 16 ∧ M88 F (n : Int) 16 = some ((List.range (T + 1)).map fun i => dig (nib n (T - i))) := by
  obtain ⟨G, rfl⟩ : ∃ G, F = G + 1 := ⟨F - 1, by omega⟩
  have hp : (16 : Nat) ^ 16 = 18446744073709551616 := by decide
  have hG : n / 16 ^ 0 < 16 ^ G := by
    have : (16 : Nat) ^ 16 ≤ 16 ^ G := Nat.pow_le_pow_right (by omega) (by omega)
    simp; omega
  let k : Int → Int → (Nat → Int) → Option (List Int × List UInt8) := fun n21 n22 f23 => (idx ([48, 49, 50, 51, 52, 53, 54, 55, 56, 57, 97, 98, 99, 100, 101, 102, 103, 104, 105, 106, 107, 108, 109, 110, 111, 112, 113, 114, 115, 116, 117, 118, 119, 120, 121, 122] : List UInt8) n21).bind fun c35 => if 0 ≤ (w64 (n22 - 1)) ∧ (w64 (n22 - 1)).toNat < 65 then (if 0 ≤ (w64 (n22 - 1)) ∧ (w64 (n22 - 1)).toNat ≤ 65 then some (([] : List Int), ((((List.range 65).map (upd f23 (w64 (n22 - 1)).toNat (c35.toNat : Int))).drop (w64 (n22 - 1)).toNat).map fun n => UInt8.ofNat n.toNat)) else none) else none
  obtain ⟨T, f', hT, hT2, hf', he⟩ := M116_L1_eq (G + 1) n k G 0 (fun _ => 0) (by omega) hG (by simp; omega) (by intro j h1 h2; omega)
  refine ⟨T, hT, hT2, ?_⟩
  have e0 : M88 (G + 1) (n : Int) 16 = (M116_L1 (G + 1) 16 4 k (G + 1) ((n / 16 ^ 0 : Nat) : Int) ((65 - 0 : Nat) : Int) (fun _ => 0)).bind fun y => some y.2 := by
    unfold M88 M100 M116
    rw [M133_16, M134_16]
    have q : ∀ o : Option (List UInt8), (o.bind fun y5 => some y5) = o := by intro o; cases o <;> rfl
    rw [q, if_neg (by decide), if_neg (by decide), if_neg (by decide), if_neg (by decide), Nat.pow_zero, Nat.div_one]
    rfl
  rw [e0, he]
  have e2 : w64 (((65 - T : Nat) : Int) - 1) = ((64 - T : Nat) : Int) := by
    rw [w64_id (by omega) (by omega)]; omega
  simp only [k]
  rw [idx36 hT2, Option.bind_some, e2, if_pos (by omega), if_pos (by omega), Option.bind_some, Int.toNat_natCast]
  simp only [Option.some.injEq]
  apply List.ext_getElem
  · simp; omega
  · intro i h1 h2
    simp only [List.getElem_map, List.getElem_drop, List.getElem_range]
    have hi : i < T + 1 := by simpa using h2
    unfold upd
    by_cases h0 : i = 0
    · subst h0
      rw [if_pos (by omega), dig_toNat]
      unfold nib; rw [Nat.sub_zero]
      rw [Nat.mod_eq_of_lt hT2]
    · rw [if_neg (by omega), hf' _ (by omega) (by omega), dig_toNat]
      congr 2; omega
theorem hex16_pad (n T : Nat) (hT : T ≤ 15) (h : n / 16 ^ T < 16) : Lib.repeatL [48] (15 - T) ++ ((List.range (T + 1)).map fun i => dig (nib n (T - i))) = hex16 n := by
  have e : Lib.repeatL [48] (15 - T) = List.replicate (15 - T) 48 := by
    have := Lib.repeatL_replicate 48 1 (15 - T)
    simpa using this
  rw [e]
  unfold hex16
  apply List.ext_getElem
  · simp; omega
  · intro i h1 h2
    rw [List.getElem_append]
    simp only [List.length_replicate]
    have hi : i < 16 := by simpa using h2
    split
    · rename_i hlt
      simp only [List.getElem_replicate, List.getElem_map, List.getElem_range]
      have : n / 16 ^ (15 - i) = 0 := by
        apply Nat.div_eq_of_lt
        have a1 : n < 16 ^ T * 16 := by
          have := Nat.div_lt_iff_lt_mul (k := 16 ^ T) (x := n) (y := 16) (Nat.pow_pos (by omega))
          rw [Nat.mul_comm]; exact this.1 h
        have a2 : (16 : Nat) ^ (T + 1) ≤ 16 ^ (15 - i) := Nat.pow_le_pow_right (by omega) (by omega)
        rw [Nat.pow_succ] at a2
        omega
      unfold nib; rw [this]; rfl
    · simp only [List.getElem_map, List.getElem_range]
      congr 2; omega
theorem M68_eq (F : Nat) (a : List UInt8) (h : a.length ≤ maxLen) (hF : 17 ≤ F) : M68 F a = some (hex16 (fnv a).toNat) := by
  unfold M68 maxLen at *
  rw [jn_def, if_pos (by omega), show (((a.length : Int)).toNat) = a.length by simp, show M68_L1 F a _ a.length 0 14695981039346656037 = M68_L1 F a _ a.length ((0 : Nat) : Int) 14695981039346656037 by rfl, M68_L1_eq F a _ a.length 0 _ (by omega), List.drop_zero]
  obtain ⟨n, hn⟩ := Int.eq_ofNat_of_zero_le (fnv_range a).1
  have hlt := (fnv_range a).2
  have hn' : List.foldl fnS 14695981039346656037 a = (n : Int) := hn
  rw [hn', hn]
  rw [hn] at hlt
  obtain ⟨T, hT, hT2, e⟩ := M88_eq F n (by omega) hF
  rw [e, Option.bind_some]
  have e2 : w64 (16 - (((List.range (T + 1)).map fun i => dig (nib n (T - i))).length : Int)) = ((15 - T : Nat) : Int) := by
    rw [List.length_map, List.length_range, w64_id (by omega) (by omega)]; omega
  rw [e2]
  unfold M89
  rw [if_pos (by simp; omega), Option.bind_some, Int.toNat_natCast, hex16_pad n T hT hT2, if_pos ?_]
  · rfl
  · rw [← List.length_append, hex16_pad n T hT hT2, hex16_len]; decide
end Go.Proofs.YtiphmdpaajjdeaaGreatDoor
