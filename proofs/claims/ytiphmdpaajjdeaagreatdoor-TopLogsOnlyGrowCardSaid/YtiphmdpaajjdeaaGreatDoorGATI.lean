/- Part of the proof: ATI. -/
import Derived.Test.YtiphmdpaajjdeaaGreatDoorGATL
namespace Go.Proofs.YtiphmdpaajjdeaaGreatDoor
open Go Go.Pv
set_option linter.unusedVariables false
set_option linter.unusedSimpArgs false
set_option maxRecDepth 100000
def sumsF (l : List (List UInt8)) : Int := if l.all isHex = true then 0 else 2
theorem M44_L1_eq (F : Nat) (k : Option Int) : ∀ l : List (List UInt8), M44_L1 F k l = if l.all isHex = true then k else some 2
  | [] => rfl
  | x :: l => by
    rw [M44_L1, M43_eq, Option.bind_some, M44_L1_eq F k l, List.all_cons]
    cases isHex x <;> rfl
theorem M44_eq (F : Nat) (l : List (List UInt8)) (m : Int) : M44 F l m = some (if (l.length : Int) > m then 3 else sumsF l) := by
  unfold M44 sumsF
  rw [jn_def, M44_L1_eq]
  by_cases h : (l.length : Int) > m
  · rw [if_pos (by simpa using h), if_pos h]
  · rw [if_neg (by simpa using h), if_neg h]
    split <;> rfl
theorem M49_L1_eq (F : Nat) (k : Option Int) : ∀ l : List (List UInt8), (∀ x, x ∈ l → x.length ≤ maxLen) → M49_L1 F k l = if l.all isHex = true then k else some 2
  | [], _ => rfl
  | x :: l, h => by
    rw [M49_L1, M48_eq F x (h x (by simp)), Option.bind_some, M49_L1_eq F k l (fun y hy => h y (by simp [hy])), List.all_cons]
    cases isHex x <;> rfl
def pfF (n : Int) (b : Bool) (l : List (List UInt8)) : Int := if n < 1 ∨ n > 1073741824 ∨ b = false then 9 else if (l.length : Int) > 64 then 3 else sumsF l
theorem pfF_9 {n : Int} {b : Bool} {l : List (List UInt8)} (h : n < 1 ∨ n > 1073741824 ∨ b = false) : pfF n b l = 9 := if_pos h
theorem pfF_ok {n : Int} {b : Bool} {l : List (List UInt8)} (h : ¬(n < 1 ∨ n > 1073741824 ∨ b = false)) : pfF n b l = if (l.length : Int) > 64 then 3 else sumsF l := if_neg h
theorem M49_eq (F : Nat) (n : Int) (b : Bool) (l : List (List UInt8)) (h : ∀ x, x ∈ l → x.length ≤ maxLen) :
    M49 F n b l = some (pfF n b l) := by
  unfold M49 pfF sumsF
  rw [jn_def, M49_L1_eq F _ l h]
  by_cases h1 : n < 1
  · rw [if_pos (by simpa using h1), if_pos (.inl h1)]
  · rw [if_neg (by simpa using h1)]
    by_cases h2 : n > 1073741824
    · rw [if_pos (by simpa using h2), if_pos (.inr (.inl h2))]
    · rw [if_neg (by simpa using h2)]
      cases b
      · rw [if_pos (by decide), if_pos (.inr (.inr rfl))]
      · rw [if_neg (by decide), if_neg (show ¬(n < 1 ∨ n > 1073741824 ∨ true = false) by simp; omega)]
        by_cases h : (l.length : Int) > 64
        · rw [if_pos (by simpa using h), if_pos h]
        · rw [if_neg (by simpa using h), if_neg h]
          split <;> rfl
theorem M75_L1_is (F : Nat) (a : Int) (k : Int → Option Int) : ∀ (m : Nat) (j : Int), M75_L1 F a k m j = M69_L1 F a k m j
  | 0, j => rfl
  | m + 1, j => by rw [M75_L1, M69_L1, M75_L1_is F a k m]
theorem M75_is (F : Nat) (a : Int) : M75 F a = M69 F a := by unfold M75 M69; rw [jn_def, jn_def, M75_L1_is]
theorem M69_L1_eq (F : Nat) (a : Int) (h2 : 2 ≤ a) (h3 : a ≤ 1073741824) : ∀ (m : Nat) (j : Int), 1 ≤ j → j < a → a ≤ j * 2 ^ m → ∃ h, M69_L1 F a (fun n3 => some n3) (m + 1) j = some h ∧ 1 ≤ h ∧ h < a
  | 0, j, h1, hj, hm => by omega
  | m + 1, j, h1, hj, hm => by
    have e1 : w64 (2 * j) = 2 * j := w64_id (by omega) (by omega)
    have e2 : w64 (j * 2) = j * 2 := w64_id (by omega) (by omega)
    by_cases hc : 2 * j < a
    · obtain ⟨h, e, hh⟩ := M69_L1_eq F a h2 h3 m (j * 2) (by omega) (by omega) (by rw [Int.pow_succ] at hm; rw [Int.mul_assoc, Int.mul_comm 2]; exact hm)
      exact ⟨h, by rw [M69_L1, e1, e2, if_pos (by simpa using hc)]; exact e, hh⟩
    · exact ⟨j, by rw [M69_L1, e1, if_neg (by simpa using hc)], h1, hj⟩
theorem M69_eq (F : Nat) (hF : 31 ≤ F) (a : Int) (h2 : 2 ≤ a) (h3 : a ≤ 1073741824) : ∃ h, M69 F a = some h ∧ 1 ≤ h ∧ h < a := by
  obtain ⟨G, rfl⟩ : ∃ G, F = G + 1 := ⟨F - 1, by omega⟩
  unfold M69
  rw [jn_def]
  refine M69_L1_eq (G + 1) a h2 h3 G 1 (by omega) (by omega) ?_
  have : (2 : Int) ^ 30 ≤ 2 ^ G := by
    have := Nat.pow_le_pow_right (n := 2) (by omega) (show 30 ≤ G by omega)
    exact_mod_cast this
  have e : (2 : Int) ^ 30 = 1073741824 := by decide
  omega
def joinT (a b : List UInt8) : List UInt8 := hex16 (fnv ((([1] : List UInt8) ++ a) ++ b)).toNat
theorem joinT_hex (a b : List UInt8) : isHex (joinT a b) = true := hex16_hex _
theorem joinT_len (a b : List UInt8) : (joinT a b).length = 16 := hex16_len _
theorem M70_eq (F : Nat) (hF : 17 ≤ F) (a b : List UInt8) (h1 : a.length ≤ 16) (h2 : b.length ≤ 16) : M70 F a b = some (joinT a b) := by
  unfold M70
  rw [if_pos (by simp; omega), if_pos (by simp; omega), M68_eq F _ (by unfold maxLen; simp; omega) hF]; rfl
theorem M76_eq (F : Nat) (hF : 17 ≤ F) (a b : List UInt8) (h1 : a.length ≤ 16) (h2 : b.length ≤ 16) : M76 F a b = some (joinT a b) := by
  unfold M76
  rw [if_pos (by simp; omega), if_pos (by simp; omega), M90_eq F _ (by unfold maxLen; simp; omega) hF]; rfl
theorem last_of {l : List (List UInt8)} {n : Nat} (h : l.length = n + 1) (hn : n ≤ 64) : w64 (((l.length : Nat) : Int) - 1) = (n : Int) := by
  rw [w64_id (by omega) (by omega)]; omega
theorem included_eq (l : List UInt8) (hl : isHex l = true) : ∀ (n F : Nat) (i s : Int) (p : List (List UInt8)), p.length = n → n ≤ 64 → n + 33 ≤ F → 0 ≤ i → i < s → s ≤ 1073741824 → p.all isHex = true →
    ∃ x x' ok, M45 F l i s p = some (x, ok) ∧ M51 F l i s p = some (x', ok) ∧ isHex x = true ∧ x'.length ≤ 16 ∧ (ok = true → x' = x)
  | n, 0, _, _, _, _, _, hF, _, _, _, _ => by omega
  | 0, F + 1, i, s, p, hp, hn, hF, h0, h1, h2, hh => by
    have hp' : p = [] := List.length_eq_zero_iff.1 hp
    subst hp'
    rw [M45, M51, M45_B, M51_B]
    by_cases hs : s = 1
    · subst hs
      refine ⟨l, l, true, ?_, ?_, hl, by rw [isHex_len hl]; omega, fun _ => rfl⟩
      · rfl
      · rfl
    · refine ⟨l, [], false, ?_, ?_, hl, by simp, by simp⟩
      · rw [if_neg (by simpa using hs)]; rfl
      · rw [if_neg (by simpa using hs)]; rfl
  | n + 1, F + 1, i, s, p, hp, hn, hF, h0, h1, h2, hh => by
    have hw := last_of hp (by omega)
    have hne : (((p.length : Nat) : Int) == 0) = false := beq_eq_false_iff_ne.2 (by omega)
    rw [M45, M51]
    by_cases hs : s = 1
    · subst hs
      rw [M45_B, M51_B]
      refine ⟨l, l, false, ?_, ?_, hl, by rw [isHex_len hl]; omega, by simp⟩
      · rw [if_pos (by decide), hw, show decide ((n : Int) < 0) = false by simp]
      · rw [if_pos (by decide), hne]
    · obtain ⟨h, eh, hh1, hh2⟩ := M69_eq F (by omega) s (by omega) h2
      have hk : n < p.length := by omega
      have hx : isHex p[n] = true := List.all_eq_true.1 hh _ (List.getElem_mem hk)
      have ht : (p.take n).all isHex = true := by
        rw [List.all_eq_true] at hh ⊢
        intro y hy
        exact hh y (List.mem_of_mem_take hy)
      have hc : (0 ≤ (n : Int) ∧ n ≤ p.length) = True := eq_true (by omega)
      have A1 : M45_B (M45 F) F l i s p = if i < h then (M45 F l i h (p.take n)).bind (fun y11 => (M70 F y11.1 p[n]).bind fun y15 => some (y15, y11.2)) else (M45 F l (w64 (i - h)) (w64 (s - h)) (p.take n)).bind (fun y18 => (M70 F p[n] y18.1).bind fun y22 => some (y22, y18.2)) := by
        rw [M45_B, if_neg (by simpa using hs), hw, if_neg (by simp), eh]
        simp only [Option.bind_some, hc, if_true, idx_nat hk, Int.toNat_natCast, decide_eq_true_eq]
      have A2 : M51_B (M51 F) F l i s p = if i < h then (M51 F l i h (p.take n)).bind (fun y11 => (M76 F y11.1 p[n]).bind fun y15 => some (y15, y11.2)) else (M51 F l (w64 (i - h)) (w64 (s - h)) (p.take n)).bind (fun y18 => (M76 F p[n] y18.1).bind fun y22 => some (y22, y18.2)) := by
        rw [M51_B, if_neg (by simpa using hs), hne, if_neg (by decide), hw, idx_nat hk, M75_is, eh]
        simp only [Option.bind_some, hc, if_true, Int.toNat_natCast, decide_eq_true_eq]
      rw [A1, A2]
      have hlen : (p.take n).length = n := by simp; omega
      by_cases hi : i < h
      · obtain ⟨x, x', ok, e1, e2, g1, g2, g3⟩ := included_eq l hl n F i h (p.take n) hlen (by omega) (by omega) h0 hi (by omega) ht
        rw [if_pos hi, if_pos hi, e1, e2]
        refine ⟨joinT x p[n], joinT x' p[n], ok, ?_, ?_, joinT_hex _ _, by rw [joinT_len]; omega, fun ho => by rw [g3 ho]⟩
        · simp only [Option.bind_some]
          rw [M70_eq F (by omega) _ _ (by rw [isHex_len g1]; omega) (by rw [isHex_len hx]; omega)]; rfl
        · simp only [Option.bind_some]
          rw [M76_eq F (by omega) _ _ g2 (by rw [isHex_len hx]; omega)]; rfl
      · have w1 : w64 (i - h) = i - h := w64_id (by omega) (by omega)
        have w2 : w64 (s - h) = s - h := w64_id (by omega) (by omega)
        obtain ⟨x, x', ok, e1, e2, g1, g2, g3⟩ := included_eq l hl n F (i - h) (s - h) (p.take n) hlen (by omega) (by omega) (by omega) (by omega) (by omega) ht
        rw [if_neg hi, if_neg hi, w1, w2, e1, e2]
        refine ⟨joinT p[n] x, joinT p[n] x', ok, ?_, ?_, joinT_hex _ _, by rw [joinT_len]; omega, fun ho => by rw [g3 ho]⟩
        · simp only [Option.bind_some]
          rw [M70_eq F (by omega) _ _ (by rw [isHex_len hx]; omega) (by rw [isHex_len g1]; omega)]; rfl
        · simp only [Option.bind_some]
          rw [M76_eq F (by omega) _ _ (by rw [isHex_len hx]; omega) g2]; rfl
theorem consistent_eq (r : List UInt8) (hr : isHex r = true) : ∀ (n F : Nat) (o s : Int) (b : Bool) (p : List (List UInt8)), p.length = n → n ≤ 64 → n + 33 ≤ F → 1 ≤ o → o ≤ s → s ≤ 1073741824 → p.all isHex = true →
    ∃ x y x' y' ok, M47 F r o s b p = some (x, y, ok) ∧ M50 F r o s b p = some (x', y', ok) ∧ x.length ≤ 16 ∧ y.length ≤ 16 ∧ x'.length ≤ 16 ∧ y'.length ≤ 16 ∧ (ok = true → x' = x ∧ y' = y ∧ isHex x = true ∧ isHex y = true)
  | n, 0, _, _, _, _, _, _, hF, _, _, _, _ => by omega
  | 0, F + 1, o, s, b, p, hp, hn, hF, h0, h1, h2, hh => by
    have hp' : p = [] := List.length_eq_zero_iff.1 hp
    subst hp'
    have hl : r.length ≤ 16 := by rw [isHex_len hr]; omega
    rw [M47, M50, M47_B, M50_B]
    by_cases hs : o = s
    · subst hs
      cases b
      · exact ⟨[], [], [], [], false, by rw [if_pos (by simp)]; rfl, by rw [if_pos (by simp)]; rfl, by simp, by simp, by simp, by simp, by simp⟩
      · exact ⟨r, r, r, r, true, by rw [if_pos (by simp)]; rfl, by rw [if_pos (by simp)]; rfl, hl, hl, hl, hl, fun _ => ⟨rfl, rfl, hr, hr⟩⟩
    · exact ⟨[], [], [], [], false, by rw [if_neg (by simpa using hs)]; rfl, by rw [if_neg (by simpa using hs)]; rfl, by simp, by simp, by simp, by simp, by simp⟩
  | n + 1, F + 1, o, s, b, p, hp, hn, hF, h0, h1, h2, hh => by
    have hw := last_of hp (by omega)
    have hne : (((p.length : Nat) : Int) == 0) = false := beq_eq_false_iff_ne.2 (by omega)
    have hl : r.length ≤ 16 := by rw [isHex_len hr]; omega
    rw [M47, M50]
    by_cases hs : o = s
    · subst hs
      rw [M47_B, M50_B, hw, hne]
      cases b
      · by_cases h1 : n = 0
        · subst h1
          have hk : (0 : Nat) < p.length := by omega
          have hx : isHex p[0] = true := List.all_eq_true.1 hh _ (List.getElem_mem hk)
          have hlx : p[0].length ≤ 16 := by rw [isHex_len hx]; omega
          have ei : idx p 0 = some p[0] := idx_nat hk
          refine ⟨p[0], p[0], p[0], p[0], true, ?_, ?_, hlx, hlx, hlx, hlx, fun _ => ⟨rfl, rfl, hx, hx⟩⟩
          · rw [if_pos (by simp), if_neg (by decide), if_pos (by decide), ei]; rfl
          · rw [if_pos (by simp), if_neg (by decide), if_neg (by rw [hp]; decide), ei]; rfl
        · refine ⟨[], [], [], [], false, ?_, ?_, by simp, by simp, by simp, by simp, by simp⟩
          · rw [if_pos (by simp), if_neg (by decide), if_neg (by simp; omega)]
          · rw [if_pos (by simp), if_neg (by decide), if_pos (by rw [bne_iff_ne]; omega)]
      · refine ⟨r, r, r, r, false, ?_, ?_, hl, hl, hl, hl, by simp⟩
        · rw [if_pos (by simp), if_pos rfl, show decide ((n : Int) < 0) = false by simp]
        · rw [if_pos (by simp), if_pos rfl]
    · obtain ⟨h, eh, hh1, hh2⟩ := M69_eq F (by omega) s (by omega) h2
      have hk : n < p.length := by omega
      have hx : isHex p[n] = true := List.all_eq_true.1 hh _ (List.getElem_mem hk)
      have hlx : p[n].length ≤ 16 := by rw [isHex_len hx]; omega
      have ht : (p.take n).all isHex = true := by
        rw [List.all_eq_true] at hh ⊢
        intro y hy
        exact hh y (List.mem_of_mem_take hy)
      have hc : (0 ≤ (n : Int) ∧ n ≤ p.length) = True := eq_true (by omega)
      have A1 : M47_B (M47 F) F r o s b p = if o ≤ h then (M47 F r o h b (p.take n)).bind (fun y => (M70 F y.2.1 p[n]).bind fun z => some (y.1, z, y.2.2)) else (M47 F r (w64 (o - h)) (w64 (s - h)) false (p.take n)).bind (fun y => (M70 F p[n] y.1).bind fun z => (M70 F p[n] y.2.1).bind fun z' => some (z, z', y.2.2)) := by
        rw [M47_B, if_neg (by simpa using hs), hw, if_neg (by simp), eh]
        simp only [Option.bind_some, hc, if_true, idx_nat hk, Int.toNat_natCast, decide_eq_true_eq]
      have A2 : M50_B (M50 F) F r o s b p = if o ≤ h then (M50 F r o h b (p.take n)).bind (fun y => (M76 F y.2.1 p[n]).bind fun z => some (y.1, z, y.2.2)) else (M50 F r (w64 (o - h)) (w64 (s - h)) false (p.take n)).bind (fun y => (M76 F p[n] y.1).bind fun z => (M76 F p[n] y.2.1).bind fun z' => some (z, z', y.2.2)) := by
        rw [M50_B, if_neg (by simpa using hs), hne, if_neg (by decide), hw, idx_nat hk, M75_is, eh]
        simp only [Option.bind_some, hc, if_true, Int.toNat_natCast, decide_eq_true_eq]
      rw [A1, A2]
      have hlen : (p.take n).length = n := by simp; omega
      by_cases hi : o ≤ h
      · obtain ⟨x, y, x', y', ok, e1, e2, l1, l2, l3, l4, g⟩ := consistent_eq r hr n F o h b (p.take n) hlen (by omega) (by omega) h0 hi (by omega) ht
        rw [if_pos hi, if_pos hi, e1, e2]
        refine ⟨x, joinT y p[n], x', joinT y' p[n], ok, ?_, ?_, l1, by rw [joinT_len]; omega, l3, by rw [joinT_len]; omega, fun ho => ⟨(g ho).1, by rw [(g ho).2.1], (g ho).2.2.1, joinT_hex _ _⟩⟩
        · simp only [Option.bind_some]
          rw [M70_eq F (by omega) _ _ l2 hlx]; rfl
        · simp only [Option.bind_some]
          rw [M76_eq F (by omega) _ _ l4 hlx]; rfl
      · have w1 : w64 (o - h) = o - h := w64_id (by omega) (by omega)
        have w2 : w64 (s - h) = s - h := w64_id (by omega) (by omega)
        obtain ⟨x, y, x', y', ok, e1, e2, l1, l2, l3, l4, g⟩ := consistent_eq r hr n F (o - h) (s - h) false (p.take n) hlen (by omega) (by omega) (by omega) (by omega) (by omega) ht
        rw [if_neg hi, if_neg hi, w1, w2, e1, e2]
        refine ⟨joinT p[n] x, joinT p[n] y, joinT p[n] x', joinT p[n] y', ok, ?_, ?_, by rw [joinT_len]; omega, by rw [joinT_len]; omega, by rw [joinT_len]; omega, by rw [joinT_len]; omega, fun ho => ⟨by rw [(g ho).1], by rw [(g ho).2.1], joinT_hex _ _, joinT_hex _ _⟩⟩
        · simp only [Option.bind_some]
          rw [M70_eq F (by omega) _ _ hlx l1, Option.bind_some, M70_eq F (by omega) _ _ hlx l2]; rfl
        · simp only [Option.bind_some]
          rw [M76_eq F (by omega) _ _ hlx l3, Option.bind_some, M76_eq F (by omega) _ _ hlx l4]; rfl
theorem incl_eq (F : Nat) (hF : 98 ≤ F) (a1 a2 : List UInt8) (i s : Int) (p : List (List UInt8)) (h1 : a1.length ≤ maxLen) (h2 : a2.length ≤ maxLen) (hp : ∀ x, x ∈ p → x.length ≤ maxLen) :
    ∃ r, M21 F a1 a2 i s p = some r ∧ M24 F a1 a2 i s p = some r := by
  unfold M21 M24
  rw [M43_eq, Option.bind_some, M43_eq, Option.bind_some, M48_eq F a1 h1, Option.bind_some, M48_eq F a2 h2, Option.bind_some, M44_eq, M49_eq F s (decide (i < s)) p hp, M49_eq F s false p hp]
  simp only [Option.bind_some, decide_eq_true_eq]
  cases g1 : isHex a1
  · exact ⟨_, rfl, rfl⟩
  cases g2 : isHex a2
  · exact ⟨_, rfl, rfl⟩
  simp only [Bool.not_true, Bool.false_eq_true, if_false]
  by_cases c1 : s < 1
  · refine ⟨(false, 9), by rw [if_pos c1], ?_⟩
    have q : ∀ b, pfF s b p = 9 := fun b => pfF_9 (.inl c1)
    simp only [q]
    split <;> rfl
  rw [if_neg c1]
  by_cases c2 : s > 1073741824
  · refine ⟨(false, 9), by rw [if_pos c2], ?_⟩
    have q : ∀ b, pfF s b p = 9 := fun b => pfF_9 (.inr (.inl c2))
    simp only [q]
    split <;> rfl
  rw [if_neg c2]
  by_cases c3 : i < 0
  · refine ⟨(false, 9), by rw [if_pos c3], ?_⟩
    rw [if_neg (by omega), pfF_9 (.inr (.inr rfl))]; rfl
  rw [if_neg c3, if_pos (show i ≥ 0 by omega)]
  by_cases c4 : i ≥ s
  · refine ⟨(false, 9), by rw [if_pos c4], ?_⟩
    rw [pfF_9 (.inr (.inr (by simp; omega)))]; rfl
  rw [if_neg c4, pfF_ok (by simp; omega)]
  by_cases c5 : (p.length : Int) > 64
  · rw [if_pos c5]; exact ⟨_, rfl, rfl⟩
  rw [if_neg c5]
  unfold sumsF
  by_cases c6 : p.all isHex = true
  · rw [if_pos c6]
    obtain ⟨x, x', ok, e1, e2, k1, _, k3⟩ := included_eq a2 g2 p.length F i s p rfl (by omega) (by omega) (by omega) (by omega) (by omega) c6
    rw [if_neg (by decide), if_neg (by decide), e1, e2]
    simp only [Option.bind_some]
    cases ok
    · exact ⟨_, rfl, rfl⟩
    · rw [k3 rfl, if_pos rfl, if_pos rfl, M46_eq F x a1 k1 g1]
      exact ⟨_, rfl, rfl⟩
  · rw [if_neg c6]; exact ⟨_, rfl, rfl⟩
theorem cons_eq (F : Nat) (hF : 98 ≤ F) (a1 a2 : List UInt8) (i s : Int) (p : List (List UInt8)) (h1 : a1.length ≤ maxLen) (h2 : a2.length ≤ maxLen) (hp : ∀ x, x ∈ p → x.length ≤ maxLen) :
    ∃ r, M22 F a1 a2 i s p = some r ∧ M23 F a1 a2 i s p = some r := by
  unfold M22 M23
  rw [M43_eq, Option.bind_some, M43_eq, Option.bind_some, M48_eq F a1 h1, Option.bind_some, M48_eq F a2 h2, Option.bind_some, M44_eq, M49_eq F s (decide (i ≤ s)) p hp, M49_eq F s false p hp]
  simp only [Option.bind_some, decide_eq_true_eq]
  cases g1 : isHex a1
  · exact ⟨_, rfl, rfl⟩
  cases g2 : isHex a2
  · exact ⟨_, rfl, rfl⟩
  simp only [Bool.not_true, Bool.false_eq_true, if_false]
  by_cases c1 : s < 1
  · refine ⟨(false, 9), by rw [if_pos c1], ?_⟩
    have q : ∀ b, pfF s b p = 9 := fun b => pfF_9 (.inl c1)
    simp only [q]
    split <;> rfl
  rw [if_neg c1]
  by_cases c2 : s > 1073741824
  · refine ⟨(false, 9), by rw [if_pos c2], ?_⟩
    have q : ∀ b, pfF s b p = 9 := fun b => pfF_9 (.inr (.inl c2))
    simp only [q]
    split <;> rfl
  rw [if_neg c2]
  by_cases c3 : i < 1
  · refine ⟨(false, 9), by rw [if_pos c3], ?_⟩
    rw [if_neg (by omega), pfF_9 (.inr (.inr rfl))]; rfl
  rw [if_neg c3, if_pos (show i ≥ 1 by omega)]
  by_cases c4 : i > s
  · refine ⟨(false, 9), by rw [if_pos c4], ?_⟩
    rw [pfF_9 (.inr (.inr (by simp; omega)))]; rfl
  rw [if_neg c4, pfF_ok (by simp; omega)]
  by_cases c5 : (p.length : Int) > 64
  · rw [if_pos c5]; exact ⟨_, rfl, rfl⟩
  rw [if_neg c5]
  unfold sumsF
  by_cases c6 : p.all isHex = true
  · rw [if_pos c6]
    obtain ⟨x, y, x', y', ok, e1, e2, _, _, _, _, k⟩ := consistent_eq a1 g1 p.length F i s true p rfl (by omega) (by omega) (by omega) (by omega) (by omega) c6
    rw [if_neg (by decide), if_neg (by decide), e1, e2]
    simp only [Option.bind_some]
    cases ok
    · exact ⟨_, rfl, rfl⟩
    · obtain ⟨k1, k2, k3, k4⟩ := k rfl
      rw [k1, k2, if_pos rfl, if_pos rfl, M46_eq F x a1 k3 g1]
      simp only [Option.bind_some]
      rw [M46_eq F y a2 k4 g2]
      cases x == a1 <;> exact ⟨_, rfl, rfl⟩
  · rw [if_neg c6]; exact ⟨_, rfl, rfl⟩
end Go.Proofs.YtiphmdpaajjdeaaGreatDoor
