/- Part of the proof: ATS. -/
import Derived.Test.YtiphmdpaajjdeaaGreatDoorGATR
namespace Go.Proofs.YtiphmdpaajjdeaaGreatDoor
open Go Go.Pv
set_option linter.unusedVariables false
set_option linter.unusedSimpArgs false
set_option maxRecDepth 100000
theorem pow_half {a h k : Nat} (p : IsHalf a h) (ha : a ≤ 2 ^ (k + 1)) : h ≤ 2 ^ k ∧ a - h ≤ 2 ^ k := by
  obtain ⟨⟨j, rfl⟩, p1, p2⟩ := p
  have : j ≤ k := by
    rcases Nat.lt_or_ge k j with h | h
    · have := Nat.pow_le_pow_right (n := 2) (by omega) (show k + 1 ≤ j by omega)
      omega
    · exact h
  have := Nat.pow_le_pow_right (n := 2) (by omega) this
  omega
theorem incl_log : ∀ (k : Nat) (l : Sums) (i : Nat), l.length ≤ 2 ^ k → l.length ≤ 1073741824 → (inclT l i).length ≤ k
  | 0, l, i, h, h3 => by rw [inclT_one (by simpa using h)]; simp
  | k + 1, l, i, h, h3 => by
    by_cases h2 : 2 ≤ l.length
    · have hp := pow_half (hf_is h2 h3) h
      have hm := hf_lt h2 h3
      rw [inclT_two h2 h3]
      split
      · have := incl_log k (l.take (hf l.length)) i (by simp; omega) (by simp; omega)
        simp; omega
      · have := incl_log k (l.drop (hf l.length)) (i - hf l.length) (by simp; omega) (by simp; omega)
        simp; omega
    · rw [inclT_one (by omega)]; simp
theorem cons_log : ∀ (k : Nat) (l : Sums) (o : Nat) (b : Bool), l.length ≤ 2 ^ k → l.length ≤ 1073741824 → (consT l o b).length ≤ k + 1
  | k, l, o, b, h, h3 => by
    by_cases ho : o = l.length
    · subst ho; rw [consT_end]; cases b <;> simp
    · by_cases h2 : 2 ≤ l.length
      · match k with
        | 0 => simp at h; omega
        | k + 1 =>
          have hp := pow_half (hf_is h2 h3) h
          have hm := hf_lt h2 h3
          rw [consT_two ho h2 h3]
          split
          · have := cons_log k (l.take (hf l.length)) o b (by simp; omega) (by simp; omega)
            simp; omega
          · have := cons_log k (l.drop (hf l.length)) (o - hf l.length) false (by simp; omega) (by simp; omega)
            simp; omega
      · rw [consT, if_neg ho, dif_neg h2]; simp
theorem last_snoc (p : Sums) (r : List UInt8) (h : p.length ≤ 4096) : w64 ((((p ++ [r]).length : Nat) : Int) - 1) = (p.length : Int) := by
  rw [List.length_append, List.length_singleton, w64_id (by omega) (by omega)]; omega
theorem idx_snoc (p : Sums) (r : List UInt8) : idx (p ++ [r]) ((p.length : Nat) : Int) = some r := by
  rw [idx_nat (by simp)]; simp
theorem incl_ok : ∀ (n F : Nat) (l : Sums) (i : Nat) (hi : i < l.length), l.length ≤ n → l.length ≤ 4096 → n + 33 ≤ F → l.all isHex = true → M45 F l[i] (i : Int) (l.length : Int) (inclT l i) = some (rootT l, true)
  | n, 0, l, i, hi, hn, h3, hF, hh => by omega
  | n, F + 1, l, i, hi, hn, h3, hF, hh => by
    rw [M45, M45_B]
    by_cases h1 : l.length = 1
    · obtain ⟨x, rfl⟩ : ∃ x, l = [x] := List.length_eq_one_iff.1 h1
      have : i = 0 := by simpa using hi
      subst this
      rw [if_pos (by simp), inclT_one (by simp), rootT_one]; rfl
    · have h2 : 2 ≤ l.length := by omega
      have hm := hf_lt h2 (by omega)
      have e1 := half_eq F (by omega) l.length h2 (by omega)
      obtain ⟨n', rfl⟩ : ∃ n', n = n' + 1 := ⟨n - 1, by omega⟩
      have x1 := rootT_hex (all_take hh (hf l.length)) (by simp; omega)
      have x2 := rootT_hex (all_drop hh (hf l.length)) (by simp; omega)
      rw [if_neg (by rw [beq_iff_eq]; omega), inclT_two h2 (by omega), e1, rootT_two h2 (by omega)]
      simp only [Option.bind_some]
      by_cases hlt : i < hf l.length
      · have a1 := incl_ok n' F (l.take (hf l.length)) i (by simp; omega) (by simp; omega) (by simp; omega) (by omega) (all_take hh _)
        have ll : (inclT (l.take (hf l.length)) i).length ≤ 4096 := by
          have := (inclT_all _ (l.take (hf l.length)) i (Nat.le_refl _) (by simp; omega) (all_take hh _)).2
          simp at this; omega
        have g : (l.take (hf l.length))[i]'(by simp; omega) = l[i] := by simp
        have g2 : (((l.take (hf l.length)).length : Nat) : Int) = ((hf l.length : Nat) : Int) := by simp; omega
        rw [if_pos hlt, last_snoc _ _ ll, idx_snoc]
        rw [g, g2] at a1
        have c : (0 ≤ (((inclT (l.take (hf l.length)) i).length : Nat) : Int) ∧ (inclT (l.take (hf l.length)) i).length ≤ (inclT (l.take (hf l.length)) i ++ [rootT (l.drop (hf l.length))]).length) = True := eq_true (by simp)
        rw [if_neg (by simp), if_pos (by rw [decide_eq_true_eq]; omega)]
        simp only [Int.toNat_natCast, c, if_true, List.take_left, Option.bind_some]
        rw [a1, Option.bind_some, M70_eq F (by omega) _ _ (hex_le x1) (hex_le x2)]; rfl
      · have w : w64 ((i : Int) - ((hf l.length : Nat) : Int)) = ((i - hf l.length : Nat) : Int) := by rw [w64_id (by omega) (by omega)]; omega
        have w2 : w64 (((l.length : Nat) : Int) - ((hf l.length : Nat) : Int)) = (((l.drop (hf l.length)).length : Nat) : Int) := by rw [w64_id (by omega) (by omega)]; simp; omega
        have a1 := incl_ok n' F (l.drop (hf l.length)) (i - hf l.length) (by simp; omega) (by simp; omega) (by simp; omega) (by omega) (all_drop hh _)
        have ll : (inclT (l.drop (hf l.length)) (i - hf l.length)).length ≤ 4096 := by
          have := (inclT_all _ (l.drop (hf l.length)) (i - hf l.length) (Nat.le_refl _) (by simp; omega) (all_drop hh _)).2
          simp at this; omega
        have g : (l.drop (hf l.length))[i - hf l.length]'(by simp; omega) = l[i] := by simp; congr 1; omega
        rw [if_neg hlt, last_snoc _ _ ll, idx_snoc, w, w2]
        rw [g] at a1
        have c : (0 ≤ (((inclT (l.drop (hf l.length)) (i - hf l.length)).length : Nat) : Int) ∧ (inclT (l.drop (hf l.length)) (i - hf l.length)).length ≤ (inclT (l.drop (hf l.length)) (i - hf l.length) ++ [rootT (l.take (hf l.length))]).length) = True := eq_true (by simp)
        rw [if_neg (by simp), if_neg (by rw [decide_eq_true_eq]; omega)]
        simp only [Int.toNat_natCast, c, if_true, List.take_left, Option.bind_some]
        rw [a1, Option.bind_some, M70_eq F (by omega) _ _ (hex_le x1) (hex_le x2)]; rfl
theorem cons_ok (r : List UInt8) : ∀ (n F : Nat) (l : Sums) (o : Nat) (b : Bool), l.length ≤ n → 1 ≤ o → o ≤ l.length → l.length ≤ 4096 → n + 33 ≤ F → l.all isHex = true → (b = true → r = rootT (l.take o)) →
    M47 F r (o : Int) (l.length : Int) b (consT l o b) = some (rootT (l.take o), rootT l, true)
  | n, 0, l, o, b, hn, h0, h1, h3, hF, hh, hr => by omega
  | n, F + 1, l, o, b, hn, h0, h1, h3, hF, hh, hr => by
    rw [M47, M47_B]
    by_cases ho : o = l.length
    · subst ho
      rw [if_pos (by simp), consT_end, List.take_length]
      rw [List.take_length] at hr
      cases b
      · rfl
      · rw [hr rfl]; rfl
    · have h2 : 2 ≤ l.length := by omega
      have hm := hf_lt h2 (by omega)
      have hI := hf_is h2 (show l.length ≤ 1073741824 by omega)
      have e1 := half_eq F (by omega) l.length h2 (by omega)
      obtain ⟨n', rfl⟩ : ∃ n', n = n' + 1 := ⟨n - 1, by omega⟩
      have x1 := rootT_hex (all_take hh (hf l.length)) (by simp; omega)
      have x2 := rootT_hex (all_drop hh (hf l.length)) (by simp; omega)
      rw [if_neg (by rw [beq_iff_eq]; omega), consT_two ho h2 (by omega), e1, rootT_two (l := l) h2 (by omega)]
      simp only [Option.bind_some]
      by_cases hlt : o ≤ hf l.length
      · have tt : (l.take (hf l.length)).take o = l.take o := by rw [List.take_take, Nat.min_eq_left hlt]
        have a1 := cons_ok r n' F (l.take (hf l.length)) o b (by simp; omega) h0 (by simp; omega) (by simp; omega) (by omega) (all_take hh _) (by rw [tt]; exact hr)
        have ll : (consT (l.take (hf l.length)) o b).length ≤ 4096 := by
          have := (consT_all _ (l.take (hf l.length)) o b (Nat.le_refl _) h0 (by simp; omega) (by simp; omega) (all_take hh _)).2
          simp at this; omega
        have g2 : (((l.take (hf l.length)).length : Nat) : Int) = ((hf l.length : Nat) : Int) := by simp; omega
        rw [if_pos hlt, last_snoc _ _ ll, idx_snoc]
        rw [g2, tt] at a1
        have c : (0 ≤ (((consT (l.take (hf l.length)) o b).length : Nat) : Int) ∧ (consT (l.take (hf l.length)) o b).length ≤ (consT (l.take (hf l.length)) o b ++ [rootT (l.drop (hf l.length))]).length) = True := eq_true (by simp)
        rw [if_neg (by simp), if_pos (by rw [decide_eq_true_eq]; omega)]
        simp only [Int.toNat_natCast, c, if_true, List.take_left, Option.bind_some]
        rw [a1, Option.bind_some, M70_eq F (by omega) _ _ (hex_le x1) (hex_le x2)]; rfl
      · have w : w64 ((o : Int) - ((hf l.length : Nat) : Int)) = ((o - hf l.length : Nat) : Int) := by rw [w64_id (by omega) (by omega)]; omega
        have w2 : w64 (((l.length : Nat) : Int) - ((hf l.length : Nat) : Int)) = (((l.drop (hf l.length)).length : Nat) : Int) := by rw [w64_id (by omega) (by omega)]; simp; omega
        have a1 := cons_ok r n' F (l.drop (hf l.length)) (o - hf l.length) false (by simp; omega) (by omega) (by simp; omega) (by simp; omega) (by omega) (all_drop hh _) (by simp)
        have ll : (consT (l.drop (hf l.length)) (o - hf l.length) false).length ≤ 4096 := by
          have := (consT_all _ (l.drop (hf l.length)) (o - hf l.length) false (Nat.le_refl _) (by omega) (by simp; omega) (by simp; omega) (all_drop hh _)).2
          simp at this; omega
        have lo : (l.take o).length = o := by simp; omega
        have ho2 : hf o = hf l.length := (hf_is (a := o) (by omega) (by omega)).unique (hI.down (by omega) h1)
        have er : rootT (l.take o) = joinT (rootT (l.take (hf l.length))) (rootT ((l.drop (hf l.length)).take (o - hf l.length))) := by
          rw [rootT_two (by omega) (by omega), lo, ho2, List.take_take, Nat.min_eq_left (by omega), List.drop_take]
        have x3 := rootT_hex (all_take (all_drop hh (hf l.length)) (o - hf l.length)) (by simp; omega)
        rw [if_neg hlt, last_snoc _ _ ll, idx_snoc, w, w2, er]
        have c : (0 ≤ (((consT (l.drop (hf l.length)) (o - hf l.length) false).length : Nat) : Int) ∧ (consT (l.drop (hf l.length)) (o - hf l.length) false).length ≤ (consT (l.drop (hf l.length)) (o - hf l.length) false ++ [rootT (l.take (hf l.length))]).length) = True := eq_true (by simp)
        rw [if_neg (by simp), if_neg (by rw [decide_eq_true_eq]; omega)]
        simp only [Int.toNat_natCast, c, if_true, List.take_left, Option.bind_some]
        rw [a1, Option.bind_some, M70_eq F (by omega) _ _ (hex_le x1) (hex_le x3), Option.bind_some, M70_eq F (by omega) _ _ (hex_le x1) (hex_le x2)]; rfl
theorem sumsF_0 {l : Sums} (h : l.all isHex = true) : sumsF l = 0 := by unfold sumsF; rw [if_pos h]
theorem included_ok (F : Nat) (hF : 4200 ≤ F) (l : Sums) (i : Nat) (hi : i < l.length) (h3 : l.length ≤ 4096) (hh : l.all isHex = true) : M21 F (rootT l) l[i] (i : Int) (l.length : Int) (inclT l i) = some (true, 0) := by
  have hr := rootT_hex hh (by omega)
  have hx : isHex l[i] = true := List.all_eq_true.1 hh _ (List.getElem_mem hi)
  have hp := inclT_all _ l i (Nat.le_refl _) (by omega) hh
  have hlen := incl_log 12 l i (by simpa using h3) (by omega)
  unfold M21
  rw [M43_eq, Option.bind_some, hr, M43_eq, Option.bind_some, hx, M44_eq, if_neg (show ¬ (((inclT l i).length : Nat) : Int) > 64 by omega), sumsF_0 hp.1, incl_ok 4096 F l i hi h3 h3 (by omega) hh]
  rw [if_neg (by decide), if_neg (by decide), if_neg (by rw [decide_eq_true_eq]; omega), if_neg (by rw [decide_eq_true_eq]; omega), if_neg (by rw [decide_eq_true_eq]; omega), if_neg (by rw [decide_eq_true_eq]; omega)]
  simp only [Option.bind_some]
  rw [M46_eq F _ _ hr hr]
  simp
theorem consistent_ok (F : Nat) (hF : 4200 ≤ F) (l : Sums) (o : Nat) (h0 : 1 ≤ o) (h1 : o ≤ l.length) (h3 : l.length ≤ 4096) (hh : l.all isHex = true) : M22 F (rootT (l.take o)) (rootT l) (o : Int) (l.length : Int) (consT l o true) = some (true, 0) := by
  have hr := rootT_hex hh (by omega)
  have hx := rootT_hex (all_take hh o) (by simp; omega)
  have hp := consT_all _ l o true (Nat.le_refl _) h0 h1 (by omega) hh
  have hlen := cons_log 12 l o true (by simpa using h3) (by omega)
  unfold M22
  rw [M43_eq, Option.bind_some, hx, M43_eq, Option.bind_some, hr, M44_eq, if_neg (show ¬ (((consT l o true).length : Nat) : Int) > 64 by omega), sumsF_0 hp.1, cons_ok _ 4096 F l o true h3 h0 h1 h3 (by omega) hh (fun _ => rfl)]
  rw [if_neg (by decide), if_neg (by decide), if_neg (by rw [decide_eq_true_eq]; omega), if_neg (by rw [decide_eq_true_eq]; omega), if_neg (by rw [decide_eq_true_eq]; omega), if_neg (by rw [decide_eq_true_eq]; omega)]
  simp only [Option.bind_some]
  rw [M46_eq F _ _ hx hx]
  simp only [Option.bind_some]
  rw [M46_eq F _ _ hr hr]
  simp
end Go.Proofs.YtiphmdpaajjdeaaGreatDoor
