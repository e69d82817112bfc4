/- Part of the proof: A8S. -/
import Derived.Test.YtihfhmibfhkoeaaDoorHA8R
namespace Go.Proofs.YtihfhmibfhkoeaaDoor
open Go Go.Pv
set_option linter.unusedVariables false
set_option linter.unusedSimpArgs false
set_option maxRecDepth 100000
theorem pow_half {a h k : Nat} (p : IsHalf a h) (ha : a ≤ 2 ^ (k + 1)) : h ≤ 2 ^ k ∧ a - h ≤ 2 ^ k := by
  obtain ⟨⟨j, rfl⟩, p1, p2⟩ := p
  have : j ≤ k := by
    rcases Nat.lt_or_ge k j with h | h
    · have := Nat.pow_le_pow_right (n := 2) (by omega) (show k + 1 ≤ j by omega)
      omega
    · exact h
  have := Nat.pow_le_pow_right (n := 2) (by omega) this
  omega
theorem incl_log : ∀ (k : Nat) (l : Sums) (i : Nat), l.length ≤ 2 ^ k → l.length ≤ 1073741824 → (inclT l i).length ≤ k
  | 0, l, i, h, h3 => by rw [inclT_one (by simpa using h)]; simp
  | k + 1, l, i, h, h3 => by
    by_cases h2 : 2 ≤ l.length
    · have hp := pow_half (hf_is h2 h3) h
      have hm := hf_lt h2 h3
      rw [inclT_two h2 h3]
      split
      · have := incl_log k (l.take (hf l.length)) i (by simp; omega) (by simp; omega)
        simp; omega
      · have := incl_log k (l.drop (hf l.length)) (i - hf l.length) (by simp; omega) (by simp; omega)
        simp; omega
    · rw [inclT_one (by omega)]; simp
theorem cons_log : ∀ (k : Nat) (l : Sums) (o : Nat) (b : Bool), l.length ≤ 2 ^ k → l.length ≤ 1073741824 → (consT l o b).length ≤ k + 1
  | k, l, o, b, h, h3 => by
    by_cases ho : o = l.length
    · subst ho; rw [consT_end]; cases b <;> simp
    · by_cases h2 : 2 ≤ l.length
      · match k with
        | 0 => simp at h; omega
        | k + 1 =>
          have hp := pow_half (hf_is h2 h3) h
          have hm := hf_lt h2 h3
          rw [consT_two ho h2 h3]
          split
          · have := cons_log k (l.take (hf l.length)) o b (by simp; omega) (by simp; omega)
            simp; omega
          · have := cons_log k (l.drop (hf l.length)) (o - hf l.length) false (by simp; omega) (by simp; omega)
            simp; omega
      · rw [consT, if_neg ho, dif_neg h2]; simp
theorem last_snoc (p : Sums) (r : List UInt8) (h : p.length ≤ 4096) : w64 ((((p ++ [r]).length : Nat) : Int) - 1) = (p.length : Int) := by
  rw [List.length_append, List.length_singleton, w64_id (by omega) (by omega)]; omega
theorem idx_snoc (p : Sums) (r : List UInt8) : idx (p ++ [r]) ((p.length : Nat) : Int) = some r := by
  rw [idx_nat (by simp)]; simp
theorem incl_ok : ∀ (n F : Nat) (l : Sums) (i : Nat) (hi : i < l.length), l.length ≤ n → l.length ≤ 4096 → n + 33 ≤ F → l.all isHex = true → M75 F l[i] (i : Int) (l.length : Int) (inclT l i) = some (rootT l, true)
  | n, 0, l, i, hi, hn, h3, hF, hh => by omega
  | n, F + 1, l, i, hi, hn, h3, hF, hh => by
    rw [M75, M75_B]
    by_cases h1 : l.length = 1
    · obtain ⟨x, rfl⟩ : ∃ x, l = [x] := List.length_eq_one_iff.1 h1
      have : i = 0 := by simpa using hi
      subst this
      rw [if_pos (by simp), inclT_one (by simp), rootT_one]; rfl
    · have h2 : 2 ≤ l.length := by omega
      have hm := hf_lt h2 (by omega)
      have e1 := half_eq F (by omega) l.length h2 (by omega)
      obtain ⟨n', rfl⟩ : ∃ n', n = n' + 1 := ⟨n - 1, by omega⟩
      have x1 := rootT_hex (all_take hh (hf l.length)) (by simp; omega)
      have x2 := rootT_hex (all_drop hh (hf l.length)) (by simp; omega)
      rw [if_neg (by rw [beq_iff_eq]; omega), inclT_two h2 (by omega), e1, rootT_two h2 (by omega)]
      simp only [Option.bind_some]
      by_cases hlt : i < hf l.length
      · have a1 := incl_ok n' F (l.take (hf l.length)) i (by simp; omega) (by simp; omega) (by simp; omega) (by omega) (all_take hh _)
        have ll : (inclT (l.take (hf l.length)) i).length ≤ 4096 := by
          have := (inclT_all _ (l.take (hf l.length)) i (Nat.le_refl _) (by simp; omega) (all_take hh _)).2
          simp at this; omega
        have g : (l.take (hf l.length))[i]'(by simp; omega) = l[i] := by simp
        have g2 : (((l.take (hf l.length)).length : Nat) : Int) = ((hf l.length : Nat) : Int) := by simp; omega
        rw [if_pos hlt, last_snoc _ _ ll, idx_snoc]
        rw [g, g2] at a1
        have c : (0 ≤ (((inclT (l.take (hf l.length)) i).length : Nat) : Int) ∧ (inclT (l.take (hf l.length)) i).length ≤ (inclT (l.take (hf l.length)) i ++ [rootT (l.drop (hf l.length))]).length) = True := eq_true (by simp)
        rw [if_neg (by simp), if_pos (by rw [decide_eq_true_eq]; omega)]
        simp only [Int.toNat_natCast, c, if_true, List.take_left, Option.bind_some]
        rw [a1, Option.bind_some, M117_eq F (by omega) _ _ (hex_le x1) (hex_le x2)]; rfl
      · have w : w64 ((i : Int) - ((hf l.length : Nat) : Int)) = ((i - hf l.length : Nat) : Int) := by rw [w64_id (by omega) (by omega)]; omega
        have w2 : w64 (((l.length : Nat) : Int) - ((hf l.length : Nat) : Int)) = (((l.drop (hf l.length)).length : Nat) : Int) := by rw [w64_id (by omega) (by omega)]; simp; omega
        have a1 := incl_ok n' F (l.drop (hf l.length)) (i - hf l.length) (by simp; omega) (by simp; omega) (by simp; omega) (by omega) (all_drop hh _)
        have ll : (inclT (l.drop (hf l.length)) (i - hf l.length)).length ≤ 4096 := by
          have := (inclT_all _ (l.drop (hf l.length)) (i - hf l.length) (Nat.le_refl _) (by simp; omega) (all_drop hh _)).2
          simp at this; omega
        have g : (l.drop (hf l.length))[i - hf l.length]'(by simp; omega) = l[i] := by simp; congr 1; omega
        rw [if_neg hlt, last_snoc _ _ ll, idx_snoc, w, w2]
        rw [g] at a1
        have c : (0 ≤ (((inclT (l.drop (hf l.length)) (i - hf l.length)).length : Nat) : Int) ∧ (inclT (l.drop (hf l.length)) (i - hf l.length)).length ≤ (inclT (l.drop (hf l.length)) (i - hf l.length) ++ [rootT (l.take (hf l.length))]).length) = True := eq_true (by simp)
        rw [if_neg (by simp), if_neg (by rw [decide_eq_true_eq]; omega)]
        simp only [Int.toNat_natCast, c, if_true, List.take_left, Option.bind_some]
        rw [a1, Option.bind_some, M117_eq F (by omega) _ _ (hex_le x1) (hex_le x2)]; rfl
theorem cons_ok (r : List UInt8) : ∀ (n F : Nat) (l : Sums) (o : Nat) (b : Bool), l.length ≤ n → 1 ≤ o → o ≤ l.length → l.length ≤ 4096 → n + 33 ≤ F → l.all isHex = true → (b = true → r = rootT (l.take o)) →
    M80 F r (o : Int) (l.length : Int) b (consT l o b) = some (rootT (l.take o), rootT l, true)
  | n, 0, l, o, b, hn, h0, h1, h3, hF, hh, hr => by omega
  | n, F + 1, l, o, b, hn, h0, h1, h3, hF, hh, hr => by
    rw [M80, M80_B]
    by_cases ho : o = l.length
    · subst ho
      rw [if_pos (by simp), consT_end, List.take_length]
      rw [List.take_length] at hr
      cases b
      · rfl
      · rw [hr rfl]; rfl
    · have h2 : 2 ≤ l.length := by omega
      have hm := hf_lt h2 (by omega)
      have hI := hf_is h2 (show l.length ≤ 1073741824 by omega)
      have e1 := half_eq F (by omega) l.length h2 (by omega)
      obtain ⟨n', rfl⟩ : ∃ n', n = n' + 1 := ⟨n - 1, by omega⟩
      have x1 := rootT_hex (all_take hh (hf l.length)) (by simp; omega)
      have x2 := rootT_hex (all_drop hh (hf l.length)) (by simp; omega)
      rw [if_neg (by rw [beq_iff_eq]; omega), consT_two ho h2 (by omega), e1, rootT_two (l := l) h2 (by omega)]
      simp only [Option.bind_some]
      by_cases hlt : o ≤ hf l.length
      · have tt : (l.take (hf l.length)).take o = l.take o := by rw [List.take_take, Nat.min_eq_left hlt]
        have a1 := cons_ok r n' F (l.take (hf l.length)) o b (by simp; omega) h0 (by simp; omega) (by simp; omega) (by omega) (all_take hh _) (by rw [tt]; exact hr)
        have ll : (consT (l.take (hf l.length)) o b).length ≤ 4096 := by
          have := (consT_all _ (l.take (hf l.length)) o b (Nat.le_refl _) h0 (by simp; omega) (by simp; omega) (all_take hh _)).2
          simp at this; omega
        have g2 : (((l.take (hf l.length)).length : Nat) : Int) = ((hf l.length : Nat) : Int) := by simp; omega
        rw [if_pos hlt, last_snoc _ _ ll, idx_snoc]
        rw [g2, tt] at a1
        have c : (0 ≤ (((consT (l.take (hf l.length)) o b).length : Nat) : Int) ∧ (consT (l.take (hf l.length)) o b).length ≤ (consT (l.take (hf l.length)) o b ++ [rootT (l.drop (hf l.length))]).length) = True := eq_true (by simp)
        rw [if_neg (by simp), if_pos (by rw [decide_eq_true_eq]; omega)]
        simp only [Int.toNat_natCast, c, if_true, List.take_left, Option.bind_some]
        rw [a1, Option.bind_some, M117_eq F (by omega) _ _ (hex_le x1) (hex_le x2)]; rfl
      · have w : w64 ((o : Int) - ((hf l.length : Nat) : Int)) = ((o - hf l.length : Nat) : Int) := by rw [w64_id (by omega) (by omega)]; omega
        have w2 : w64 (((l.length : Nat) : Int) - ((hf l.length : Nat) : Int)) = (((l.drop (hf l.length)).length : Nat) : Int) := by rw [w64_id (by omega) (by omega)]; simp; omega
        have a1 := cons_ok r n' F (l.drop (hf l.length)) (o - hf l.length) false (by simp; omega) (by omega) (by simp; omega) (by simp; omega) (by omega) (all_drop hh _) (by simp)
        have ll : (consT (l.drop (hf l.length)) (o - hf l.length) false).length ≤ 4096 := by
          have := (consT_all _ (l.drop (hf l.length)) (o - hf l.length) false (Nat.le_refl _) (by omega) (by simp; omega) (by simp; omega) (all_drop hh _)).2
          simp at this; omega
        have lo : (l.take o).length = o := by simp; omega
        have ho2 : hf o = hf l.length := (hf_is (a := o) (by omega) (by omega)).unique (hI.down (by omega) h1)
        have er : rootT (l.take o) = joinT (rootT (l.take (hf l.length))) (rootT ((l.drop (hf l.length)).take (o - hf l.length))) := by
          rw [rootT_two (by omega) (by omega), lo, ho2, List.take_take, Nat.min_eq_left (by omega), List.drop_take]
        have x3 := rootT_hex (all_take (all_drop hh (hf l.length)) (o - hf l.length)) (by simp; omega)
        rw [if_neg hlt, last_snoc _ _ ll, idx_snoc, w, w2, er]
        have c : (0 ≤ (((consT (l.drop (hf l.length)) (o - hf l.length) false).length : Nat) : Int) ∧ (consT (l.drop (hf l.length)) (o - hf l.length) false).length ≤ (consT (l.drop (hf l.length)) (o - hf l.length) false ++ [rootT (l.take (hf l.length))]).length) = True := eq_true (by simp)
        rw [if_neg (by simp), if_neg (by rw [decide_eq_true_eq]; omega)]
        simp only [Int.toNat_natCast, c, if_true, List.take_left, Option.bind_some]
        rw [a1, Option.bind_some, M117_eq F (by omega) _ _ (hex_le x1) (hex_le x3), Option.bind_some, M117_eq F (by omega) _ _ (hex_le x1) (hex_le x2)]; rfl
theorem sumsF_0 {l : Sums} (h : l.all isHex = true) : sumsF l = 0 := by unfold sumsF; rw [if_pos h]
theorem included_ok (F : Nat) (hF : 4200 ≤ F) (l : Sums) (i : Nat) (hi : i < l.length) (h3 : l.length ≤ 4096) (hh : l.all isHex = true) : M23 F (rootT l) l[i] (i : Int) (l.length : Int) (inclT l i) = some (true, 0) := by
  have hr := rootT_hex hh (by omega)
  have hx : isHex l[i] = true := List.all_eq_true.1 hh _ (List.getElem_mem hi)
  have hp := inclT_all _ l i (Nat.le_refl _) (by omega) hh
  have hlen := incl_log 12 l i (by simpa using h3) (by omega)
  unfold M23
  rw [M73_eq, Option.bind_some, hr, M73_eq, Option.bind_some, hx, M74_eq, if_neg (show ¬ (((inclT l i).length : Nat) : Int) > 64 by omega), sumsF_0 hp.1, incl_ok 4096 F l i hi h3 h3 (by omega) hh]
  rw [if_neg (by decide), if_neg (by decide), if_neg (by rw [decide_eq_true_eq]; omega), if_neg (by rw [decide_eq_true_eq]; omega), if_neg (by rw [decide_eq_true_eq]; omega), if_neg (by rw [decide_eq_true_eq]; omega)]
  simp only [Option.bind_some]
  rw [M76_eq F _ _ hr hr]
  simp
theorem consistent_ok (F : Nat) (hF : 4200 ≤ F) (l : Sums) (o : Nat) (h0 : 1 ≤ o) (h1 : o ≤ l.length) (h3 : l.length ≤ 4096) (hh : l.all isHex = true) : M25 F (rootT (l.take o)) (rootT l) (o : Int) (l.length : Int) (consT l o true) = some (true, 0) := by
  have hr := rootT_hex hh (by omega)
  have hx := rootT_hex (all_take hh o) (by simp; omega)
  have hp := consT_all _ l o true (Nat.le_refl _) h0 h1 (by omega) hh
  have hlen := cons_log 12 l o true (by simpa using h3) (by omega)
  unfold M25
  rw [M73_eq, Option.bind_some, hx, M73_eq, Option.bind_some, hr, M74_eq, if_neg (show ¬ (((consT l o true).length : Nat) : Int) > 64 by omega), sumsF_0 hp.1, cons_ok _ 4096 F l o true h3 h0 h1 h3 (by omega) hh (fun _ => rfl)]
  rw [if_neg (by decide), if_neg (by decide), if_neg (by rw [decide_eq_true_eq]; omega), if_neg (by rw [decide_eq_true_eq]; omega), if_neg (by rw [decide_eq_true_eq]; omega), if_neg (by rw [decide_eq_true_eq]; omega)]
  simp only [Option.bind_some]
  rw [M76_eq F _ _ hx hx]
  simp only [Option.bind_some]
  rw [M76_eq F _ _ hr hr]
  simp
theorem includeF_0 {l : Sums} {i s : Int} (h : (includeF l i s).2 = 0) : l.length ≤ 4096 ∧ l.all isHex = true ∧ 1 ≤ s ∧ s ≤ (l.length : Int) ∧ 0 ≤ i ∧ i < s ∧ (includeF l i s).1 = inclT (l.take s.toNat) i.toNat := by
  unfold includeF at *
  by_cases h1 : leavesF l ≠ 0
  · rw [if_pos h1] at h; exact absurd h h1
  · rw [if_neg h1] at h ⊢
    have h0 := leavesF_0 (by omega : leavesF l = 0)
    by_cases h2 : s < 1 ∨ s > (l.length : Int) ∨ i < 0 ∨ i ≥ s
    · rw [if_pos h2] at h; exact absurd h (by decide)
    · rw [if_neg h2]; exact ⟨h0.1, h0.2, by omega, by omega, by omega, by omega, rfl⟩
theorem consistF_0 {l : Sums} {i s : Int} (h : (consistF l i s).2 = 0) : l.length ≤ 4096 ∧ l.all isHex = true ∧ 1 ≤ s ∧ s ≤ (l.length : Int) ∧ 1 ≤ i ∧ i ≤ s ∧ (consistF l i s).1 = consT (l.take s.toNat) i.toNat true := by
  unfold consistF at *
  by_cases h1 : leavesF l ≠ 0
  · rw [if_pos h1] at h; exact absurd h h1
  · rw [if_neg h1] at h ⊢
    have h0 := leavesF_0 (by omega : leavesF l = 0)
    by_cases h2 : s < 1 ∨ s > (l.length : Int) ∨ i < 1 ∨ i > s
    · rw [if_pos h2] at h; exact absurd h (by decide)
    · rw [if_neg h2]; exact ⟨h0.1, h0.2, by omega, by omega, by omega, by omega, rfl⟩
theorem rootF_take {l : Sums} {n : Nat} (h3 : l.length ≤ 4096) (hh : l.all isHex = true) : rootF (l.take n) = (rootT (l.take n), 0) := by
  unfold rootF
  rw [if_neg (by rw [leavesF_is (by simp; omega) (all_take hh _)]; decide)]
theorem pl_10 (a1 : Sums) (a2 a3 a4 : Int) (hl : ∀ x, x ∈ a1 → x.length ≤ maxLen) : ∃ F, M10 F a1 a2 a3 a4 = some true := by
  refine ⟨4200, ?_⟩
  have hF : 4200 ≤ 4200 := by omega
  unfold M10
  rw [M31_eq _ hF, M32_eq _ hF _ _ _ hl, M33_eq _ hF, M34_eq _ hF _ _ _ hl, M18_eq 4200 (by omega)]
  simp only [Option.bind_some, jn_def, bne_self_eq_false, Bool.false_eq_true, if_false, M29_eq _ hF]
  have A : (if ((includeF a1 a2 a4).2 == 0) = true then if 0 ≤ a4 ∧ a4.toNat ≤ a1.length then (idx a1 a2).bind fun x20 => (M23 4200 (rootF (a1.take a4.toNat)).1 x20 a2 a4 (includeF a1 a2 a4).1).bind fun y22 => if (((rootF (a1.take a4.toNat)).2) != 0) = true then some false
      else if ((y22.2) != 0) = true then some false else if (!(y22.1)) = true then some false else some true else none else some true) = some true := by
    by_cases h : (includeF a1 a2 a4).2 = 0
    · obtain ⟨b1, b2, b3, b4, b5, b6, b7⟩ := includeF_0 h
      rw [if_pos (by rw [h]; rfl), if_pos (by omega), b7, rootF_take b1 b2]
      obtain ⟨i, rfl⟩ : ∃ i : Nat, a2 = i := ⟨a2.toNat, by omega⟩
      obtain ⟨s, rfl⟩ : ∃ s : Nat, a4 = s := ⟨a4.toNat, by omega⟩
      have hi : i < a1.length := by omega
      have q := included_ok 4200 hF (a1.take s) i (by simp; omega) (by simp; omega) (all_take b2 _)
      have g1 : (a1.take s)[i]'(by simp; omega) = a1[i] := by simp
      have g2 : (((a1.take s).length : Nat) : Int) = (s : Int) := by simp; omega
      rw [g1, g2] at q
      simp only [Int.toNat_natCast]
      rw [idx_nat hi, Option.bind_some, q]; rfl
    · rw [if_neg (by simpa using h)]
  have B : (if ((consistF a1 a3 a4).2 == 0) = true then if 0 ≤ a4 ∧ a4.toNat ≤ a1.length then if 0 ≤ a3 ∧ a3.toNat ≤ a1.length then (M25 4200 (rootF (a1.take a3.toNat)).1 (rootF (a1.take a4.toNat)).1 a3 a4 (consistF a1 a3 a4).1).bind fun y35 => if (((rootF (a1.take a4.toNat)).2) != 0) = true then some false
      else if (((rootF (a1.take a3.toNat)).2) != 0) = true then some false else if ((y35.2) != 0) = true then some false else if (!(y35.1)) = true then some false else some true else none else none else some true) = some true := by
    by_cases h : (consistF a1 a3 a4).2 = 0
    · obtain ⟨b1, b2, b3, b4, b5, b6, b7⟩ := consistF_0 h
      rw [if_pos (by rw [h]; rfl), if_pos (by omega), if_pos (by omega), b7, rootF_take b1 b2, rootF_take b1 b2]
      obtain ⟨o, rfl⟩ : ∃ o : Nat, a3 = o := ⟨a3.toNat, by omega⟩
      obtain ⟨s, rfl⟩ : ∃ s : Nat, a4 = s := ⟨a4.toNat, by omega⟩
      have q := consistent_ok 4200 hF (a1.take s) o (by omega) (by simp; omega) (by simp; omega) (all_take b2 _)
      have g1 : (a1.take s).take o = a1.take o := by rw [List.take_take, Nat.min_eq_left (by omega)]
      have g2 : (((a1.take s).length : Nat) : Int) = (s : Int) := by simp; omega
      rw [g1, g2] at q
      simp only [Int.toNat_natCast]
      rw [q]; rfl
    · rw [if_neg (by simpa using h)]
  rw [B]
  exact A
end Go.Proofs.YtihfhmibfhkoeaaDoor
