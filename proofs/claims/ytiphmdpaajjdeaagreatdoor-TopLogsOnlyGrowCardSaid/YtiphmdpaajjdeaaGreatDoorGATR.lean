/- Part of the proof: ATR. -/
import Derived.Test.YtiphmdpaajjdeaaGreatDoorGATI
import Derived.Test.YtiphmdpaajjdeaaGreatDoorGPvX
namespace Go.Proofs.YtiphmdpaajjdeaaGreatDoor
open Go Go.Pv
set_option linter.unusedVariables false
set_option linter.unusedSimpArgs false
set_option maxRecDepth 100000
def IsHalf (a h : Nat) : Prop := (∃ k, h = 2 ^ k) ∧ h < a ∧ a ≤ 2 * h
theorem IsHalf.unique {a h h' : Nat} (p : IsHalf a h) (q : IsHalf a h') : h = h' := by
  obtain ⟨⟨k, rfl⟩, p1, p2⟩ := p
  obtain ⟨⟨k', rfl⟩, q1, q2⟩ := q
  rcases Nat.lt_trichotomy k k' with h | h | h
  · have := Nat.pow_le_pow_right (n := 2) (by omega) (show k + 1 ≤ k' by omega)
    rw [Nat.pow_succ] at this; omega
  · rw [h]
  · have := Nat.pow_le_pow_right (n := 2) (by omega) (show k' + 1 ≤ k by omega)
    rw [Nat.pow_succ] at this; omega
theorem IsHalf.down {a b h : Nat} (p : IsHalf a h) (h1 : h < b) (h2 : b ≤ a) : IsHalf b h := ⟨p.1, h1, by have := p.2.2; omega⟩
theorem M69_L1_half (F a : Nat) (h3 : a ≤ 1073741824) : ∀ (m k : Nat), 2 ^ k < a → a ≤ 2 ^ k * 2 ^ m → ∃ h, M69_L1 F (a : Int) (fun n3 => some n3) (m + 1) ((2 ^ k : Nat) : Int) = some ((h : Nat) : Int) ∧ IsHalf a h
  | 0, k, hj, hm => by omega
  | m + 1, k, hj, hm => by
    generalize hq : 2 ^ k = q at *
    have e1 : w64 (2 * (q : Int)) = 2 * (q : Int) := w64_id (by omega) (by omega)
    have e2 : w64 ((q : Int) * 2) = (q : Int) * 2 := w64_id (by omega) (by omega)
    by_cases hc : 2 * q < a
    · obtain ⟨h, e, hh⟩ := M69_L1_half F a h3 m (k + 1) (by rw [Nat.pow_succ]; omega) (by rw [Nat.pow_succ] at hm ⊢; rw [hq, Nat.mul_assoc, Nat.mul_comm 2]; exact hm)
      refine ⟨h, ?_, hh⟩
      rw [M69_L1, e1, e2, if_pos (by rw [decide_eq_true_eq]; omega)]
      have : ((2 ^ (k + 1) : Nat) : Int) = (q : Int) * 2 := by rw [Nat.pow_succ, hq]; omega
      rw [← this]; exact e
    · exact ⟨q, by rw [M69_L1, e1, if_neg (by rw [decide_eq_true_eq]; omega)], ⟨k, hq.symm⟩, hj, by omega⟩
theorem half_at (F : Nat) (hF : 31 ≤ F) (a : Nat) (h2 : 2 ≤ a) (h3 : a ≤ 1073741824) : ∃ h : Nat, M69 F (a : Int) = some (h : Int) ∧ IsHalf a h := by
  obtain ⟨G, rfl⟩ : ∃ G, F = G + 1 := ⟨F - 1, by omega⟩
  unfold M69
  rw [jn_def]
  refine M69_L1_half (G + 1) a h3 G 0 (by simp; omega) ?_
  have : (2 : Nat) ^ 30 ≤ 2 ^ G := Nat.pow_le_pow_right (n := 2) (by omega) (show 30 ≤ G by omega)
  have e : (2 : Nat) ^ 30 = 1073741824 := by decide
  omega
theorem half_ex (a : Nat) : ∃ h, 2 ≤ a → a ≤ 1073741824 → IsHalf a h := by
  by_cases h2 : 2 ≤ a ∧ a ≤ 1073741824
  · obtain ⟨h, _, hh⟩ := half_at 31 (by omega) a h2.1 h2.2
    exact ⟨h, fun _ _ => hh⟩
  · exact ⟨0, fun h1 h3 => absurd ⟨h1, h3⟩ h2⟩
noncomputable def hf (a : Nat) : Nat := (half_ex a).choose
theorem hf_is {a : Nat} (h2 : 2 ≤ a) (h3 : a ≤ 1073741824) : IsHalf a (hf a) := (half_ex a).choose_spec h2 h3
theorem half_eq (F : Nat) (hF : 31 ≤ F) (a : Nat) (h2 : 2 ≤ a) (h3 : a ≤ 1073741824) : M69 F (a : Int) = some ((hf a : Nat) : Int) := by
  obtain ⟨h, e, hh⟩ := half_at F hF a h2 h3
  rw [e, hh.unique (hf_is h2 h3)]
theorem hf_lt {a : Nat} (h2 : 2 ≤ a) (h3 : a ≤ 1073741824) : 1 ≤ hf a ∧ hf a < a := by
  obtain ⟨⟨k, hk⟩, h, _⟩ := hf_is h2 h3
  have := Nat.pow_pos (n := k) (show 0 < 2 by omega)
  omega
abbrev Sums := List (List UInt8)
def sumE : List UInt8 := hex16 (fnv []).toNat
noncomputable def rootT (l : Sums) : List UInt8 :=
  if h : 2 ≤ l.length then
    if hm : 1 ≤ hf l.length ∧ hf l.length < l.length then joinT (rootT (l.take (hf l.length))) (rootT (l.drop (hf l.length))) else []
  else l.headD sumE
termination_by l.length
decreasing_by
  · simp; omega
  · simp; omega
theorem rootT_two {l : Sums} (h2 : 2 ≤ l.length) (h3 : l.length ≤ 1073741824) : rootT l = joinT (rootT (l.take (hf l.length))) (rootT (l.drop (hf l.length))) := by
  rw [rootT, dif_pos h2, dif_pos (hf_lt h2 h3)]
theorem rootT_one (x : List UInt8) : rootT [x] = x := by rw [rootT, dif_neg (by simp)]; rfl
theorem rootT_nil : rootT [] = sumE := by rw [rootT, dif_neg (by simp)]; rfl
theorem rootT_hex {l : Sums} (h : l.all isHex = true) (h3 : l.length ≤ 1073741824) : isHex (rootT l) = true := by
  match l with
  | [] => rw [rootT_nil]; exact hex16_hex _
  | [x] => rw [rootT_one]; simpa using h
  | x :: y :: l => rw [rootT_two (by simp) h3]; exact joinT_hex _ _
theorem all_take {l : Sums} (h : l.all isHex = true) (n : Nat) : (l.take n).all isHex = true := by
  rw [List.all_eq_true] at *; exact fun y hy => h y (List.mem_of_mem_take hy)
theorem all_drop {l : Sums} (h : l.all isHex = true) (n : Nat) : (l.drop n).all isHex = true := by
  rw [List.all_eq_true] at *; exact fun y hy => h y (List.mem_of_mem_drop hy)
theorem hex_le {x : List UInt8} (h : isHex x = true) : x.length ≤ 16 := by rw [isHex_len h]; omega
theorem root_eq : ∀ (n F : Nat) (l : Sums), l.length ≤ n → l.length ≤ 1073741824 → n + 32 ≤ F → l.all isHex = true → M40 F l = some (rootT l)
  | n, 0, l, hn, h3, hF, hh => by omega
  | n, F + 1, l, hn, h3, hF, hh => by
    rw [M40, M40_B]
    match l with
    | [] =>
      rw [if_pos (by simp), M68_eq F [] (by simp) (by omega), rootT_nil]; rfl
    | [x] => rw [if_neg (by simp), if_pos (by simp), rootT_one]; rfl
    | x :: y :: t =>
      have h2 : 2 ≤ (x :: y :: t).length := by simp
      generalize x :: y :: t = l at *
      have hm := hf_lt h2 h3
      have e1 := half_eq F (by omega) l.length h2 h3
      obtain ⟨n', rfl⟩ : ∃ n', n = n' + 1 := ⟨n - 1, by omega⟩
      have a1 := root_eq n' F (l.take (hf l.length)) (by simp; omega) (by simp; omega) (by omega) (all_take hh _)
      have a2 := root_eq n' F (l.drop (hf l.length)) (by simp; omega) (by simp; omega) (by omega) (all_drop hh _)
      have x1 := rootT_hex (all_take hh (hf l.length)) (by simp; omega)
      have x2 := rootT_hex (all_drop hh (hf l.length)) (by simp; omega)
      have c : (0 ≤ ((hf l.length : Nat) : Int) ∧ hf l.length ≤ l.length) = True := eq_true (by omega)
      rw [rootT_two h2 h3, if_neg (by rw [beq_iff_eq]; omega), if_neg (by rw [beq_iff_eq]; omega), e1]
      simp only [Option.bind_some, Int.toNat_natCast, c, if_true]
      rw [a1, Option.bind_some, a2, Option.bind_some, M70_eq F (by omega) _ _ (hex_le x1) (hex_le x2)]; rfl
noncomputable def inclT (l : Sums) (i : Nat) : Sums :=
  if h : 2 ≤ l.length then
    if hm : 1 ≤ hf l.length ∧ hf l.length < l.length then
      if i < hf l.length then inclT (l.take (hf l.length)) i ++ [rootT (l.drop (hf l.length))] else inclT (l.drop (hf l.length)) (i - hf l.length) ++ [rootT (l.take (hf l.length))]
    else []
  else []
termination_by l.length
decreasing_by
  · simp; omega
  · simp; omega
theorem inclT_two {l : Sums} {i : Nat} (h2 : 2 ≤ l.length) (h3 : l.length ≤ 1073741824) :
    inclT l i = if i < hf l.length then inclT (l.take (hf l.length)) i ++ [rootT (l.drop (hf l.length))] else inclT (l.drop (hf l.length)) (i - hf l.length) ++ [rootT (l.take (hf l.length))] := by
  rw [inclT, dif_pos h2, dif_pos (hf_lt h2 h3)]
theorem inclT_one {l : Sums} {i : Nat} (h : l.length ≤ 1) : inclT l i = [] := by rw [inclT, dif_neg (by omega)]
theorem inclT_all : ∀ (n : Nat) (l : Sums) (i : Nat), l.length ≤ n → l.length ≤ 1073741824 → l.all isHex = true → (inclT l i).all isHex = true ∧ (inclT l i).length ≤ l.length
  | 0, l, i, hn, h3, hh => by rw [inclT_one (by omega)]; simp
  | n + 1, l, i, hn, h3, hh => by
    by_cases h2 : 2 ≤ l.length
    · have hm := hf_lt h2 h3
      rw [inclT_two h2 h3]
      have x1 := rootT_hex (all_take hh (hf l.length)) (by simp; omega)
      have x2 := rootT_hex (all_drop hh (hf l.length)) (by simp; omega)
      split
      · have a1 := inclT_all n (l.take (hf l.length)) i (by simp; omega) (by simp; omega) (all_take hh _)
        rw [List.all_append, a1.1, List.length_append]
        refine ⟨by simp [x2], ?_⟩
        have := a1.2; simp at this ⊢; omega
      · have a1 := inclT_all n (l.drop (hf l.length)) (i - hf l.length) (by simp; omega) (by simp; omega) (all_drop hh _)
        rw [List.all_append, a1.1, List.length_append]
        refine ⟨by simp [x1], ?_⟩
        have := a1.2; simp at this ⊢; omega
    · rw [inclT_one (by omega)]; simp
theorem incl_len {l : Sums} {i : Nat} (h3 : l.length ≤ 4096) (hh : l.all isHex = true) (x : List UInt8) : (inclT l i ++ ([x] : Sums)).length * 16 ≤ 140737488355328 := by
  have := (inclT_all l.length l i (Nat.le_refl _) (by omega) hh).2
  simp; omega
theorem incl_at : ∀ (n F : Nat) (l : Sums) (i : Nat), l.length ≤ n → i < l.length → l.length ≤ 4096 → n + 33 ≤ F → l.all isHex = true → M71 F l (i : Int) = some (inclT l i)
  | n, 0, l, i, hn, hi, h3, hF, hh => by omega
  | n, F + 1, l, i, hn, hi, h3, hF, hh => by
    rw [M71, M71_B]
    by_cases h1 : l.length = 1
    · rw [if_pos (by simp; omega), inclT_one (by omega)]
    · have h2 : 2 ≤ l.length := by omega
      have hm := hf_lt h2 (by omega)
      have e1 := half_eq F (by omega) l.length h2 (by omega)
      obtain ⟨n', rfl⟩ : ∃ n', n = n' + 1 := ⟨n - 1, by omega⟩
      have r1 := root_eq n' F (l.take (hf l.length)) (by simp; omega) (by simp; omega) (by omega) (all_take hh _)
      have r2 := root_eq n' F (l.drop (hf l.length)) (by simp; omega) (by simp; omega) (by omega) (all_drop hh _)
      have c : (0 ≤ ((hf l.length : Nat) : Int) ∧ hf l.length ≤ l.length) = True := eq_true (by omega)
      rw [if_neg (by simp; omega), e1]
      simp only [Option.bind_some, Int.toNat_natCast, c, if_true]
      by_cases hlt : i < hf l.length
      · have a1 := incl_at n' F (l.take (hf l.length)) i (by simp; omega) (by simp; omega) (by simp; omega) (by omega) (all_take hh _)
        have q := incl_len (i := i) (show (l.take (hf l.length)).length ≤ 4096 by simp; omega) (all_take hh _) (rootT (l.drop (hf l.length)))
        rw [if_pos (by rw [decide_eq_true_eq]; omega), inclT_two h2 (by omega), if_pos hlt, a1, r2]
        simp only [Option.bind_some, if_pos q]; try trivial
      · have w : w64 ((i : Int) - ((hf l.length : Nat) : Int)) = ((i - hf l.length : Nat) : Int) := by rw [w64_id (by omega) (by omega)]; omega
        have a1 := incl_at n' F (l.drop (hf l.length)) (i - hf l.length) (by simp; omega) (by simp; omega) (by simp; omega) (by omega) (all_drop hh _)
        have q := incl_len (i := i - hf l.length) (show (l.drop (hf l.length)).length ≤ 4096 by simp; omega) (all_drop hh _) (rootT (l.take (hf l.length)))
        rw [if_neg (by rw [decide_eq_true_eq]; omega), inclT_two h2 (by omega), if_neg hlt, w, a1, r1]
        simp only [Option.bind_some, if_pos q]; try trivial
noncomputable def consT (l : Sums) (o : Nat) (b : Bool) : Sums :=
  if o = l.length then (if b = true then [] else [rootT l])
  else if h : 2 ≤ l.length then
    if hm : 1 ≤ hf l.length ∧ hf l.length < l.length then
      if o ≤ hf l.length then consT (l.take (hf l.length)) o b ++ [rootT (l.drop (hf l.length))] else consT (l.drop (hf l.length)) (o - hf l.length) false ++ [rootT (l.take (hf l.length))]
    else []
  else []
termination_by l.length
decreasing_by
  · simp; omega
  · simp; omega
theorem consT_end {l : Sums} {b : Bool} : consT l l.length b = if b = true then [] else [rootT l] := by rw [consT, if_pos rfl]
theorem consT_two {l : Sums} {o : Nat} {b : Bool} (ho : o ≠ l.length) (h2 : 2 ≤ l.length) (h3 : l.length ≤ 1073741824) :
    consT l o b = if o ≤ hf l.length then consT (l.take (hf l.length)) o b ++ [rootT (l.drop (hf l.length))] else consT (l.drop (hf l.length)) (o - hf l.length) false ++ [rootT (l.take (hf l.length))] := by
  rw [consT, if_neg ho, dif_pos h2, dif_pos (hf_lt h2 h3)]
theorem consT_all : ∀ (n : Nat) (l : Sums) (o : Nat) (b : Bool), l.length ≤ n → 1 ≤ o → o ≤ l.length → l.length ≤ 1073741824 → l.all isHex = true → (consT l o b).all isHex = true ∧ (consT l o b).length ≤ l.length
  | 0, l, o, b, hn, h0, h1, h3, hh => by omega
  | n + 1, l, o, b, hn, h0, h1, h3, hh => by
    by_cases ho : o = l.length
    · subst ho
      rw [consT_end]
      cases b
      · simp [rootT_hex hh h3]; omega
      · simp
    · have h2 : 2 ≤ l.length := by omega
      have hm := hf_lt h2 h3
      rw [consT_two ho h2 h3]
      have x1 := rootT_hex (all_take hh (hf l.length)) (by simp; omega)
      have x2 := rootT_hex (all_drop hh (hf l.length)) (by simp; omega)
      split
      · have a1 := consT_all n (l.take (hf l.length)) o b (by simp; omega) h0 (by simp; omega) (by simp; omega) (all_take hh _)
        rw [List.all_append, a1.1, List.length_append]
        refine ⟨by simp [x2], ?_⟩
        have := a1.2; simp at this ⊢; omega
      · have a1 := consT_all n (l.drop (hf l.length)) (o - hf l.length) false (by simp; omega) (by omega) (by simp; omega) (by simp; omega) (all_drop hh _)
        rw [List.all_append, a1.1, List.length_append]
        refine ⟨by simp [x1], ?_⟩
        have := a1.2; simp at this ⊢; omega
theorem cons_len {l : Sums} {o : Nat} {b : Bool} (h0 : 1 ≤ o) (h1 : o ≤ l.length) (h3 : l.length ≤ 4096) (hh : l.all isHex = true) (x : List UInt8) : (consT l o b ++ ([x] : Sums)).length * 16 ≤ 140737488355328 := by
  have := (consT_all l.length l o b (Nat.le_refl _) h0 h1 (by omega) hh).2
  simp; omega
theorem cons_at : ∀ (n F : Nat) (l : Sums) (o : Nat) (b : Bool), l.length ≤ n → 1 ≤ o → o ≤ l.length → l.length ≤ 4096 → n + 33 ≤ F → l.all isHex = true → M72 F l (o : Int) b = some (consT l o b)
  | n, 0, l, o, b, hn, h0, h1, h3, hF, hh => by omega
  | n, F + 1, l, o, b, hn, h0, h1, h3, hF, hh => by
    rw [M72, M72_B]
    by_cases ho : o = l.length
    · subst ho
      have r := root_eq n F l hn (by omega) (by omega) hh
      have q : ((((l.length : Nat) : Int) == ((l.length : Nat) : Int)) = true) = True := eq_true (by simp)
      simp only [q, if_true, consT_end, r]
      cases b <;> rfl
    · have h2 : 2 ≤ l.length := by omega
      have hm := hf_lt h2 (by omega)
      have e1 := half_eq F (by omega) l.length h2 (by omega)
      obtain ⟨n', rfl⟩ : ∃ n', n = n' + 1 := ⟨n - 1, by omega⟩
      have r1 := root_eq n' F (l.take (hf l.length)) (by simp; omega) (by simp; omega) (by omega) (all_take hh _)
      have r2 := root_eq n' F (l.drop (hf l.length)) (by simp; omega) (by simp; omega) (by omega) (all_drop hh _)
      have c : (0 ≤ ((hf l.length : Nat) : Int) ∧ hf l.length ≤ l.length) = True := eq_true (by omega)
      rw [if_neg (by simp; omega), e1]
      simp only [Option.bind_some, Int.toNat_natCast, c, if_true]
      by_cases hlt : o ≤ hf l.length
      · have a1 := cons_at n' F (l.take (hf l.length)) o b (by simp; omega) h0 (by simp; omega) (by simp; omega) (by omega) (all_take hh _)
        have q := cons_len (b := b) h0 (show o ≤ (l.take (hf l.length)).length by simp; omega) (show (l.take (hf l.length)).length ≤ 4096 by simp; omega) (all_take hh _) (rootT (l.drop (hf l.length)))
        rw [if_pos (by rw [decide_eq_true_eq]; omega), consT_two ho h2 (by omega), if_pos hlt, a1, r2]
        simp only [Option.bind_some, if_pos q]; try trivial
      · have w : w64 ((o : Int) - ((hf l.length : Nat) : Int)) = ((o - hf l.length : Nat) : Int) := by rw [w64_id (by omega) (by omega)]; omega
        have a1 := cons_at n' F (l.drop (hf l.length)) (o - hf l.length) false (by simp; omega) (by omega) (by simp; omega) (by simp; omega) (by omega) (all_drop hh _)
        have q := cons_len (b := false) (show 1 ≤ o - hf l.length by omega) (show o - hf l.length ≤ (l.drop (hf l.length)).length by simp; omega) (show (l.drop (hf l.length)).length ≤ 4096 by simp; omega) (all_drop hh _) (rootT (l.take (hf l.length)))
        rw [if_neg (by rw [decide_eq_true_eq]; omega), consT_two ho h2 (by omega), if_neg hlt, w, a1, r1]
        simp only [Option.bind_some, if_pos q]; try trivial
def leafT (t : List UInt8) : List UInt8 := hex16 (fnv (([0] : List UInt8) ++ t)).toNat
def leafF (t : List UInt8) : List UInt8 × Int := if (decide ((t.length : Int) > 1000000)) = true then ([], 3) else (leafT t, 0)
theorem M39_eq (F : Nat) (hF : 17 ≤ F) (t : List UInt8) (h : t.length ≤ 1000000) : M39 F t = some (leafT t) := by
  unfold M39
  rw [if_pos (by simp; omega), M68_eq F _ (by unfold maxLen; simp; omega) hF]; rfl
theorem M18_eq (F : Nat) (hF : 17 ≤ F) (t : List UInt8) : M18 F t = some (leafF t) := by
  unfold M18 leafF
  split
  · rfl
  · rename_i h; rw [decide_eq_true_eq] at h
    rw [M39_eq F hF t (by omega)]; rfl
end Go.Proofs.YtiphmdpaajjdeaaGreatDoor
