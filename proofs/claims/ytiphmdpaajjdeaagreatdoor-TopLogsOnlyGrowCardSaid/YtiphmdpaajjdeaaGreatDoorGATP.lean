/- Part of the proof: ATP. -/
import Derived.Test.YtiphmdpaajjdeaaGreatDoorGATS
namespace Go.Proofs.YtiphmdpaajjdeaaGreatDoor
open Go Go.Pv
set_option linter.unusedVariables false
set_option linter.unusedSimpArgs false
set_option maxRecDepth 100000
theorem leafT_hex (t : List UInt8) : isHex (leafT t) = true := hex16_hex _
theorem leaves_hex (l : Sums) : (l.map leafT).all isHex = true := by
  rw [List.all_eq_true]; intro x hx; obtain ⟨y, _, rfl⟩ := List.mem_map.1 hx; exact leafT_hex y
theorem M15_long {F : Nat} {t : List UInt8} {l : Sums} (h : t.length > 1000000 ∨ 4096 ≤ l.length) : M15 F t l = some (0, 3, l) := by
  unfold M15
  by_cases h1 : t.length > 1000000
  · rw [if_pos (by rw [decide_eq_true_eq]; omega)]
  · rw [if_neg (by rw [decide_eq_true_eq]; omega), if_pos (by rw [decide_eq_true_eq]; omega)]
theorem M15_add {F : Nat} (hF : 17 ≤ F) {t : List UInt8} {l : Sums} (h : t.length ≤ 1000000) (h2 : l.length < 4096) : ∃ i, M15 F t l = some (i, 0, l ++ [leafT t]) := by
  unfold M15
  rw [if_neg (by rw [decide_eq_true_eq]; omega), if_neg (by rw [decide_eq_true_eq]; omega), M39_eq F hF t h, Option.bind_some, if_pos (by simp; omega)]
  exact ⟨_, rfl⟩
theorem M17_eq {F : Nat} (hF : 4200 ≤ F) {l : Sums} {n : Nat} (hn : n ≤ l.length) (h3 : l.length ≤ 4096) (hh : l.all isHex = true) : M17 F (n : Int) l = some (rootT (l.take n), 0) := by
  unfold M17
  rw [if_neg (by rw [decide_eq_true_eq]; omega), if_neg (by rw [decide_eq_true_eq]; omega), if_pos (by omega), Int.toNat_natCast, root_eq 4096 F (l.take n) (by simp; omega) (by simp; omega) (by omega) (all_take hh _)]
  rfl
theorem sums_ok {F : Nat} {l : Sums} (h3 : l.length ≤ 4096) (hh : l.all isHex = true) : M44 F l 4096 = some 0 := by
  rw [M44_eq, if_neg (by omega), sumsF_0 hh]
theorem M19_eq {F : Nat} (hF : 4200 ≤ F) {l : Sums} {i s : Nat} (hi : i < s) (hs : s ≤ l.length) (h3 : l.length ≤ 4096) (hh : l.all isHex = true) : M19 F (i : Int) (s : Int) l = some (0, inclT (l.take s) i) := by
  unfold M19 M41
  rw [sums_ok h3 hh, Option.bind_some, if_neg (by decide), if_neg (by rw [decide_eq_true_eq]; omega), if_neg (by rw [decide_eq_true_eq]; omega), if_neg (by rw [decide_eq_true_eq]; omega), if_neg (by rw [decide_eq_true_eq]; omega), if_pos (by omega), Int.toNat_natCast,
    incl_at 4096 F (l.take s) i (by simp; omega) (by simp; omega) (by simp; omega) (by omega) (all_take hh _)]
  rfl
theorem M20_eq {F : Nat} (hF : 4200 ≤ F) {l : Sums} {o s : Nat} (ho : 1 ≤ o) (hi : o ≤ s) (hs : s ≤ l.length) (h3 : l.length ≤ 4096) (hh : l.all isHex = true) : M20 F (o : Int) (s : Int) l = some (0, consT (l.take s) o true) := by
  unfold M20 M42
  rw [sums_ok h3 hh, Option.bind_some, if_neg (by decide), if_neg (by rw [decide_eq_true_eq]; omega), if_neg (by rw [decide_eq_true_eq]; omega), if_neg (by rw [decide_eq_true_eq]; omega), if_neg (by rw [decide_eq_true_eq]; omega), if_pos (by omega), Int.toNat_natCast,
    cons_at 4096 F (l.take s) o true (by simp; omega) (by omega) (by simp; omega) (by simp; omega) (by omega) (all_take hh _)]
  rfl
theorem jn_two {c : Prop} [Decidable c] {f : List UInt8 → Option Bool} {a b : List UInt8} (h : ∀ s, f s = some true) : jn f (fun k => if c then k a else k b) = some true := by
  rw [jn_def]; split <;> exact h _
theorem loop4 {F : Nat} (hF : 17 ≤ F) {a1 : Sums} {a2 : Int} {a3 : List UInt8} {k : Sums → Sums → Option Bool}
    (hk : ∀ l2 : Sums, l2.length = a1.length → l2.all isHex = true → (∀ x, x ∈ a1 → x.length ≤ 1000000) → a1.length ≤ 4096 → k (a1.map leafT) l2 = some true) :
    ∀ (tl done l2 : Sums), a1 = done ++ tl → (∀ x, x ∈ done → x.length ≤ 1000000) → done.length ≤ 4096 → l2.length = done.length → l2.all isHex = true → M4_L1 F a1 a2 a3 k tl (done.length : Int) (done.map leafT) l2 = some true
  | [], done, l2, h1, h2, h3, h4, h5 => by
    rw [M4_L1]
    simp only [List.append_nil] at h1
    subst h1
    exact hk l2 h4 h5 h2 h3
  | x :: tl, done, l2, h1, h2, h3, h4, h5 => by
    have hx : idx a1 (done.length : Int) = some x := by rw [idx_nat (by rw [h1]; simp)]; subst h1; simp
    rw [M4_L1]
    by_cases hlong : x.length > 1000000 ∨ 4096 ≤ done.length
    · -- the text is too long, or the log is full
      have e1 : M15 F x (done.map leafT) = some (0, 3, done.map leafT) := M15_long (by rw [List.length_map]; exact hlong)
      rw [e1, Option.bind_some]
      refine jn_two (fun s => ?_)
      have e2 : ∃ r, M15 F s l2 = some r := by
        by_cases h : s.length > 1000000 ∨ 4096 ≤ l2.length
        · exact ⟨_, M15_long h⟩
        · obtain ⟨i, e⟩ := M15_add (l := l2) hF (show s.length ≤ 1000000 by omega) (by omega); exact ⟨_, e⟩
      obtain ⟨r, e2⟩ := e2
      simp only [e2, Option.bind_some]
      rw [if_pos (by simp)]
      split
      · rfl
      · unfold M16
        rw [Option.bind_some]
        split
        · rfl
        · rename_i hd
          rw [decide_eq_true_eq, List.length_map] at hd
          rw [hx, Option.bind_some, if_pos (by rw [decide_eq_true_eq]; omega)]; rfl
    · obtain ⟨i, e1⟩ := M15_add (F := F) (l := done.map leafT) hF (show x.length ≤ 1000000 by omega) (by rw [List.length_map]; omega)
      rw [e1, Option.bind_some]
      refine jn_two (fun s => ?_)
      by_cases h : s.length > 1000000
      · simp only [M15_long (F := F) (t := s) (l := l2) (.inl h), Option.bind_some]
        rw [if_neg (by simp), if_pos (by simp), if_pos (by rw [decide_eq_true_eq]; omega)]; rfl
      · obtain ⟨j, e2⟩ := M15_add (F := F) (l := l2) hF (show s.length ≤ 1000000 by omega) (by omega)
        simp only [e2, Option.bind_some]
        rw [if_neg (by simp), if_neg (by simp)]
        have := loop4 (a2 := a2) (a3 := a3) hF hk tl (done ++ [x]) (l2 ++ [leafT s]) (by rw [h1]; simp) (by
          intro y hy
          rcases List.mem_append.1 hy with hy | hy
          · exact h2 y hy
          · rw [List.mem_singleton.1 hy]; omega) (by simp; omega) (by simp; omega) (by rw [List.all_append, h5]; simp [leafT_hex])
        rw [List.map_append, List.length_append, List.length_singleton] at this
        simpa using this
theorem hexs_len {p : Sums} (h : p.all isHex = true) : ∀ x, x ∈ p → x.length ≤ maxLen := fun x hx => by
  have := hex_le (List.all_eq_true.1 h x hx); unfold maxLen; omega
theorem hex_max {x : List UInt8} (h : isHex x = true) : x.length ≤ maxLen := by have := hex_le h; unfold maxLen; omega
theorem ite_ok {c : Prop} [Decidable c] {A B : Option Bool} (ha : A = some true) (hb : ¬ c → B = some true) : (if c then A else B) = some true := by
  by_cases h : c
  · rw [if_pos h]; exact ha
  · rw [if_neg h]; exact hb h
theorem pl_4 (a1 : Sums) (a2 : Int) (a3 : List UInt8) (a4 a5 : Int) : ∃ F, M4 F a1 a2 a3 a4 a5 = some true := by
  refine ⟨4200, ?_⟩
  have hF : 4200 ≤ 4200 := Nat.le_refl _
  unfold M4
  unfold M14
  rw [Option.bind_some, Option.bind_some, jn_def]
  refine loop4 (F := 4200) (show 17 ≤ 4200 by omega) ?_ a1 [] [] rfl (fun x h => nomatch h) (Nat.zero_le _) rfl rfl
  intro l2 hl hh2 hlong h3
  unfold M16
  have e0 : (a1.map leafT).length = a1.length := List.length_map ..
  have hh := leaves_hex a1
  rw [Option.bind_some]
  generalize hl1 : a1.map leafT = l1 at *
  refine ite_ok rfl fun c1 => ite_ok rfl fun c2 => ite_ok rfl fun c3 => ite_ok rfl fun c4 => ite_ok rfl fun c5 => ?_
  simp only [beq_iff_eq, decide_eq_true_eq] at c1 c2 c3 c4 c5
  obtain ⟨o, rfl⟩ : ∃ n : Nat, a4 = n := ⟨a4.toNat, by omega⟩
  obtain ⟨i, rfl⟩ : ∃ n : Nat, a5 = n := ⟨a5.toNat, by omega⟩
  have hi : i < a1.length := by omega
  have hil : i < l1.length := by omega
  have hleaf : l1[i] = leafT a1[i] := by subst hl1; simp
  have hx : a1[i].length ≤ 1000000 := hlong _ (List.getElem_mem hi)
  rw [M17_eq hF (Nat.le_refl _) (by omega) hh, Option.bind_some, M17_eq hF (by omega) (by omega) hh, Option.bind_some, idx_nat hi, Option.bind_some, M18_eq _ (by omega), Option.bind_some]
  have hlf : leafF a1[i] = (leafT a1[i], 0) := by unfold leafF; rw [if_neg (by rw [decide_eq_true_eq]; omega)]
  rw [hlf, ← hleaf, M19_eq hF hil (Nat.le_refl _) (by omega) hh, Option.bind_some, M19_eq hF (show i < o by omega) (by omega) (by omega) hh, Option.bind_some, M20_eq hF (show 1 ≤ o by omega) (by omega) (Nat.le_refl _) (by omega) hh, Option.bind_some]
  rw [if_neg (show ¬ ((0 : Int) != 0) = true by decide), if_neg (show ¬ ((0 : Int) != 0) = true by decide), if_neg (show ¬ ((0 : Int) != 0) = true by decide)]
  simp only [List.take_length]
  have q1 := included_ok 4200 hF l1 i hil (by omega) hh
  have q2 := included_ok 4200 hF (l1.take o) i (by simp; omega) (by simp; omega) (all_take hh _)
  have q3 := consistent_ok 4200 hF l1 o (by omega) (by omega) (by omega) hh
  have g1 : (l1.take o)[i]'(by simp; omega) = l1[i] := by simp
  have g2 : (((l1.take o).length : Nat) : Int) = (o : Int) := by simp; omega
  rw [g1, g2] at q2
  rw [q1, Option.bind_some, q2, Option.bind_some, q3, Option.bind_some, if_neg (by decide), if_neg (by decide), if_neg (by decide)]
  have hl2 : (((l1.length : Nat)) : Int) = ((l2.length : Nat) : Int) := by omega
  rw [hl2, M17_eq hF (Nat.le_refl _) (by omega) hh2, Option.bind_some, M20_eq hF (show 1 ≤ o by omega) (by omega) (Nat.le_refl _) (by omega) hh2, Option.bind_some]
  simp only [List.take_length]
  have r1 := rootT_hex hh (by omega)
  have r2 := rootT_hex hh2 (by omega)
  have r3 := rootT_hex (all_take hh o) (by simp; omega)
  have rl : isHex l1[i] = true := List.all_eq_true.1 hh _ (List.getElem_mem hil)
  have p1 := consT_all _ l2 o true (Nat.le_refl _) (by omega) (by omega) (by omega) hh2
  have p2 := inclT_all _ l1 i (Nat.le_refl _) (by omega) hh
  obtain ⟨u, u1, u2⟩ := cons_eq 4200 (by omega) (rootT (l1.take o)) (rootT l2) (o : Int) ((l2.length : Nat) : Int) (consT l2 o true) (hex_max r3) (hex_max r2) (hexs_len p1.1)
  obtain ⟨v, v1, v2⟩ := incl_eq 4200 (by omega) (rootT l2) l1[i] (i : Int) ((l2.length : Nat) : Int) (inclT l1 i) (hex_max r2) (hex_max rl) (hexs_len p2.1)
  rw [u1, Option.bind_some, u2, Option.bind_some, v1, Option.bind_some, v2, Option.bind_some, if_pos (by simp), if_pos (by simp), if_pos (by simp), if_pos (by simp)]
  rfl
end Go.Proofs.YtiphmdpaajjdeaaGreatDoor
