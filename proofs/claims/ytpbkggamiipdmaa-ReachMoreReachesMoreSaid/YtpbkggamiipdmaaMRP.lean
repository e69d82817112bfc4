/- Part of the proof: RP. -/
import Derived.Test.YtpbkggamiipdmaaMRX
import Derived.Test.YtpbkggamiipdmaaMKW
import Derived.KernelRfl
namespace Go.Proofs.Ytpbkggamiipdmaa
open Go Go.Pv
set_option linter.unusedVariables false
set_option linter.unusedSimpArgs false
set_option maxRecDepth 100000
theorem methE_ok : ∀ {l : List Tx} {p : Option Tx}, (∀ b, p = some b → ∀ x, x ∈ l → Op.bytesLess b x = true) → l.Pairwise (fun a b => Op.bytesLess a b = true) → (∀ x, x ∈ l → nm x = true) → methE p l = 0
  | [], p, _, _, _ => rfl
  | s :: l, p, h1, h2, h3 => by
    have h2 := List.pairwise_cons.1 h2
    have : nme s p = 0 := by
      unfold nme
      rw [h3 s (by simp)]
      cases p with
      | none => rfl
      | some b =>
        have := le_iff.2 (h1 b rfl s (by simp))
        simp [this]
    rw [methE, if_neg (by simp [this])]
    exact methE_ok (fun b hb x hx => by simp at hb; subst hb; exact h2.1 x hx) h2.2 (fun x hx => h3 x (List.mem_cons_of_mem _ hx))
theorem feE_sub {l l' : List Tx} (h : feE l = 0) (hs : l'.Sublist l) : feE l' = 0 := by
  unfold feE at h ⊢
  split at h
  · simp at h
  · have := hs.length_le
    rw [if_neg (by omega)]
    obtain ⟨_, h2, h3⟩ := methE_zero h
    exact methE_ok (by simp) (h2.sublist hs) (fun x hx => h3 x (hs.subset hx))
theorem M3_L1_eq (F : Nat) (leave : List Bool) (k : List Tx → Option Bool) : ∀ (l : List Tx) (n : Nat) (o : List Tx), (o.length + l.length) * 16 ≤ 140737488355328 → ∃ r, M3_L1 F leave k l n o = k (o ++ r) ∧ r.Sublist l
  | [], n, o, _ => ⟨[], by simp [M3_L1], .slnil⟩
  | x :: l, n, o, h => by
    simp only [List.length_cons] at h
    have e : ((n : Int) + 1) = ((n + 1 : Nat) : Int) := rfl
    rw [M3_L1]
    simp only [jn_def, e]
    have yes : ∃ r, (if (o ++ ([x] : List Tx)).length * 16 ≤ 140737488355328 then M3_L1 F leave k l ((n + 1 : Nat) : Int) (o ++ ([x] : List Tx)) else none) = k (o ++ r) ∧ r.Sublist (x :: l) := by
      rw [if_pos (by simp; omega)]
      obtain ⟨r, r1, r2⟩ := M3_L1_eq F leave k l (n + 1) (o ++ [x]) (by simp; omega)
      exact ⟨x :: r, by rw [r1]; simp, r2.cons_cons x⟩
    have no : ∃ r, M3_L1 F leave k l ((n + 1 : Nat) : Int) o = k (o ++ r) ∧ r.Sublist (x :: l) := by
      obtain ⟨r, r1, r2⟩ := M3_L1_eq F leave k l (n + 1) o (by omega)
      exact ⟨r, r1, r2.cons x⟩
    by_cases hn : n < leave.length
    · rw [if_f (by omega), idx_nat hn, Option.bind_some]
      cases leave[n]
      · rw [if_pos (by simp)]; exact yes
      · rw [if_neg (by simp)]; exact no
    · rw [if_t (by omega)]; exact yes
theorem M12_eq (F : Nat) {a b : List Tx} (h : ∀ s, s ∈ a → s ∈ b) : M12 F a b = some true := by
  unfold M12
  rw [jn_def]
  induction a with
  | nil => rfl
  | cons x a ih =>
    rw [M12_L1, M16_eq, Option.bind_some, if_neg (by simpa using h x (by simp))]
    exact ih (fun s hs => h s (List.mem_cons_of_mem _ hs))
theorem M10_err (F : Nat) (g : TGraph) (how : Int) (fs : List Tx) (hg : okTGraph g) (hfs : ∀ x, x ∈ fs → x.length ≤ maxLen) (hl : fs.length ≤ maxLen) (h : opnE g how fs ≠ 0) : ∃ y, M10 F g how fs = some (y, opnE g how fs) := by
  unfold M10 M33
  rw [M50_eq F g hg, Option.bind_some, M63_eq F fs hfs hl, Option.bind_some]
  unfold opnE at h ⊢
  by_cases h1 : chk false g = 0
  · rw [if_neg (show ¬ chk false g ≠ 0 by simp [h1])] at h ⊢
    rw [if_neg (by simp [h1])]
    by_cases h2 : feE fs = 0
    · rw [if_neg (show ¬ feE fs ≠ 0 by simp [h2])] at h ⊢
      rw [if_neg (by simp [h2])]
      split at h
      · exact absurd rfl h
      · rename_i h3
        rw [if_neg h3, if_pos (by simp; omega), if_pos (by simp; omega)]
        exact ⟨[], rfl⟩
    · rw [if_pos h2, if_pos (by simpa using h2), Option.bind_some, if_pos (by simpa using h2)]
      exact ⟨[], rfl⟩
  · rw [if_pos h1, if_pos (by simpa using h1), Option.bind_some, if_pos (by simpa using h1)]
    exact ⟨[], rfl⟩
theorem opn_zero {g : TGraph} {how : Int} {fs : List Tx} (h : opnE g how fs = 0) : chk false g = 0 ∧ feE fs = 0 := by
  unfold opnE at h
  split at h
  · rename_i h1; exact absurd h h1
  · rename_i h1
    split at h
    · rename_i h2; exact absurd h h2
    · rename_i h2; exact ⟨by simpa using h1, by simpa using h2⟩
theorem opn_how {g : TGraph} {fs : List Tx} (h1 : chk false g = 0) (h2 : feE fs = 0) {how : Int} (h : how = 1 ∨ how = 2) : opnE g how fs = 0 := by
  unfold opnE
  rw [if_neg (by simp [h1]), if_neg (by simp [h2]), if_pos h]
theorem opensV_25W : OpensV Try.prog 25 (fun l => V.lst 1 (l.map encS)) (fun x : (List (List UInt8)) => ((x.map (fun x : (List UInt8) => (x.length + 1))).sum + 1)) (fun x : (List (List UInt8)) => ((∀ a, a ∈ x → (fun x : (List UInt8) => (x.length ≤ maxLen)) a) ∧ x.length ≤ maxLen) ∧ x.length * Try.prog.bytesOf 9 ≤ reachBytes) :=
  opensV_cell (by kernel_rfl) (opens_sliceW (show Try.prog.underlying 25 = some (.slice 9) by kernel_rfl) opens_25)
theorem plain_3 (g : TGraph) (fs : List Tx) (leave : List Bool) (hg : okTGraph g) (hfs0 : ((∀ a, a ∈ fs → (fun x : List UInt8 => x.length ≤ maxLen) a) ∧ fs.length ≤ maxLen) ∧ fs.length * Try.prog.bytesOf 9 ≤ reachBytes) (hlv : (∀ a, a ∈ leave → (fun x : Bool => True) a) ∧ leave.length ≤ maxLen) : ∃ F, M3 F g fs leave = some true := by
  obtain ⟨hfs, hsz⟩ := hfs0
  have h16 : Try.prog.bytesOf 9 = 16 := by kernel_rfl
  rw [h16] at hsz
  have hsz : fs.length * 16 ≤ 140737488351232 := hsz
  refine ⟨20003, ?_⟩
  generalize hF : 20003 = F
  unfold M3
  rw [jn_def]
  obtain ⟨r, r1, r2⟩ := M3_L1_eq F leave _ fs 0 [] (by simp; omega)
  rw [show ((0 : Nat) : Int) = 0 from rfl] at r1
  rw [r1, List.nil_append]
  have hr : ∀ x, x ∈ r → x.length ≤ maxLen := fun x hx => hfs.1 x (r2.subset hx)
  obtain ⟨a1, e1, d1⟩ := M9_eq F g 1 fs hg hfs.1 (by omega)
  obtain ⟨a2, e2, d2⟩ := M9_eq F g 1 r hg hr (by omega)
  obtain ⟨a3, e3, d3⟩ := M9_eq F g 2 fs hg hfs.1 (by omega)
  obtain ⟨a4, e4, d4⟩ := M9_eq F g 2 r hg hr (by omega)
  simp only [e1, e2, e3, e4, Option.bind_some]
  by_cases h0 : opnE g 1 fs = 0
  · obtain ⟨c1, c2⟩ := opn_zero h0
    have c3 := feE_sub c2 r2
    have h2 := opn_how c1 c3 (how := 1) (.inl rfl)
    have h3 := opn_how c1 c2 (how := 2) (.inr rfl)
    have h4 := opn_how c1 c3 (how := 2) (.inr rfl)
    rw [if_neg (by simp [h0]), if_neg (by simp [h2]), if_neg (by simp [h3]), if_neg (by simp [h4])]
    have on_sub : ∀ (x1 x2 : Int) x, onB (wOf g x1 r) x = true → onB (wOf g x2 fs) x = true := fun x1 x2 x h => by
      rw [onB_eq] at h ⊢
      simp only [Bool.or_eq_true, decide_eq_true_eq, List.contains_iff_mem] at h ⊢
      exact h.imp id (fun h => r2.subset h)
    have on_same : ∀ (x1 x2 : Int) (l : List Tx) x, onB (wOf g x1 l) x = true → onB (wOf g x2 l) x = true := fun x1 x2 l x h => by
      rw [onB_eq] at h ⊢; exact h
    rw [M12_eq F (fun s hs => by
      obtain ⟨i, hi, h1, h2'⟩ := (d2 h2 s).1 hs
      exact (d1 h0 s).2 ⟨i, hi, RR.mono (on_sub 1 1) (fun h => h) h1, h2'⟩), Option.bind_some, if_pos rfl]
    rw [M12_eq F (fun s hs => by
      obtain ⟨i, hi, h1, h2'⟩ := (d3 h3 s).1 hs
      exact (d1 h0 s).2 ⟨i, hi, RR.mono (on_same 2 1 fs) (fun h => by simp [wOf] at h) h1, h2'⟩), Option.bind_some, if_pos rfl]
    rw [M12_eq F (fun s hs => by
      obtain ⟨i, hi, h1, h2'⟩ := (d4 h4 s).1 hs
      exact (d3 h3 s).2 ⟨i, hi, RR.mono (on_sub 2 2) (fun h => h) h1, h2'⟩), Option.bind_some, if_pos rfl]
    rw [M12_eq F (fun s hs => by
      obtain ⟨i, hi, h1, h2'⟩ := (d4 h4 s).1 hs
      exact (d2 h2 s).2 ⟨i, hi, RR.mono (on_same 2 1 r) (fun h => by simp [wOf] at h) h1, h2'⟩), Option.bind_some, if_pos rfl]
    rfl
  · rw [if_pos (by simpa using h0)]
    obtain ⟨y, hy⟩ := M10_err F g 1 fs hg hfs.1 hfs.2 h0
    rw [hy, Option.bind_some, if_pos (by simp)]
    rfl
end Go.Proofs.Ytpbkggamiipdmaa
