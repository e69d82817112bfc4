/- Part of the proof: AHSrt. -/
import Derived.Test.YtiphmdpaajjdeaaGreatDoorHAHOpn
import Derived.Test.YtiphmdpaajjdeaaGreatDoorHPvY
namespace Go.Proofs.YtiphmdpaajjdeaaGreatDoor
open Go Go.Pv
set_option linter.unusedVariables false
def cmpI (a b : Int) : Int := if a < b then -1 else if b < a then 1 else 0
theorem M36_eq (F : Nat) (a b : Int) : M36 F a b = some (cmpI a b) := by
  unfold M36 M67 cmpI
  simp only [bne_self_eq_false, Option.bind_some, Bool.false_eq_true, if_false]
  by_cases h : a < b
  · rw [if_t h, if_pos h]
  · rw [if_f h, if_neg h]
    by_cases h2 : b < a
    · rw [if_t (by omega), if_pos h2]
    · rw [if_f (by omega), if_neg h2]
def wcmp (a b : TWindow) : Int := if cmpI a.From b.From ≠ 0 then cmpI a.From b.From else if cmpS a.Advisory b.Advisory ≠ 0 then cmpS a.Advisory b.Advisory else cmpS a.Component b.Component
theorem M56_eq (F : Nat) (a b : TWindow) : M56 F a b = some (wcmp a b) := by
  unfold M56 M81
  simp only [M36_eq, M82_eq, Option.bind_some, jn_def, M81_L1]
  unfold wcmp
  by_cases h1 : cmpI a.From b.From = 0
  · by_cases h2 : cmpS a.Advisory b.Advisory = 0
    · by_cases h3 : cmpS a.Component b.Component = 0 <;> simp [h1, h2, h3]
    · simp [h1, h2]
  · simp [h1]
def wlt (a b : TWindow) : Bool := decide (a.From < b.From) || (decide (a.From = b.From) && (Op.bytesLess a.Advisory b.Advisory || (a.Advisory == b.Advisory && Op.bytesLess a.Component b.Component)))
theorem wlt_iff {a b : TWindow} : wlt a b = true ↔ a.From < b.From ∨ a.From = b.From ∧ (Op.bytesLess a.Advisory b.Advisory = true ∨ a.Advisory = b.Advisory ∧ Op.bytesLess a.Component b.Component = true) := by
  unfold wlt; simp
theorem cmpI_lt {a b : Int} : cmpI a b < 0 ↔ a < b := by unfold cmpI; split <;> (try split) <;> simp_all
theorem cmpI_eq {a b : Int} : cmpI a b = 0 ↔ a = b := by unfold cmpI; split <;> (try split) <;> simp_all <;> omega
theorem wcmp_lt (a b : TWindow) : decide (wcmp a b < 0) = wlt a b := by
  rw [Bool.eq_iff_iff, decide_eq_true_eq, wlt_iff]
  unfold wcmp
  by_cases h1 : a.From = b.From
  · rw [if_neg (by simp [cmpI_eq.2 h1])]
    by_cases h2 : a.Advisory = b.Advisory
    · rw [if_neg (by simp [cmpS_eq.2 h2]), cmpS_lt]
      simp [h1, h2, bl_irrefl]
    · rw [if_pos (fun e => h2 (cmpS_eq.1 e)), cmpS_lt]
      simp [h1, h2]
  · rw [if_pos (fun e => h1 (cmpI_eq.1 e)), cmpI_lt]
    simp [h1]
theorem wlt_tri (a b : TWindow) : wlt a b = true ∨ (a.From = b.From ∧ a.Advisory = b.Advisory ∧ a.Component = b.Component) ∨ wlt b a = true := by
  rw [wlt_iff, wlt_iff]
  rcases Int.lt_trichotomy a.From b.From with h | h | h
  · exact .inl (.inl h)
  · rcases bl_tri a.Advisory b.Advisory with g | g | g
    · exact .inl (.inr ⟨h, .inl g⟩)
    · rcases bl_tri a.Component b.Component with k | k | k
      · exact .inl (.inr ⟨h, .inr ⟨g, k⟩⟩)
      · exact .inr (.inl ⟨h, g, k⟩)
      · exact .inr (.inr (.inr ⟨h.symm, .inr ⟨g.symm, k⟩⟩))
    · exact .inr (.inr (.inr ⟨h.symm, .inl g⟩))
  · exact .inr (.inr (.inl h))
theorem wlt_tr {a b c : TWindow} (h : wlt a b = true) (g : wlt b c = true) : wlt a c = true := by
  rw [wlt_iff] at *
  rcases h with h | ⟨h, h'⟩ <;> rcases g with g | ⟨g, g'⟩
  · exact .inl (by omega)
  · exact .inl (by omega)
  · exact .inl (by omega)
  · refine .inr ⟨h.trans g, ?_⟩
    rcases h' with h' | ⟨e, h'⟩ <;> rcases g' with g' | ⟨e', g'⟩
    · exact .inl (bl_trans h' g')
    · exact .inl (by rw [← e']; exact h')
    · exact .inl (by rw [e]; exact g')
    · exact .inr ⟨e.trans e', bl_trans h' g'⟩
theorem wlt_irr (a : TWindow) : wlt a a = false := by unfold wlt; simp [bl_irrefl]
theorem wlt_eqv {a b c : TWindow} (h : a.From = b.From ∧ a.Advisory = b.Advisory ∧ a.Component = b.Component) : wlt a c = wlt b c := by unfold wlt; rw [h.1, h.2.1, h.2.2]
theorem worder : Ord (fun x y => some (wcmp x y)) wlt where
  cmp := fun x y => ⟨_, rfl, wcmp_lt x y⟩
  irr := wlt_irr
  tr := fun x y z => wlt_tr
  wk := fun x y z h g => by
    rcases wlt_tri x y with h1 | h1 | h1
    · rw [h1] at h; simp at h
    · rw [wlt_eqv h1]; exact g
    · cases hxz : wlt x z with
      | false => rfl
      | true => have := wlt_tr h1 hxz; rw [this] at g; simp at g
theorem E107_L2 (F : Nat) (a : Int) (k : List TWindow → Option (List TWindow)) : ∀ (n : Nat) (j : Int) (l : List TWindow), M107_L2 F a k n j l = insG_L2 (fun x y => some (wcmp x y)) F a k n j l := by
  intro n
  induction n with
  | zero => intros; rfl
  | succ n ih => intro j l; simp only [M107_L2, insG_L2, ih, M56_eq]
theorem E107_L1 (F : Nat) (a b : Int) : ∀ (n : Nat) (j : Int) (l : List TWindow), M107_L1 F a b n j l = insG_L1 (fun x y => some (wcmp x y)) F a b n j l := by
  intro n
  induction n with
  | zero => intros; rfl
  | succ n ih => intro j l; simp only [M107_L1, insG_L1, ih, E107_L2]
theorem E107 (F : Nat) (a b : Int) (l : List TWindow) : M107 F a b l = insG (fun x y => some (wcmp x y)) F a b l := by unfold M107 insG; rw [E107_L1]
theorem E137_L1 (F : Nat) (a b : Int) : ∀ (n : Nat) (j : Int) (l : List TWindow), M137_L1 F a b n j l = swpG_L1 F a b n j l := by
  intro n
  induction n with
  | zero => intros; rfl
  | succ n ih => intro j l; simp only [M137_L1, swpG_L1, ih]
theorem E137 (F : Nat) (a b n : Int) (l : List TWindow) : M137 F a b n l = swpG F a b n l := by unfold M137 swpG; rw [E137_L1]
theorem E122_L1 (F : Nat) (m : Int) (k : Int → List TWindow → Option (List TWindow)) : ∀ (n : Nat) (i j : Int) (l : List TWindow), M122_L1 F m k n i j l = rotG_L1 F m k n i j l := by
  intro n
  induction n with
  | zero => intros; rfl
  | succ n ih => intro i j l; simp only [M122_L1, rotG_L1, ih, E137]
theorem E122 (F : Nat) (a m b : Int) (l : List TWindow) : M122 F a m b l = rotG F a m b l := by unfold M122 rotG; simp only [E122_L1, E137]
theorem E108_L2 (F : Nat) (e : Int) (k : List TWindow → Option (List TWindow)) : ∀ (n : Nat) (j : Int) (l : List TWindow), M108_L2 F e k n j l = symG_L2 F e k n j l := by
  intro n
  induction n with
  | zero => intros; rfl
  | succ n ih => intro j l; simp only [M108_L2, symG_L2, ih]
theorem E108_L4 (F : Nat) (e : Int) (k : List TWindow → Option (List TWindow)) : ∀ (n : Nat) (j : Int) (l : List TWindow), M108_L4 F e k n j l = symG_L4 F e k n j l := by
  intro n
  induction n with
  | zero => intros; rfl
  | succ n ih => intro j l; simp only [M108_L4, symG_L4, ih]
theorem E108_L1 (F : Nat) (a : Int) (l : List TWindow) (k : Int → Option (List TWindow)) : ∀ (n : Nat) (i j : Int), M108_L1 F a l k n i j = symG_L1 (fun x y => some (wcmp x y)) F a l k n i j := by
  intro n
  induction n with
  | zero => intros; rfl
  | succ n ih => intro i j; simp only [M108_L1, symG_L1, ih, M56_eq]
theorem E108_L3 (F : Nat) (a : Int) (l : List TWindow) (k : Int → Option (List TWindow)) : ∀ (n : Nat) (i j : Int), M108_L3 F a l k n i j = symG_L3 (fun x y => some (wcmp x y)) F a l k n i j := by
  intro n
  induction n with
  | zero => intros; rfl
  | succ n ih => intro i j; simp only [M108_L3, symG_L3, ih, M56_eq]
theorem E108_L5 (F : Nat) (a m b : Int) (l : List TWindow) (k : Int → Option (List TWindow)) : ∀ (n : Nat) (i j : Int), M108_L5 F a m b l k n i j = symG_L5 (fun x y => some (wcmp x y)) F a m b l k n i j := by
  intro n
  induction n with
  | zero => intros; rfl
  | succ n ih => intro i j; simp only [M108_L5, symG_L5, ih, M56_eq]
theorem E108 : ∀ (F : Nat) (a m b : Int) (l : List TWindow), M108 F a m b l = symG (fun x y => some (wcmp x y)) F a m b l := by
  intro F
  induction F with
  | zero => intros; rfl
  | succ F ih => intro a m b l; simp only [M108, symG, M108_B, symG_B, ih, E108_L1, E108_L2, E108_L3, E108_L4, E108_L5, E122]
theorem E92_L3 (F : Nat) (a n : Int) (k : Int → List TWindow → Option (List TWindow)) : ∀ (f : Nat) (i j : Int) (l : List TWindow), M92_L3 F a n k f i j l = stbG_L3 (fun x y => some (wcmp x y)) F a n k f i j l := by
  intro f
  induction f with
  | zero => intros; rfl
  | succ f ih => intro i j l; simp only [M92_L3, stbG_L3, ih, E108]
theorem E92_L2 (F : Nat) (a : Int) : ∀ (f : Nat) (i : Int) (l : List TWindow), M92_L2 F a f i l = stbG_L2 (fun x y => some (wcmp x y)) F a f i l := by
  intro f
  induction f with
  | zero => intros; rfl
  | succ f ih => intro i l; simp only [M92_L2, stbG_L2, ih, E108, E92_L3]
theorem E92_L1 (F : Nat) (a : Int) (k : Int → List TWindow → Option (List TWindow)) : ∀ (f : Nat) (i j : Int) (l : List TWindow), M92_L1 F a k f i j l = stbG_L1 (fun x y => some (wcmp x y)) F a k f i j l := by
  intro f
  induction f with
  | zero => intros; rfl
  | succ f ih => intro i j l; simp only [M92_L1, stbG_L1, ih, E107]
theorem stb92 (F : Nat) (n : Int) (l : List TWindow) : M92 F n l = stbG (fun x y => some (wcmp x y)) F n l := by
  unfold M92 stbG; simp only [E92_L1, E92_L2, E107]
theorem M80_eq (F : Nat) (l : List TWindow) (hl : l.length < 400000) (hF : 1000000 ≤ F) : ∃ R, M80 F l = some R ∧ Srt wlt R ∧ R.Perm l := by
  unfold M80
  rw [stb92]
  obtain ⟨R, r1, r2, r3⟩ := stbG_eq worder F l (by omega) (by omega)
  rw [r1, Option.bind_some, if_pos r3.length_eq]
  exact ⟨R, rfl, r2, r3⟩
theorem M55_eq (F : Nat) (l : List TWindow) (hl : l.length < 400000) (hF : 1000000 ≤ F) : ∃ R, M55 F l = some R ∧ Srt wlt R ∧ R.Perm l := by
  unfold M55
  rw [clone_eq (R := Unit) (g := M79 F) 140737488355328 64 (fun l => rfl) l (by omega), Option.bind_some]
  obtain ⟨R, r1, r2, r3⟩ := M80_eq F l hl hF
  rw [r1, Option.bind_some, if_pos r3.length_eq]
  exact ⟨R, rfl, r2, r3⟩
end Go.Proofs.YtiphmdpaajjdeaaGreatDoor
