/- Part of the proof: HSrt. -/
import Derived.Test.YtkciogeafbbggaaOHOpn
import Derived.Test.YtkciogeafbbggaaOPvY
namespace Go.Proofs.Ytkciogeafbbggaa
open Go Go.Pv
set_option linter.unusedVariables false
def cmpI (a b : Int) : Int := if a < b then -1 else if b < a then 1 else 0
theorem M116_eq (F : Nat) (a b : Int) : M116 F a b = some (cmpI a b) := by
  unfold M116 M140 cmpI
  simp only [bne_self_eq_false, Option.bind_some, Bool.false_eq_true, if_false]
  by_cases h : a < b
  · rw [if_t h, if_pos h]
  · rw [if_f h, if_neg h]
    by_cases h2 : b < a
    · rw [if_t (by omega), if_pos h2]
    · rw [if_f (by omega), if_neg h2]
def wcmp (a b : TWindow) : Int := if cmpI a.From b.From ≠ 0 then cmpI a.From b.From else if cmpS a.Advisory b.Advisory ≠ 0 then cmpS a.Advisory b.Advisory else cmpS a.Component b.Component
theorem M134_eq (F : Nat) (a b : TWindow) : M134 F a b = some (wcmp a b) := by
  unfold M134 M149
  simp only [M116_eq, M138_eq, Option.bind_some, jn_def, M149_L1]
  unfold wcmp
  by_cases h1 : cmpI a.From b.From = 0
  · by_cases h2 : cmpS a.Advisory b.Advisory = 0
    · by_cases h3 : cmpS a.Component b.Component = 0 <;> simp [h1, h2, h3]
    · simp [h1, h2]
  · simp [h1]
def wlt (a b : TWindow) : Bool := decide (a.From < b.From) || (decide (a.From = b.From) && (Op.bytesLess a.Advisory b.Advisory || (a.Advisory == b.Advisory && Op.bytesLess a.Component b.Component)))
theorem wlt_iff {a b : TWindow} : wlt a b = true ↔ a.From < b.From ∨ a.From = b.From ∧ (Op.bytesLess a.Advisory b.Advisory = true ∨ a.Advisory = b.Advisory ∧ Op.bytesLess a.Component b.Component = true) := by
  unfold wlt; simp
theorem cmpI_lt {a b : Int} : cmpI a b < 0 ↔ a < b := by unfold cmpI; split <;> (try split) <;> simp_all
theorem cmpI_eq {a b : Int} : cmpI a b = 0 ↔ a = b := by unfold cmpI; split <;> (try split) <;> simp_all <;> omega
theorem wcmp_lt (a b : TWindow) : decide (wcmp a b < 0) = wlt a b := by
  rw [Bool.eq_iff_iff, decide_eq_true_eq, wlt_iff]
  unfold wcmp
  by_cases h1 : a.From = b.From
  · rw [if_neg (by simp [cmpI_eq.2 h1])]
    by_cases h2 : a.Advisory = b.Advisory
    · rw [if_neg (by simp [cmpS_eq.2 h2]), cmpS_lt]
      simp [h1, h2, bl_irrefl]
    · rw [if_pos (fun e => h2 (cmpS_eq.1 e)), cmpS_lt]
      simp [h1, h2]
  · rw [if_pos (fun e => h1 (cmpI_eq.1 e)), cmpI_lt]
    simp [h1]
theorem wlt_tri (a b : TWindow) : wlt a b = true ∨ (a.From = b.From ∧ a.Advisory = b.Advisory ∧ a.Component = b.Component) ∨ wlt b a = true := by
  rw [wlt_iff, wlt_iff]
  rcases Int.lt_trichotomy a.From b.From with h | h | h
  · exact .inl (.inl h)
  · rcases bl_tri a.Advisory b.Advisory with g | g | g
    · exact .inl (.inr ⟨h, .inl g⟩)
    · rcases bl_tri a.Component b.Component with k | k | k
      · exact .inl (.inr ⟨h, .inr ⟨g, k⟩⟩)
      · exact .inr (.inl ⟨h, g, k⟩)
      · exact .inr (.inr (.inr ⟨h.symm, .inr ⟨g.symm, k⟩⟩))
    · exact .inr (.inr (.inr ⟨h.symm, .inl g⟩))
  · exact .inr (.inr (.inl h))
theorem wlt_tr {a b c : TWindow} (h : wlt a b = true) (g : wlt b c = true) : wlt a c = true := by
  rw [wlt_iff] at *
  rcases h with h | ⟨h, h'⟩ <;> rcases g with g | ⟨g, g'⟩
  · exact .inl (by omega)
  · exact .inl (by omega)
  · exact .inl (by omega)
  · refine .inr ⟨h.trans g, ?_⟩
    rcases h' with h' | ⟨e, h'⟩ <;> rcases g' with g' | ⟨e', g'⟩
    · exact .inl (bl_trans h' g')
    · exact .inl (by rw [← e']; exact h')
    · exact .inl (by rw [e]; exact g')
    · exact .inr ⟨e.trans e', bl_trans h' g'⟩
theorem wlt_irr (a : TWindow) : wlt a a = false := by unfold wlt; simp [bl_irrefl]
theorem wlt_eqv {a b c : TWindow} (h : a.From = b.From ∧ a.Advisory = b.Advisory ∧ a.Component = b.Component) : wlt a c = wlt b c := by unfold wlt; rw [h.1, h.2.1, h.2.2]
theorem worder : Ord (fun x y => some (wcmp x y)) wlt where
  cmp := fun x y => ⟨_, rfl, wcmp_lt x y⟩
  irr := wlt_irr
  tr := fun x y z => wlt_tr
  wk := fun x y z h g => by
    rcases wlt_tri x y with h1 | h1 | h1
    · rw [h1] at h; simp at h
    · rw [wlt_eqv h1]; exact g
    · cases hxz : wlt x z with
      | false => rfl
      | true => have := wlt_tr h1 hxz; rw [this] at g; simp at g
theorem E171_L2 (F : Nat) (a : Int) (k : List TWindow → Option (List TWindow)) : ∀ (n : Nat) (j : Int) (l : List TWindow), M171_L2 F a k n j l = insG_L2 (fun x y => some (wcmp x y)) F a k n j l := by
  intro n
  induction n with
  | zero => intros; rfl
  | succ n ih => intro j l; simp only [M171_L2, insG_L2, ih, M134_eq]
theorem E171_L1 (F : Nat) (a b : Int) : ∀ (n : Nat) (j : Int) (l : List TWindow), M171_L1 F a b n j l = insG_L1 (fun x y => some (wcmp x y)) F a b n j l := by
  intro n
  induction n with
  | zero => intros; rfl
  | succ n ih => intro j l; simp only [M171_L1, insG_L1, ih, E171_L2]
theorem E171 (F : Nat) (a b : Int) (l : List TWindow) : M171 F a b l = insG (fun x y => some (wcmp x y)) F a b l := by unfold M171 insG; rw [E171_L1]
theorem E185_L1 (F : Nat) (a b : Int) : ∀ (n : Nat) (j : Int) (l : List TWindow), M185_L1 F a b n j l = swpG_L1 F a b n j l := by
  intro n
  induction n with
  | zero => intros; rfl
  | succ n ih => intro j l; simp only [M185_L1, swpG_L1, ih]
theorem E185 (F : Nat) (a b n : Int) (l : List TWindow) : M185 F a b n l = swpG F a b n l := by unfold M185 swpG; rw [E185_L1]
theorem E181_L1 (F : Nat) (m : Int) (k : Int → List TWindow → Option (List TWindow)) : ∀ (n : Nat) (i j : Int) (l : List TWindow), M181_L1 F m k n i j l = rotG_L1 F m k n i j l := by
  intro n
  induction n with
  | zero => intros; rfl
  | succ n ih => intro i j l; simp only [M181_L1, rotG_L1, ih, E185]
theorem E181 (F : Nat) (a m b : Int) (l : List TWindow) : M181 F a m b l = rotG F a m b l := by unfold M181 rotG; simp only [E181_L1, E185]
theorem E172_L2 (F : Nat) (e : Int) (k : List TWindow → Option (List TWindow)) : ∀ (n : Nat) (j : Int) (l : List TWindow), M172_L2 F e k n j l = symG_L2 F e k n j l := by
  intro n
  induction n with
  | zero => intros; rfl
  | succ n ih => intro j l; simp only [M172_L2, symG_L2, ih]
theorem E172_L4 (F : Nat) (e : Int) (k : List TWindow → Option (List TWindow)) : ∀ (n : Nat) (j : Int) (l : List TWindow), M172_L4 F e k n j l = symG_L4 F e k n j l := by
  intro n
  induction n with
  | zero => intros; rfl
  | succ n ih => intro j l; simp only [M172_L4, symG_L4, ih]
theorem E172_L1 (F : Nat) (a : Int) (l : List TWindow) (k : Int → Option (List TWindow)) : ∀ (n : Nat) (i j : Int), M172_L1 F a l k n i j = symG_L1 (fun x y => some (wcmp x y)) F a l k n i j := by
  intro n
  induction n with
  | zero => intros; rfl
  | succ n ih => intro i j; simp only [M172_L1, symG_L1, ih, M134_eq]
theorem E172_L3 (F : Nat) (a : Int) (l : List TWindow) (k : Int → Option (List TWindow)) : ∀ (n : Nat) (i j : Int), M172_L3 F a l k n i j = symG_L3 (fun x y => some (wcmp x y)) F a l k n i j := by
  intro n
  induction n with
  | zero => intros; rfl
  | succ n ih => intro i j; simp only [M172_L3, symG_L3, ih, M134_eq]
theorem E172_L5 (F : Nat) (a m b : Int) (l : List TWindow) (k : Int → Option (List TWindow)) : ∀ (n : Nat) (i j : Int), M172_L5 F a m b l k n i j = symG_L5 (fun x y => some (wcmp x y)) F a m b l k n i j := by
  intro n
  induction n with
  | zero => intros; rfl
  | succ n ih => intro i j; simp only [M172_L5, symG_L5, ih, M134_eq]
theorem E172 : ∀ (F : Nat) (a m b : Int) (l : List TWindow), M172 F a m b l = symG (fun x y => some (wcmp x y)) F a m b l := by
  intro F
  induction F with
  | zero => intros; rfl
  | succ F ih => intro a m b l; simp only [M172, symG, M172_B, symG_B, ih, E172_L1, E172_L2, E172_L3, E172_L4, E172_L5, E181]
theorem E157_L3 (F : Nat) (a n : Int) (k : Int → List TWindow → Option (List TWindow)) : ∀ (f : Nat) (i j : Int) (l : List TWindow), M157_L3 F a n k f i j l = stbG_L3 (fun x y => some (wcmp x y)) F a n k f i j l := by
  intro f
  induction f with
  | zero => intros; rfl
  | succ f ih => intro i j l; simp only [M157_L3, stbG_L3, ih, E172]
theorem E157_L2 (F : Nat) (a : Int) : ∀ (f : Nat) (i : Int) (l : List TWindow), M157_L2 F a f i l = stbG_L2 (fun x y => some (wcmp x y)) F a f i l := by
  intro f
  induction f with
  | zero => intros; rfl
  | succ f ih => intro i l; simp only [M157_L2, stbG_L2, ih, E172, E157_L3]
theorem E157_L1 (F : Nat) (a : Int) (k : Int → List TWindow → Option (List TWindow)) : ∀ (f : Nat) (i j : Int) (l : List TWindow), M157_L1 F a k f i j l = stbG_L1 (fun x y => some (wcmp x y)) F a k f i j l := by
  intro f
  induction f with
  | zero => intros; rfl
  | succ f ih => intro i j l; simp only [M157_L1, stbG_L1, ih, E171]
theorem stb157 (F : Nat) (n : Int) (l : List TWindow) : M157 F n l = stbG (fun x y => some (wcmp x y)) F n l := by
  unfold M157 stbG; simp only [E157_L1, E157_L2, E171]
theorem M148_eq (F : Nat) (l : List TWindow) (hl : l.length < 400000) (hF : 1000000 ≤ F) : ∃ R, M148 F l = some R ∧ Srt wlt R ∧ R.Perm l := by
  unfold M148
  rw [stb157]
  obtain ⟨R, r1, r2, r3⟩ := stbG_eq worder F l (by omega) (by omega)
  rw [r1, Option.bind_some, if_pos r3.length_eq]
  exact ⟨R, rfl, r2, r3⟩
theorem M133_eq (F : Nat) (l : List TWindow) (hl : l.length < 400000) (hF : 1000000 ≤ F) : ∃ R, M133 F l = some R ∧ Srt wlt R ∧ R.Perm l := by
  unfold M133
  rw [clone_eq (R := Unit) (g := M147 F) 140737488355328 64 (fun l => rfl) l (by omega), Option.bind_some]
  obtain ⟨R, r1, r2, r3⟩ := M148_eq F l hl hF
  rw [r1, Option.bind_some, if_pos r3.length_eq]
  exact ⟨R, rfl, r2, r3⟩
theorem M150_eq (F : Nat) (a b : TWindow) : M150 F a b = some (wlt a b) := by
  unfold M150
  rw [M132_eq]
  unfold bef wlt
  by_cases h1 : a.From < b.From
  · rw [if_t h1]; simp [h1]
  · rw [if_f h1]
    by_cases h2 : a.From = b.From
    · rw [if_pos (by simp [h2])]; simp [h2]
    · rw [if_neg (by simpa using h2)]; simp [h1, h2]
theorem M135_L1_eq (F : Nat) (k : List TWindow → Option (List TWindow)) : ∀ (f : Nat) (A B o : List TWindow), Srt wlt A → Srt wlt B → A.length + B.length < f → o.length + A.length + B.length < 1000000 →
    ∃ C, M135_L1 F k f A B o = k (o ++ C) ∧ C.Perm (A ++ B) ∧ Srt wlt C
  | 0, A, B, o, _, _, h, _ => by omega
  | f + 1, [], [], o, _, _, _, _ => by
    rw [M135_L1]
    exact ⟨[], by simp, by simp, List.Pairwise.nil⟩
  | f + 1, x :: A, [], o, hA, hB, hf, ho => by
    simp only [List.length_cons, List.length_nil] at hf ho
    rw [M135_L1, if_t (by simp), if_pos (by simp), show idx (x :: A) 0 = some x from rfl, Option.bind_some, if_pos (by simp; omega), if_pos (by simp)]
    obtain ⟨C, c1, c2, c3⟩ := M135_L1_eq F k f A [] (o ++ [x]) (List.pairwise_cons.1 hA).2 hB (by simp; omega) (by simp; omega)
    refine ⟨x :: C, by rw [List.drop_one, List.tail_cons, c1]; simp, by simpa using c2.cons x, List.pairwise_cons.2 ⟨fun y hy => (List.pairwise_cons.1 hA).1 y (by simpa using c2.mem_iff.1 hy), c3⟩⟩
  | f + 1, [], y :: B, o, hA, hB, hf, ho => by
    simp only [List.length_cons, List.length_nil] at hf ho
    rw [M135_L1, if_f (by simp), if_t (by simp), if_neg (by simp; omega), show idx (y :: B) 0 = some y from rfl, Option.bind_some, if_pos (by simp; omega), if_pos (by simp)]
    obtain ⟨C, c1, c2, c3⟩ := M135_L1_eq F k f [] B (o ++ [y]) hA (List.pairwise_cons.1 hB).2 (by simp; omega) (by simp; omega)
    refine ⟨y :: C, by rw [List.drop_one, List.tail_cons, c1]; simp, by simpa using c2.cons y, List.pairwise_cons.2 ⟨fun z hz => (List.pairwise_cons.1 hB).1 z (by simpa using c2.mem_iff.1 hz), c3⟩⟩
  | f + 1, x :: A, y :: B, o, hA, hB, hf, ho => by
    simp only [List.length_cons] at hf ho
    rw [M135_L1, if_t (by simp), if_neg (by simp; omega), show idx (x :: A) 0 = some x from rfl, Option.bind_some, show idx (y :: B) 0 = some y from rfl, Option.bind_some, M150_eq, Option.bind_some]
    simp only [jn_def, Option.bind_some]
    by_cases h : wlt x y = true
    · rw [if_pos h, if_pos (by simp; omega), if_pos (by simp)]
      obtain ⟨C, c1, c2, c3⟩ := M135_L1_eq F k f A (y :: B) (o ++ [x]) (List.pairwise_cons.1 hA).2 hB (by simp; omega) (by simp; omega)
      refine ⟨x :: C, by rw [List.drop_one, List.tail_cons, c1]; simp, by simpa using c2.cons x, List.pairwise_cons.2 ⟨fun z hz => ?_, c3⟩⟩
      rcases List.mem_append.1 (c2.mem_iff.1 hz) with hz | hz
      · exact (List.pairwise_cons.1 hA).1 z hz
      · rcases List.mem_cons.1 hz with rfl | hz
        · exact worder.asymm h
        · exact worder.wk _ _ _ ((List.pairwise_cons.1 hB).1 z hz) (worder.asymm h)
    · rw [if_neg h, if_pos (by simp; omega), if_pos (by simp)]
      obtain ⟨C, c1, c2, c3⟩ := M135_L1_eq F k f (x :: A) B (o ++ [y]) hA (List.pairwise_cons.1 hB).2 (by simp; omega) (by simp; omega)
      refine ⟨y :: C, by rw [List.drop_one, List.tail_cons, c1]; simp, ?_, List.pairwise_cons.2 ⟨fun z hz => ?_, c3⟩⟩
      · exact (c2.cons y).trans (List.perm_middle (l₁ := x :: A) (l₂ := B) (a := y)).symm
      · have h : wlt x y = false := by simpa using h
        rcases List.mem_append.1 (c2.mem_iff.1 hz) with hz | hz
        · rcases List.mem_cons.1 hz with rfl | hz
          · exact h
          · exact worder.wk _ _ _ ((List.pairwise_cons.1 hA).1 z hz) h
        · exact (List.pairwise_cons.1 hB).1 z hz
theorem M135_eq : ∀ (F : Nat) (l : List TWindow), 2 * l.length + 2 ≤ F → l.length < 400000 → ∃ R, M135 F l = some R ∧ Srt wlt R ∧ R.Perm l
  | 0, l, h, _ => by omega
  | F + 1, l, h, hl => by
    rw [M135]
    unfold M135_B
    by_cases hs : l.length < 2
    · rw [if_t (by omega)]
      refine ⟨l, rfl, ?_, .refl _⟩
      match l, hs with
      | [], _ => exact List.Pairwise.nil
      | [x], _ => exact List.pairwise_singleton _ _
    · have e : w64 (Int.tdiv ((l.length : Nat) : Int) 2) = ((l.length / 2 : Nat) : Int) := by
        rw [show Int.tdiv ((l.length : Nat) : Int) 2 = ((l.length / 2 : Nat) : Int) from rfl]
        exact w64_id (by omega) (by omega)
      rw [if_f (by omega)]
      simp only [e, Int.toNat_natCast, jn_def]
      rw [if_pos ⟨by omega, by omega⟩]
      obtain ⟨A, a1, a2, a3⟩ := M135_eq F (l.take (l.length / 2)) (by rw [List.length_take]; omega) (by rw [List.length_take]; omega)
      obtain ⟨B, b1, b2, b3⟩ := M135_eq F (l.drop (l.length / 2)) (by rw [List.length_drop]; omega) (by rw [List.length_drop]; omega)
      rw [a1, Option.bind_some, if_pos ⟨by omega, by omega⟩, b1, Option.bind_some]
      have la := a3.length_eq
      have lb := b3.length_eq
      rw [List.length_take] at la
      rw [List.length_drop] at lb
      obtain ⟨C, c1, c2, c3⟩ := M135_L1_eq F (fun l10 => some l10) F A B [] a2 b2 (by omega) (by simp; omega)
      refine ⟨C, by rw [c1]; simp, c3, c2.trans ?_⟩
      have := a3.append b3
      rwa [List.take_append_drop] at this
end Go.Proofs.Ytkciogeafbbggaa
