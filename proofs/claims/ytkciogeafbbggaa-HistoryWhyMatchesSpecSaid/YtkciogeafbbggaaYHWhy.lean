/- Part of the proof: HWhy. -/
import Derived.Test.YtkciogeafbbggaaYHWin
namespace Go.Proofs.Ytkciogeafbbggaa
open Go Go.Pv
set_option linter.unusedVariables false
theorem whyG {R : Type} (day : Int) (g : List TWindow → List TWindow → List TWindow → Option R) (k : List TWindow → List TWindow → Option R) (h0 : ∀ o p, g [] o p = k o p)
    (h1 : ∀ x l o p, g (x :: l) o p = jn (fun (l22 : List TWindow) (l23 : List TWindow) => g l l22 l23) (fun k21 => jn (fun (l27 : List TWindow) => if (x.To == day) = true then jn (fun (l32 : List TWindow) => k21 l27 l32) (fun k31 => if (!x.Open) = true then if (p ++ ([x] : List TWindow)).length * 64 ≤ 140737488355328 then k31 (p ++ ([x] : List TWindow)) else none
      else k31 p) else k21 l27 p) (fun k26 => if (x.From == day) = true then if (o ++ ([x] : List TWindow)).length * 64 ≤ 140737488355328 then k26 (o ++ ([x] : List TWindow)) else none else k26 o))) :
    ∀ (l o p : List TWindow), o.length + l.length ≤ 1000000 → p.length + l.length ≤ 1000000 → g l o p = k (o ++ l.filter fun w => w.From == day) (p ++ l.filter fun w => w.To == day && !w.Open)
  | [], o, p, _, _ => by rw [h0]; simp
  | x :: l, o, p, ho, hp => by
    simp only [List.length_cons] at ho hp
    rw [h1]
    simp only [jn_def]
    have inner : ∀ o', o'.length + l.length ≤ 1000000 → (if (x.To == day) = true then if (!x.Open) = true then if (p ++ ([x] : List TWindow)).length * 64 ≤ 140737488355328 then g l o' (p ++ ([x] : List TWindow)) else none else g l o' p else g l o' p) =
        k (o' ++ l.filter fun w => w.From == day) (p ++ (x :: l).filter fun w => w.To == day && !w.Open) := by
      intro o' ho'
      by_cases h2 : x.To = day
      · by_cases h3 : x.Open = true
        · rw [if_pos (by simpa using h2), if_neg (by simp [h3]), whyG day g k h0 h1 l _ _ ho' (by omega)]; simp [h3]
        · rw [if_pos (by simpa using h2), if_pos (by simpa using h3), if_pos (by simp; omega), whyG day g k h0 h1 l _ _ ho' (by simp; omega)]; simp [h2, h3]
      · rw [if_neg (by simpa using h2), whyG day g k h0 h1 l _ _ ho' (by omega)]; simp [h2]
    by_cases h2 : x.From = day
    · rw [if_pos (by simpa using h2), if_pos (by simp; omega), inner _ (by simp; omega)]; simp [h2]
    · rw [if_neg (by simpa using h2), inner _ (by omega)]; simp [h2]
theorem plain_9 (s : TStory) (day : Int) (hs : okTStory s) (hd : (IntKind.i64).min ≤ day ∧ day ≤ (IntKind.i64).max) : ∃ F, M9 F s day = some true := by
  refine ⟨1000003, ?_⟩
  generalize hF : 1000003 = F
  unfold M9
  have h := okSt_of hs
  have key : ∃ r, M41 F s day = some r ∧ M42 F s day = some r := by
    unfold M41 M42
    rw [M35_eq F s h, M36_eq F s h, isDay_b, isDay_b']
    simp only [Option.bind_some]
    by_cases h1 : chk s = 0
    · simp only [show (chk s != 0) = false by simp [h1], Bool.false_eq_true, if_false]
      by_cases h2 : (!decide (0 ≤ day ∧ day ≤ 1000000)) = true
      · rw [if_pos h2, if_pos h2]; exact ⟨_, rfl, rfl⟩
      · rw [if_neg h2, if_neg h2]
        obtain ⟨raw, W, g1, g2, g3, g4, g5⟩ := windows_eq F s (right_of_chk h1) (by omega)
        have hl := g1.len
        have hp := pcs_len (right_of_chk h1) (kmap [] s.Known)
        have hw := g5.length_eq
        simp at hl hw
        rw [g2, g3]
        simp only [Option.bind_some, jn_def]
        have e1 := fun k => whyG day (M41_L1 F day k) k (fun _ _ => rfl) (fun x l o p => by rw [M41_L1]) W [] [] (by simp; omega) (by simp; omega)
        have e2 := fun k => whyG day (M42_L1 F day k) k (fun _ _ => rfl) (fun x l o p => by rw [M42_L1]) W [] [] (by simp; omega) (by simp; omega)
        rw [e1, e2]
        exact ⟨_, rfl, rfl⟩
    · rw [if_pos (by simpa using h1), if_pos (by simpa using h1)]; exact ⟨_, rfl, rfl⟩
  obtain ⟨r, h1, h2⟩ := key
  simp only [h1, h2, Option.bind_some, M40_eq, M23_eq F (by omega)]
  simp
end Go.Proofs.Ytkciogeafbbggaa
