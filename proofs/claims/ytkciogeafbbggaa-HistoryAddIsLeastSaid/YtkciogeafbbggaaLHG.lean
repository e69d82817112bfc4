/- Part of the proof: HG. -/
import Derived.Test.YtkciogeafbbggaaLHE
namespace Go.Proofs.Ytkciogeafbbggaa
open Go Go.Pv
set_option linter.unusedVariables false

theorem AddIs.zero {c : TCalendar} {a n : Int} {r : Int × Int} (h : AddIs c a n r) (h0 : r.2 = 0) :
    cal c = 0 ∧ (0 ≤ a ∧ a ≤ 1000000) ∧ (0 ≤ n ∧ n ≤ 1000000) ∧ ∃ d : Nat, Least c a.toNat n d ∧ d ≤ 1000000 ∧ r = ((d : Int), 0) := by
  unfold AddIs at h
  split at h
  · rename_i hc; rw [h] at h0; exact absurd h0 hc
  · rename_i hc
    split at h
    · rename_i hr
      obtain ⟨d, h1, h2⟩ := h
      split at h2
      · exact ⟨by simpa using hc, hr.1, hr.2, d, h1, by assumption, h2⟩
      · rw [h2] at h0; simp at h0
    · rw [h] at h0; simp at h0
theorem workDays_ok {c : TCalendar} (h : cal c = 0) {a b : Nat} (ha : a ≤ 1000000) (hb : b ≤ 1000000) (hab : a ≤ b) : workDays c (a : Int) (b : Int) = (cnt c b - cnt c a, 0) := by
  unfold workDays
  rw [if_neg (by simp [h]), if_pos (by omega)]
  rfl
theorem Least.exact {c : TCalendar} {a d : Nat} {n : Int} (h : Least c a n d) (hd : d ≤ 1000000) (hn : 0 ≤ n) : cnt c d - cnt c a = n ∧ (n = 0 → d = a) ∧ (0 < n → a < d ∧ wd c (d - 1) = true) := by
  have h1 : cnt c a + n ≤ cnt c d := by
    rcases h.at' with e | e
    · omega
    · exact e
  have hge := h.ge
  by_cases hda : d = a
  · subst hda
    refine ⟨by omega, fun _ => rfl, fun h0 => by omega⟩
  · obtain ⟨e, rfl⟩ : ∃ e, d = e + 1 := ⟨d - 1, by omega⟩
    have h2 := h.lt e (by omega) (by omega)
    have h3 : cnt c (e + 1) = cnt c e + b2i (wd c e) := rfl
    have h4 := cnt_mono c (a := a) (b := e) (by omega)
    cases hw : wd c e with
    | false => simp [b2i, hw] at h3; omega
    | true =>
      simp [b2i, hw] at h3
      refine ⟨by omega, fun h0 => by omega, fun _ => ⟨by omega, by simpa using hw⟩⟩
theorem plain_4 (c : TCalendar) (a n b : Int) (_ : okTCalendar c) (_ : (IntKind.i64).min ≤ a ∧ a ≤ (IntKind.i64).max) (_ : (IntKind.i64).min ≤ n ∧ n ≤ (IntKind.i64).max) (_ : (IntKind.i64).min ≤ b ∧ b ≤ (IntKind.i64).max) : ∃ F, M4 F c a n b = some true := by
  refine ⟨1000003, ?_⟩
  generalize hF : 1000003 = F
  unfold M4
  obtain ⟨r, h1, h2⟩ := M19_eq F c a n (by omega)
  rw [h1, Option.bind_some]
  by_cases h0 : r.2 = 0
  · obtain ⟨hc, ha, hn, d, hl, hd, hr⟩ := h2.zero h0
    obtain ⟨a', rfl⟩ := Int.eq_ofNat_of_zero_le ha.1
    simp only [Int.toNat_natCast] at hl
    obtain ⟨e1, e2, e3⟩ := hl.exact hd hn.1
    have hge := hl.ge
    rw [if_neg (by simp [h0]), hr]
    simp only []
    rw [M17_eq F c _ _ (by omega), workDays_ok hc (by omega) hd hge, Option.bind_some, if_neg (by simp), if_neg (by simp [e1])]
    have fin : (if (decide (b < (a' : Int))) = true then (M23 F).bind fun y26 => some y26
        else if (decide (b > (d : Int))) = true then (M23 F).bind fun y29 => some y29
        else (M17 F c a' b).bind fun y31 => (M17 F c b d).bind fun y33 => if ((y31.2) == 0) = true then if ((y33.2) == 0) = true then if ((w64 ((y31.1) + (y33.1))) == n) = true then (M23 F).bind fun y38 => some y38
        else some false else some false else some false) = some true := by
      rw [M23_eq F (by omega)]
      by_cases h5 : b < (a' : Int)
      · rw [if_t h5]; rfl
      · rw [if_f h5]
        by_cases h6 : b > (d : Int)
        · rw [if_t h6]; rfl
        · obtain ⟨b', rfl⟩ := Int.eq_ofNat_of_zero_le (show 0 ≤ b by omega)
          rw [if_f h6, M17_eq F c _ _ (by omega), workDays_ok hc (by omega) (by omega) (by omega), Option.bind_some, M17_eq F c _ _ (by omega), workDays_ok hc (by omega) (by omega) (by omega), Option.bind_some]
          have : cnt c b' - cnt c a' + (cnt c d - cnt c b') = n := by omega
          rw [if_pos (by rfl), if_pos (by rfl)]
          simp only [this]
          rw [w64_id (by omega) (by omega)]
          simp
    by_cases hn0 : n = 0
    · have hda := e2 hn0
      subst hda
      simp only [jn_def, hn0, beq_self_eq_true, if_true]
      rw [if_neg (by simp), if_f (by omega)]
      rw [hn0] at fin
      exact fin
    · rw [if_neg (by simpa using hn0)]
      obtain ⟨h7, h8⟩ := e3 (by omega)
      simp only [jn_def]
      rw [if_t (by omega), w64_id (by omega) (by omega), show (d : Int) - 1 = ((d - 1 : Nat) : Int) by omega, M15_eq F c _ (by omega), Option.bind_some]
      have : isWork c ((d - 1 : Nat) : Int) = (true, 0) := by
        unfold isWork
        rw [if_neg (by simp [hc]), if_pos (by omega)]
        simp only [Int.toNat_natCast, h8]
      rw [this, if_neg (by simp), if_neg (by simp)]
      exact fin
  · obtain ⟨r', h3, h4⟩ := M20_eq F c a n (by omega)
    obtain rfl := h2.uniq h4
    rw [if_pos (by simpa using h0), h3, Option.bind_some, if_pos (by simp), M23_eq F (by omega)]
    rfl
end Go.Proofs.Ytkciogeafbbggaa
