/- Part of the proof: HOvr. -/
import Derived.Test.YtkciogeafbbggaaOHDue
import Derived.Test.YtkciogeafbbggaaOHNum
namespace Go.Proofs.Ytkciogeafbbggaa
open Go Go.Pv
set_option linter.unusedVariables false
set_option maxRecDepth 100000
def dys (l : List TTerm) (sv : Int) : Int := l.foldl (pick sv) (-1)
open Classical in
noncomputable def ld (c : TCalendar) (a n : Int) : Nat := if h : ∃ d, Least c a.toNat n d then h.choose else 0
theorem ld_spec {c : TCalendar} {a n : Int} (h : ∃ d, Least c a.toNat n d) : Least c a.toNat n (ld c a n) := by
  unfold ld; rw [dif_pos h]; exact h.choose_spec
theorem Least.ld {c : TCalendar} {a : Nat} {n : Int} {d : Nat} (h : Least c a n d) : Ytkciogeafbbggaa.ld c a n = d := by
  have h' : Least c (a : Int).toNat n d := by simpa using h
  exact (ld_spec ⟨d, h'⟩).uniq h'
structure OkW (w : TWindow) : Prop where
  f : 0 ≤ w.From ∧ w.From ≤ 1000000
  t : 0 ≤ w.To ∧ w.To ≤ 1000000
noncomputable def late (c : TCalendar) (l : List TTerm) (w : TWindow) : TLate :=
  TLate.mk w (ld c w.From (dys l w.Severity)) (cnt c w.To.toNat - cnt c (ld c w.From (dys l w.Severity)))
noncomputable def ovr (c : TCalendar) (l : List TTerm) : List TLate → List TWindow → List TLate × Int
  | o, [] => (o, 0)
  | o, w :: r => if dys l w.Severity < 0 then ovr c l o r else if 1000000 < ld c w.From (dys l w.Severity) then ([], 3)
    else if (ld c w.From (dys l w.Severity) : Int) < w.To then ovr c l (o ++ [late c l w]) r else ovr c l o r
theorem dys_range {l : List TTerm} (hb : ∀ t, t ∈ l → ¬ badT t) (sv : Int) : dys l sv = -1 ∨ 0 ≤ dys l sv ∧ dys l sv ≤ 10000 := by
  unfold dys
  have : ∀ (l : List TTerm) (b : Int), (∀ t, t ∈ l → ¬ badT t) → (b = -1 ∨ 0 ≤ b ∧ b ≤ 10000) → (l.foldl (pick sv) b = -1 ∨ 0 ≤ l.foldl (pick sv) b ∧ l.foldl (pick sv) b ≤ 10000) := by
    intro l
    induction l with
    | nil => intro b _ h; exact h
    | cons t l ih =>
      intro b hb h
      rw [List.foldl_cons]
      refine ih _ (fun x hx => hb x (List.mem_cons_of_mem _ hx)) ?_
      have := hb t (by simp)
      unfold badT at this
      unfold pick
      split
      · right; omega
      · exact h
  exact this l (-1) hb (.inl rfl)
theorem M79_eq (F : Nat) (c : TCalendar) (R : Right c) (l : List TTerm) (hl : l.length < 4000) (hb : ∀ t, t ∈ l → ¬ badT t) (w : TWindow) (hw : OkW w) (hF : 1000003 ≤ F) :
    M79 F (wk c) l w = some (if dys l w.Severity < 0 then ((0 : Int), false, (0 : Int)) else if 1000000 < ld c w.From (dys l w.Severity) then ((0 : Int), false, (3 : Int)) else (((ld c w.From (dys l w.Severity) : Nat) : Int), true, (0 : Int))) := by
  unfold M79
  rw [jn_def]
  refine (L79 F l w _ hl F 0 (-1) (by omega) (by omega)).trans ?_
  rw [List.drop_zero]
  show (if (decide (dys l w.Severity < 0)) = true then some (0, false, 0) else (M76 F (wk c) w.From (dys l w.Severity)).bind fun y17 => if (!(y17.2)) = true then some (0, false, 3) else some ((y17.1), true, 0)) = _
  by_cases h : dys l w.Severity < 0
  · rw [if_t h, if_pos h]
  · rw [if_f h, if_neg h]
    obtain ⟨m, hm⟩ := Int.eq_ofNat_of_zero_le hw.f.1
    have hr := dys_range hb w.Severity
    rw [hm]
    obtain ⟨d, h1, h2⟩ := M76_eq F c R m (dys l w.Severity) (by have := hw.f; omega) (by omega) (by omega) hF
    rw [h2, Option.bind_some, h1.ld]
    by_cases h5 : d ≤ 1000000
    · rw [if_neg (by simp; omega), if_neg (by omega)]
    · rw [if_pos (by simp; omega), if_pos (by omega)]
theorem M80_eq (F : Nat) (l : List TTerm) (sv : Int) (hl : l.length < 4000) (hb : ∀ t, t ∈ l → ¬ badT t) (hF : 5000 ≤ F) :
    ∃ x, M80 F l sv = some x ∧ (x.2 = true ↔ ¬ dys l sv < 0) ∧ (x.2 = true → x.1.Days = dys l sv) := by
  unfold M80
  rw [jn_def]
  obtain ⟨f', s', d', g1, g2, g3⟩ := L80 F l sv (fun b4 n5 n6 => some ((TTerm.mk n5 n6), b4)) hl hb F 0 false 0 0 (by omega) (by omega) (by simp)
  have g1' : M80_L1 F l sv (fun b4 n5 n6 => some ((TTerm.mk n5 n6), b4)) F false 0 0 0 = some (TTerm.mk s' d', f') := g1
  have e : dys l sv = if f' = true then d' else -1 := by
    unfold dys; simpa using g2
  refine ⟨_, g1', ?_, ?_⟩
  · rw [e]; cases f'
    · simp
    · have := g3 rfl; simp; omega
  · intro hf
    simp only at hf
    rw [e, if_pos hf]
theorem M77_full (F : Nat) (c : TCalendar) (k : Tprovenderref11_calendar) (h1 : k.free = fre c) (h2 : ∀ d, isHol k.holidays d = decide (d ∈ c.Holidays)) (a n : Int) (ha : 0 ≤ a ∧ a ≤ 1000000) (hn0 : 0 ≤ n) (hn1 : n ≤ 1000000) (hF : 1000003 ≤ F) :
    ∃ x, M77 F k a n = some x ∧ x.2 = decide (ld c a n ≤ 1000000) ∧ (ld c a n ≤ 1000000 → x.1 = (ld c a n : Int)) := by
  obtain ⟨m, hm⟩ := Int.eq_ofNat_of_zero_le ha.1
  rw [hm]
  obtain ⟨d, x, g1, g2, g3, g4⟩ := M77_eq F c k h1 h2 m (by omega) n hn0 hn1 hF
  rw [g1.ld]
  exact ⟨x, g2, g3, g4⟩
theorem M75_eq (F : Nat) (c : TCalendar) (k : Tprovenderref11_calendar) (h1 : k.free = fre c) (h2 : ∀ d, isHol k.holidays d = decide (d ∈ c.Holidays)) (a b : Nat) (hab : a ≤ b) (hb : b ≤ 1000000) (hF : 1000003 ≤ F) :
    M75 F k (a : Int) (b : Int) = some (cnt c b - cnt c a) := by
  unfold M75
  rw [jn_def, L75 F c k h1 h2 b hb _ F a 0 (by omega) (by omega) (by omega) (by omega)]
  simp
theorem late_w64 (c : TCalendar) {a b : Nat} (ha : a ≤ 1000000) (hb : b ≤ 1000000) : w64 (cnt c b - cnt c a) = cnt c b - cnt c a := by
  have h1 := cnt_range c a
  have h2 := cnt_range c b
  exact w64_id (by omega) (by omega)
theorem ovr_L50 (F : Nat) (c : TCalendar) (R : Right c) (l : List TTerm) (hl : l.length < 4000) (hb : ∀ t, t ∈ l → ¬ badT t) (hF : 1000003 ≤ F) (k : List TLate → Option (List TLate × Int)) :
    ∀ (W : List TWindow) (o : List TLate), (∀ w, w ∈ W → OkW w) → o.length + W.length ≤ 1000000 →
      M50_L1 F l (wk c) k W o = if (ovr c l o W).2 = 0 then k (ovr c l o W).1 else some ([], 3)
  | [], o, _, _ => by simp [M50_L1, ovr]
  | w :: r, o, hw, hlen => by
    have hw0 := hw w (by simp)
    have hwr := fun x hx => hw x (List.mem_cons_of_mem w hx)
    simp only [List.length_cons] at hlen
    rw [M50_L1, jn_def, M79_eq F c R l hl hb w hw0 hF, Option.bind_some, ovr]
    by_cases h : dys l w.Severity < 0
    · rw [if_pos h, if_pos h]
      rw [if_neg (by simp), if_neg (by simp)]
      exact ovr_L50 F c R l hl hb hF k r o hwr (by omega)
    · rw [if_neg h, if_neg h]
      by_cases h2 : 1000000 < ld c w.From (dys l w.Severity)
      · rw [if_pos h2, if_pos h2, if_pos (by simp)]; simp
      · rw [if_neg h2, if_neg h2, if_neg (by simp), if_pos rfl, jn_def]
        obtain ⟨b, hbb⟩ := Int.eq_ofNat_of_zero_le hw0.t.1
        have hbl : b ≤ 1000000 := by have := hw0.t; omega
        by_cases h3 : (ld c w.From (dys l w.Severity) : Int) < w.To
        · rw [if_t h3, if_pos h3]
          simp only
          rw [hbb, M71_eq F c R b (by omega) (by omega), M71_eq F c R _ (by omega) (by omega), Option.bind_some, Option.bind_some, late_w64 c (by omega) hbl]
          rw [if_pos (by simp; omega)]
          have e : (TLate.mk w ((ld c w.From (dys l w.Severity) : Nat) : Int) (cnt c b - cnt c (ld c w.From (dys l w.Severity)))) = late c l w := by
            unfold late; rw [hbb]; simp
          rw [e]
          exact ovr_L50 F c R l hl hb hF k r _ hwr (by simp; omega)
        · rw [if_f h3, if_neg h3]
          exact ovr_L50 F c R l hl hb hF k r o hwr (by omega)
theorem ovr_L51 (F : Nat) (c : TCalendar) (kal : Tprovenderref11_calendar) (h1 : kal.free = fre c) (h2 : ∀ d, isHol kal.holidays d = decide (d ∈ c.Holidays)) (l : List TTerm) (hl : l.length < 4000) (hb : ∀ t, t ∈ l → ¬ badT t) (hF : 1000003 ≤ F) (k : List TLate → Option (List TLate × Int)) :
    ∀ (W : List TWindow) (o : List TLate), (∀ w, w ∈ W → OkW w) → o.length + W.length ≤ 1000000 →
      M51_L1 F l kal k W o = if (ovr c l o W).2 = 0 then k (ovr c l o W).1 else some ([], 3)
  | [], o, _, _ => by simp [M51_L1, ovr]
  | w :: r, o, hw, hlen => by
    have hw0 := hw w (by simp)
    have hwr := fun x hx => hw x (List.mem_cons_of_mem w hx)
    simp only [List.length_cons] at hlen
    obtain ⟨x, e1, e2, e3⟩ := M80_eq F l w.Severity hl hb (by omega)
    rw [M51_L1, jn_def, e1, Option.bind_some, ovr]
    by_cases h : dys l w.Severity < 0
    · have hx : x.2 = false := by
        cases hx : x.2 with
        | false => rfl
        | true => exact absurd h (e2.1 hx)
      rw [if_pos h, if_pos (by simp [hx])]
      exact ovr_L51 F c kal h1 h2 l hl hb hF k r o hwr (by omega)
    · have hx := e2.2 h
      have hr := dys_range hb w.Severity
      obtain ⟨y, f1, f2, f3⟩ := M77_full F c kal h1 h2 w.From (dys l w.Severity) hw0.f (by omega) (by omega) hF
      rw [if_neg h, if_neg (by simp [hx]), e3 hx, f1, Option.bind_some]
      by_cases h2' : 1000000 < ld c w.From (dys l w.Severity)
      · rw [if_pos h2', if_pos (by simp [f2]; omega)]; simp
      · rw [if_neg h2', if_neg (by simp [f2]; omega), jn_def, f3 (by omega)]
        obtain ⟨b, hbb⟩ := Int.eq_ofNat_of_zero_le hw0.t.1
        have hbl : b ≤ 1000000 := by have := hw0.t; omega
        by_cases h3 : (ld c w.From (dys l w.Severity) : Int) < w.To
        · rw [if_t h3, if_pos h3]
          rw [hbb, M75_eq F c kal h1 h2 _ b (by omega) hbl hF, Option.bind_some]
          rw [if_pos (by simp; omega)]
          have e : (TLate.mk w ((ld c w.From (dys l w.Severity) : Nat) : Int) (cnt c b - cnt c (ld c w.From (dys l w.Severity)))) = late c l w := by
            unfold late; rw [hbb]; simp
          rw [e]
          exact ovr_L51 F c kal h1 h2 l hl hb hF k r _ hwr (by simp; omega)
        · rw [if_f h3, if_neg h3]
          exact ovr_L51 F c kal h1 h2 l hl hb hF k r o hwr (by omega)
theorem Mk.inside {u : Int} : ∀ {l : List Thistory_piece} {o r : List TWindow}, Mk l o r → (∀ p, p ∈ l → 0 ≤ p.from_ ∧ p.from_ < p.to ∧ p.to ≤ u) → (∀ w, w ∈ o → 0 ≤ w.From ∧ w.From ≤ u ∧ 0 ≤ w.To ∧ w.To ≤ u) → ∀ w, w ∈ r → 0 ≤ w.From ∧ w.From ≤ u ∧ 0 ≤ w.To ∧ w.To ≤ u := by
  intro l o r h
  induction h with
  | nil => intro _ h; exact h
  | @new p l o r hn t ih =>
    intro hp ho
    refine ih (fun q hq => hp q (List.mem_cons_of_mem _ hq)) (fun w hw => ?_)
    rcases List.mem_append.1 hw with hw | hw
    · exact ho w hw
    · simp at hw; subst hw; have := hp p (by simp); simp only [newW]; omega
  | @gap p l o r i w hi hw hgp t ih =>
    intro hp ho
    refine ih (fun q hq => hp q (List.mem_cons_of_mem _ hq)) (fun w hw => ?_)
    rcases List.mem_append.1 hw with hw | hw
    · exact ho w hw
    · simp at hw; subst hw; have := hp p (by simp); simp only [newW]; omega
  | @on p l o r i w hi hw hgp t ih =>
    intro hp ho
    refine ih (fun q hq => hp q (List.mem_cons_of_mem _ hq)) (fun v hv => ?_)
    rcases List.mem_or_eq_of_mem_set hv with h1 | h1
    · exact ho v h1
    · subst h1
      have h2 := ho w (List.mem_of_getElem? hw)
      have := hp p (by simp); simp only [onW]; omega
theorem wins_ok {s : TStory} (R : RightS s) {raw W : List TWindow} (hM : Mk (pcs (kmap [] s.Known) s.Until s.Releases) [] raw) (hp : W.Perm (raw.map (mark s.Until))) : (∀ w, w ∈ W → OkW w) ∧ W.length ≤ 250000 := by
  refine ⟨fun w hw => ?_, ?_⟩
  · obtain ⟨v, hv, rfl⟩ := List.mem_map.1 (hp.mem_iff.1 hw)
    have := hM.inside (u := s.Until) (fun p hp => pcs_from R p hp) (by simp) v hv
    have hu := R.unt
    exact ⟨by simp only [mark]; omega, by simp only [mark]; omega⟩
  · have := hp.length_eq
    have h2 := hM.len
    have h3 := pcs_len R (kmap [] s.Known)
    simp at this h2
    omega
/-- What Overdue answers. -/
def OvIs (c : TCalendar) (l : List TTerm) (s : TStory) (W : List TWindow) (r : List TLate × Int) : Prop :=
  r = if cal c ≠ 0 then ([], cal c) else if terms l ≠ 0 then ([], terms l) else if chk s ≠ 0 then ([], chk s) else ovr c l [] W
theorem ovr_2 (c : TCalendar) (l : List TTerm) : ∀ (W : List TWindow) (o : List TLate), (ovr c l o W).2 = 0 ∨ ovr c l o W = ([], 3)
  | [], o => .inl rfl
  | w :: r, o => by
    rw [ovr]
    split
    · exact ovr_2 c l r o
    · split
      · exact .inr rfl
      · split
        · exact ovr_2 c l r _
        · exact ovr_2 c l r o
theorem overdue_eq (F : Nat) (l : List TTerm) (s : TStory) (hs : okSt s) (hF : 1000003 ≤ F) : ∃ W : List TWindow, (∀ w, w ∈ W → OkW w) ∧ ∀ c, ∃ r, M50 F c l s = some r ∧ M51 F c l s = some r ∧ OvIs c l s W r := by
  by_cases h3 : chk s = 0
  · have R := right_of_chk h3
    obtain ⟨raw, W, g1, g2, g3, g4, g5⟩ := windows_eq F s R (by omega)
    obtain ⟨hW, hWl⟩ := wins_ok R g1 g5
    refine ⟨W, hW, fun c => ?_⟩
    unfold M50 M51 OvIs
    rw [M21_eq F c (by omega), M22_eq F c (by omega), Option.bind_some, Option.bind_some]
    by_cases hc : cal c = 0
    · have Rc := right_of hc
      rw [if_neg (show ¬ (cal c != 0) = true by simp [hc]), if_neg (show ¬ (cal c != 0) = true by simp [hc]), if_neg (show ¬ cal c ≠ 0 by simp [hc]), M26_eq F l (by omega), M27_eq F l (by omega), Option.bind_some, Option.bind_some]
      by_cases ht : terms l = 0
      · obtain ⟨hl, hb⟩ := terms_zero ht
        rw [if_neg (show ¬ (terms l != 0) = true by simp [ht]), if_neg (show ¬ (terms l != 0) = true by simp [ht]), if_neg (show ¬ terms l ≠ 0 by simp [ht]), M35_eq F s hs, M36_eq F s hs, Option.bind_some, Option.bind_some,
          if_neg (show ¬ (chk s != 0) = true by simp [h3]), if_neg (show ¬ (chk s != 0) = true by simp [h3]), if_neg (show ¬ chk s ≠ 0 by simp [h3]), M70_eq F c Rc (by omega), Option.bind_some]
        obtain ⟨k, hk, k1, k2⟩ := M73_eq F c Rc (by omega)
        rw [hk, Option.bind_some, g2, g3, Option.bind_some, Option.bind_some, jn_def, jn_def]
        rw [ovr_L50 F c Rc l (by omega) hb hF _ W [] hW (by simp; omega), ovr_L51 F c k k1 k2 l (by omega) hb hF _ W [] hW (by simp; omega)]
        rcases ovr_2 c l W [] with h5 | h5
        · rw [if_pos h5]
          refine ⟨_, rfl, rfl, ?_⟩
          rw [← h5]
        · rw [h5]
          exact ⟨_, rfl, rfl, rfl⟩
      · rw [if_pos (show (terms l != 0) = true by simpa using ht), if_pos (show (terms l != 0) = true by simpa using ht), if_pos ht]
        exact ⟨_, rfl, rfl, rfl⟩
    · rw [if_pos (show (cal c != 0) = true by simpa using hc), if_pos (show (cal c != 0) = true by simpa using hc), if_pos hc]
      exact ⟨_, rfl, rfl, rfl⟩
  · refine ⟨[], by simp, fun c => ?_⟩
    unfold M50 M51 OvIs
    rw [M21_eq F c (by omega), M22_eq F c (by omega), Option.bind_some, Option.bind_some]
    by_cases hc : cal c = 0
    · rw [if_neg (show ¬ (cal c != 0) = true by simp [hc]), if_neg (show ¬ (cal c != 0) = true by simp [hc]), if_neg (show ¬ cal c ≠ 0 by simp [hc]), M26_eq F l (by omega), M27_eq F l (by omega), Option.bind_some, Option.bind_some]
      by_cases ht : terms l = 0
      · rw [if_neg (show ¬ (terms l != 0) = true by simp [ht]), if_neg (show ¬ (terms l != 0) = true by simp [ht]), if_neg (show ¬ terms l ≠ 0 by simp [ht]), M35_eq F s hs, M36_eq F s hs, Option.bind_some, Option.bind_some,
          if_pos (show (chk s != 0) = true by simpa using h3), if_pos (show (chk s != 0) = true by simpa using h3), if_pos h3]
        exact ⟨_, rfl, rfl, rfl⟩
      · rw [if_pos (show (terms l != 0) = true by simpa using ht), if_pos (show (terms l != 0) = true by simpa using ht), if_pos ht]
        exact ⟨_, rfl, rfl, rfl⟩
    · rw [if_pos (show (cal c != 0) = true by simpa using hc), if_pos (show (cal c != 0) = true by simpa using hc), if_pos hc]
      exact ⟨_, rfl, rfl, rfl⟩
theorem wd_more {c c' : TCalendar} (hf : c'.Free = c.Free) (hh : ∀ x, x ∈ c.Holidays → x ∈ c'.Holidays) (d : Nat) (h : wd c' d = true) : wd c d = true := by
  unfold wd fre at h ⊢
  rw [hf] at h
  simp only [Bool.and_eq_true, Bool.not_eq_true', decide_eq_false_iff_not] at h ⊢
  exact ⟨h.1, fun hx => h.2 (hh _ hx)⟩
theorem cnt_more {c c' : TCalendar} (hf : c'.Free = c.Free) (hh : ∀ x, x ∈ c.Holidays → x ∈ c'.Holidays) (a : Nat) : ∀ n, cnt c' (a + n) - cnt c' a ≤ cnt c (a + n) - cnt c a
  | 0 => by simp
  | n + 1 => by
    have ih := cnt_more hf hh a n
    have h1 : b2i (wd c' (a + n)) ≤ b2i (wd c (a + n)) := by
      cases h : wd c' (a + n) with
      | false => cases wd c (a + n) <;> decide
      | true => rw [wd_more hf hh _ h]; exact Int.le_refl _
    show cnt c' (a + n) + b2i (wd c' (a + n)) - _ ≤ cnt c (a + n) + b2i (wd c (a + n)) - _
    omega
theorem least_more {c c' : TCalendar} (hf : c'.Free = c.Free) (hh : ∀ x, x ∈ c.Holidays → x ∈ c'.Holidays) {a d d' : Nat} {n : Int} (h : Least c a n d) (h' : Least c' a n d') : d ≤ d' := by
  by_cases hlt : d' < d
  · exfalso
    have h1 := h.lt d' h'.ge hlt
    rcases h'.at' with h2 | h2
    · have := h.le; omega
    · obtain ⟨m, hm⟩ : ∃ m, d' = a + m := ⟨d' - a, by have := h'.ge; omega⟩
      subst hm
      have := cnt_more hf hh a m
      omega
  · omega
theorem ovr_mem {c : TCalendar} {l : List TTerm} {x : TLate} : ∀ {W : List TWindow} {o : List TLate}, (ovr c l o W).2 = 0 → (x ∈ (ovr c l o W).1 ↔ x ∈ o ∨ ∃ w, w ∈ W ∧ ¬ dys l w.Severity < 0 ∧ (ld c w.From (dys l w.Severity) : Int) < w.To ∧ x = late c l w)
  | [], o, h => by simp [ovr]
  | w :: r, o, h => by
    rw [ovr] at h ⊢
    by_cases h1 : dys l w.Severity < 0
    · rw [if_pos h1] at h ⊢
      rw [ovr_mem h]
      constructor
      · rintro (h2 | ⟨v, h2, h3⟩)
        · exact .inl h2
        · exact .inr ⟨v, List.mem_cons_of_mem _ h2, h3⟩
      · rintro (h2 | ⟨v, h2, h3, h4⟩)
        · exact .inl h2
        · rcases List.mem_cons.1 h2 with rfl | h2
          · exact absurd h1 h3
          · exact .inr ⟨v, h2, h3, h4⟩
    · rw [if_neg h1] at h ⊢
      split at h
      · simp at h
      · rename_i h2
        rw [if_neg h2]
        by_cases h3 : (ld c w.From (dys l w.Severity) : Int) < w.To
        · rw [if_pos h3] at h ⊢
          rw [ovr_mem h]
          constructor
          · rintro (h4 | ⟨v, h4, h5⟩)
            · rcases List.mem_append.1 h4 with h4 | h4
              · exact .inl h4
              · simp at h4; exact .inr ⟨w, by simp, h1, h3, h4⟩
            · exact .inr ⟨v, List.mem_cons_of_mem _ h4, h5⟩
          · rintro (h4 | ⟨v, h4, h5, h6⟩)
            · exact .inl (List.mem_append_left _ h4)
            · rcases List.mem_cons.1 h4 with rfl | h4
              · exact .inl (List.mem_append_right _ (by simp [h6.2]))
              · exact .inr ⟨v, h4, h5, h6⟩
        · rw [if_neg h3] at h ⊢
          rw [ovr_mem h]
          constructor
          · rintro (h4 | ⟨v, h4, h5⟩)
            · exact .inl h4
            · exact .inr ⟨v, List.mem_cons_of_mem _ h4, h5⟩
          · rintro (h4 | ⟨v, h4, h5, h6⟩)
            · exact .inl h4
            · rcases List.mem_cons.1 h4 with rfl | h4
              · exact absurd h6.1 h3
              · exact .inr ⟨v, h4, h5, h6⟩
theorem wrap_uw {n : Int} (h0 : 0 ≤ n) (h : n < 18446744073709551616) : IntKind.wrap .u64 (w64 n) = n := by
  simp only [w64, IntKind.wrap, IntKind.signed, IntKind.bits, Bool.false_and, Bool.true_and]
  simp
  split <;> omega
theorem mid_big {a b : Nat} (h : a + b < 18446744073709551616) : w64 (Int.fdiv (IntKind.wrap .u64 (w64 ((a : Int) + (b : Int)))) (2 ^ (min (Int.toNat 1) (IntKind.bits .u64)))) = (((a + b) / 2 : Nat) : Int) := by
  rw [wrap_uw (by omega) (by omega)]
  have e : ((2 : Int) ^ (min (Int.toNat 1) (IntKind.bits .u64))) = 2 := by rfl
  rw [e, Int.fdiv_eq_ediv_of_nonneg _ (by omega)]
  have e2 : ((a : Int) + (b : Int)) / 2 = (((a + b) / 2 : Nat) : Int) := by omega
  rw [e2, w64_id (by omega) (by omega)]
theorem L53any (F : Nat) (l : List Int) (t : Int) (k : Int → Option (Int × Bool)) (hl : l.length ≤ 9223372036854775807) : ∀ (n a b : Nat), a ≤ b → b ≤ l.length → b - a < n →
    ∃ i : Nat, i ≤ l.length ∧ M53_L1 F l t k n (a : Int) (b : Int) = k (i : Int)
  | 0, a, b, _, _, h => by omega
  | n + 1, a, b, hab, hb, hn => by
    unfold M53_L1
    by_cases h : a < b
    · rw [if_t (by omega), mid_big (by omega), idx_nat (by omega), Option.bind_some, M108_eq, Option.bind_some, jn_def]
      by_cases h3 : l[(a + b) / 2] < t
      · rw [if_t h3, show w64 ((((a + b) / 2 : Nat) : Int) + 1) = (((a + b) / 2 + 1 : Nat) : Int) by rw [w64_id (by omega) (by omega)]; omega]
        exact L53any F l t k hl n _ b (by omega) hb (by omega)
      · rw [if_f h3]
        exact L53any F l t k hl n a _ (by omega) (by omega) (by omega)
    · rw [if_f (by omega)]
      exact ⟨a, by omega, rfl⟩
theorem M53_any (F : Nat) (l : List Int) (t : Int) (hl : l.length ≤ 9223372036854775807) (hF : l.length < F) : ∃ (i : Nat) (b : Bool), i ≤ l.length ∧ M53 F l t = some ((i : Int), b) := by
  unfold M53
  rw [jn_def]
  have := fun k => L53any F l t k hl F 0 l.length (by omega) (by omega) (by omega)
  obtain ⟨i, hi, e⟩ := this (fun (n4 : Int) => if (decide (n4 < ((l.length : Nat) : Int))) = true then (idx l n4).bind fun x19 => if (x19 == t) = true then some (n4, true)
    else (idx l n4).bind fun x22 => (M109 F x22).bind fun y24 => if y24 = true then (M109 F t).bind fun y27 => some (n4, y27)
    else some (n4, false)
    else some (n4, false))
  rw [show M53_L1 F l t _ F 0 (l.length : Int) = _ from e]
  by_cases h : i < l.length
  · rw [if_t (by omega), idx_nat h]
    simp only [Option.bind_some, M109_eq]
    by_cases h2 : (l[i] == t) = true
    · rw [if_pos h2]; exact ⟨i, _, hi, rfl⟩
    · rw [if_neg h2]; exact ⟨i, _, hi, rfl⟩
  · rw [if_f (by omega)]; exact ⟨i, _, hi, rfl⟩
theorem M52_eq (F : Nat) (a b : List TLate) : M52 F a b = some (decide (a = b)) := by
  unfold M52
  simp only [jn_def]
  exact eqL_all b (g := M52_L1 F b (some true)) (fun _ => rfl) (fun x l n => by rw [M52_L1]) a
theorem M55_eq (F : Nat) (a : List Int) (h : a.length * 8 ≤ 140737488355328) : M55 F a = some a := by
  unfold M55
  refine nilq_same ?_ (fun h0 => ?_)
  · rw [if_neg (by simp), if_pos (by simpa using h), List.nil_append]
  · rw [if_pos rfl, List.length_eq_zero_iff.1 h0]
theorem M56_eq (F : Nat) (l : List TLate) (x : TLate) : M56 F l x.Window.Advisory x.Window.Component x.Window.Severity x.Window.From x.Window.To x.Window.Open x.Due x.WorkDays = some (l.any fun y => decide (y.Window = x.Window) && decide (y.Due ≤ x.Due)) := by
  unfold M56 M112
  rw [jn_def]
  have := idxL (g := M112_L1 F x.Window.Advisory x.Window.Component x.Window.Severity x.Window.From x.Window.To x.Window.Open x.Due x.WorkDays (some (-1))) (fun y : TLate => decide (y.Window = x.Window) && decide (y.Due ≤ x.Due)) (fun _ => rfl) (fun y l n => by
    have e : M57 F y x.Window.Advisory x.Window.Component x.Window.Severity x.Window.From x.Window.To x.Window.Open x.Due x.WorkDays = some (decide (y.Window = x.Window) && decide (y.Due ≤ x.Due)) := by
      unfold M57
      have e2 : (TWindow.mk x.Window.Advisory x.Window.Component x.Window.Severity x.Window.From x.Window.To x.Window.Open) = x.Window := rfl
      rw [e2]
      by_cases h : y.Window = x.Window
      · rw [if_pos (by simpa using h)]; simp [h]
      · rw [if_neg (by simpa using h)]; simp [h]
    rw [M112_L1, e]
    rfl) l 0
  rw [show ((0 : Nat) : Int) = 0 from rfl] at this
  rw [this]
  cases l.any fun y => decide (y.Window = x.Window) && decide (y.Due ≤ x.Due)
  · rfl
  · simp
theorem M13_L1_eq (F : Nat) (y : List TLate × Int) (k : Option Bool) : ∀ (l : List TLate), (∀ x, x ∈ l → ∃ z, z ∈ y.1 ∧ z.Window = x.Window ∧ z.Due ≤ x.Due) → M13_L1 F y k l = k
  | [], _ => rfl
  | x :: l, h => by
    have ih := M13_L1_eq F y k l (fun z hz => h z (List.mem_cons_of_mem _ hz))
    rw [M13_L1, M56_eq, Option.bind_some]
    obtain ⟨z, h1, h2, h3⟩ := h x (by simp)
    have e : (y.1.any fun z => decide (z.Window = x.Window) && decide (z.Due ≤ x.Due)) = true := by
      rw [List.any_eq_true]
      exact ⟨z, h1, by simp [h2, h3]⟩
    rw [e, if_neg (by simp), ih]
theorem ov_zero {c : TCalendar} {l : List TTerm} {s : TStory} {W : List TWindow} {r : List TLate × Int} (h : OvIs c l s W r) (h0 : r.2 = 0) : cal c = 0 ∧ terms l = 0 ∧ (∀ w, w ∈ W → True) ∧ r = ovr c l [] W ∧ (ovr c l [] W).2 = 0 := by
  unfold OvIs at h
  split at h
  · rename_i h1; rw [h] at h0; exact absurd h0 h1
  · rename_i h1
    split at h
    · rename_i h2; rw [h] at h0; exact absurd h0 h2
    · rename_i h2
      split at h
      · rename_i h3; rw [h] at h0; exact absurd h0 h3
      · exact ⟨by simpa using h1, by simpa using h2, fun _ _ => trivial, h, by rw [← h]; exact h0⟩
theorem ov_more {c c' : TCalendar} (R : Right c) (R' : Right c') (hf : c'.Free = c.Free) (hh : ∀ x, x ∈ c.Holidays → x ∈ c'.Holidays) {l : List TTerm} (hb : ∀ t, t ∈ l → ¬ badT t) {W : List TWindow} (hW : ∀ w, w ∈ W → OkW w)
    (h1 : (ovr c l [] W).2 = 0) (h2 : (ovr c' l [] W).2 = 0) : ∀ x, x ∈ (ovr c' l [] W).1 → ∃ z, z ∈ (ovr c l [] W).1 ∧ z.Window = x.Window ∧ z.Due ≤ x.Due := by
  intro x hx
  rw [ovr_mem h2] at hx
  rcases hx with hx | ⟨w, hw, h3, h4, rfl⟩
  · simp at hx
  have hr := dys_range hb w.Severity
  obtain ⟨m, hm⟩ := Int.eq_ofNat_of_zero_le (hW w hw).f.1
  have hm' : m ≤ 1000000 := by have := (hW w hw).f; omega
  obtain ⟨d, hd, _⟩ := M76_eq 1000003 c R m (dys l w.Severity) hm' (by omega) (by omega) (by omega)
  obtain ⟨d', hd', _⟩ := M76_eq 1000003 c' R' m (dys l w.Severity) hm' (by omega) (by omega) (by omega)
  have hle := least_more hf hh hd hd'
  have e1 : ld c w.From (dys l w.Severity) = d := by rw [hm]; exact hd.ld
  have e2 : ld c' w.From (dys l w.Severity) = d' := by rw [hm]; exact hd'.ld
  refine ⟨late c l w, (ovr_mem h1).2 (.inr ⟨w, hw, h3, ?_, rfl⟩), rfl, ?_⟩
  · rw [e1]; rw [e2] at h4; omega
  · show ((ld c w.From (dys l w.Severity) : Nat) : Int) ≤ ((ld c' w.From (dys l w.Severity) : Nat) : Int)
    rw [e1, e2]; omega
theorem plain_13 (c : TCalendar) (l : List TTerm) (s : TStory) (holiday : Int) (hc : okTCalendar c) (_ : ((∀ a, a ∈ l → (fun x : TTerm => (okTTerm x)) a) ∧ l.length ≤ maxLen)) (hs : okTStory s) (_ : (IntKind.i64).min ≤ holiday ∧ holiday ≤ (IntKind.i64).max) : ∃ F, M13 F c l s holiday = some true := by
  refine ⟨1000003 + c.Holidays.length, ?_⟩
  generalize hFF : 1000003 + c.Holidays.length = F
  have hF : 1000003 ≤ F := by omega
  have hlen : c.Holidays.length ≤ maxLen := hc.2.1.2
  unfold maxLen at hlen
  obtain ⟨W, hW, hov⟩ := overdue_eq F l s (okSt_of hs) hF
  obtain ⟨r, e1, e2, e3⟩ := hov c
  obtain ⟨i, b, hi, e4⟩ := M53_any F c.Holidays holiday (by omega) (by omega)
  unfold M13
  rw [e1, e2, Option.bind_some, Option.bind_some, M52_eq, Option.bind_some, if_neg (by simp), if_neg (by simp), e4, Option.bind_some, M23_eq F (by omega)]
  by_cases h1 : r.2 = 0
  · rw [if_neg (by simp [h1])]
    cases b with
    | true => rfl
    | false =>
      obtain ⟨z1, z2, _, z3, z4⟩ := ov_zero e3 h1
      have R := right_of z1
      rw [if_neg (by simp), M21_eq F c (by omega), Option.bind_some, if_neg (by simp [z1]), M55_eq F _ (by have := R.hl; omega), Option.bind_some]
      unfold M54
      rw [if_pos ⟨by simp, ⟨by simp, by simpa using hi⟩, by have := R.hl; simp; omega⟩, Option.bind_some]
      simp only [Int.toNat_natCast]
      obtain ⟨r', f1, f2, f3⟩ := hov (TCalendar.mk c.Free (insL c.Holidays i [holiday]))
      rw [f1, f2, Option.bind_some]
      by_cases h2 : r'.2 = 0
      · rw [if_neg (by simp [h2]), jn_def]
        obtain ⟨y1, y2, _, y3, y4⟩ := ov_zero f3 h2
        have R' := right_of y1
        have hb := (terms_zero z2).2
        rw [M13_L1_eq F r _ r'.1 (by
          rw [z3, y3]
          exact ov_more R R' rfl (fun x hx => by
            show x ∈ insL c.Holidays i [holiday]
            unfold insL
            rw [← List.take_append_drop i c.Holidays] at hx
            rcases List.mem_append.1 hx with hx | hx
            · simp [hx]
            · simp [hx]) hb hW z4 y4)]
        rfl
      · rw [if_pos (by simpa using h2), Option.bind_some, if_pos (by simp)]
        rfl
  · rw [if_pos (by simpa using h1)]; rfl
end Go.Proofs.Ytkciogeafbbggaa
