/- Part of the proof: HWhy. -/
import Derived.Test.YtkciogeafbbggaaDHWin
namespace Go.Proofs.Ytkciogeafbbggaa
open Go Go.Pv
set_option linter.unusedVariables false
def inDay (day : Int) (w : TWindow) : Bool := decide (w.From ≤ day) && decide (day < w.To)
theorem Mk.count (day : Int) : ∀ {l : List Thistory_piece} {o r : List TWindow}, Mk l o r → (∀ p, p ∈ l → p.from_ < p.to) → (∀ w, w ∈ o → w.From < w.To) → r.countP (inDay day) = o.countP (inDay day) + l.countP (onDay day) := by
  intro l o r h
  induction h with
  | nil => intro _ _; simp
  | @new p l o r hn t ih =>
    intro hp ho
    rw [ih (fun q hq => hp q (List.mem_cons_of_mem _ hq)) (fun w hw => by
      rcases List.mem_append.1 hw with hw | hw
      · exact ho w hw
      · simp at hw; subst hw; exact hp p (by simp))]
    have : inDay day (newW p) = onDay day p := rfl
    simp only [List.countP_append, List.countP_cons, List.countP_nil, this]; omega
  | @gap p l o r i w hi hw hg t ih =>
    intro hp ho
    rw [ih (fun q hq => hp q (List.mem_cons_of_mem _ hq)) (fun w hw => by
      rcases List.mem_append.1 hw with hw | hw
      · exact ho w hw
      · simp at hw; subst hw; exact hp p (by simp))]
    have : inDay day (newW p) = onDay day p := rfl
    simp only [List.countP_append, List.countP_cons, List.countP_nil, this]; omega
  | @on p l o r i w hi hw hg t ih =>
    intro hp ho
    have hlt := hi.lt
    have hwe : o[i] = w := by rw [List.getElem?_eq_getElem hlt] at hw; simpa using hw
    have hpos := ho w (List.mem_of_getElem? hw)
    have hpp := hp p (by simp)
    have ho' : o = o.take i ++ w :: o.drop (i + 1) := by rw [← hwe]; simp
    have hs : o.set i (onW w p) = o.take i ++ onW w p :: o.drop (i + 1) := List.set_eq_take_append_cons_drop ▸ (by rw [if_pos hlt])
    rw [ih (fun q hq => hp q (List.mem_cons_of_mem _ hq)) (fun u hu => by
      rcases List.mem_or_eq_of_mem_set hu with hu | hu
      · exact ho u hu
      · subst hu; show w.From < p.to; omega), hs, List.countP_append, List.countP_cons, List.countP_cons]
    conv => rhs; rw [ho', List.countP_append, List.countP_cons]
    have e : (if inDay day (onW w p) = true then 1 else 0) = (if inDay day w = true then 1 else 0) + (if onDay day p = true then 1 else 0) := by
      unfold inDay onDay onW
      simp only [Bool.and_eq_true, decide_eq_true_eq]
      split <;> split <;> split <;> omega
    omega
theorem Mk.from' (day : Int) (L : List TExposure) : ∀ {l : List Thistory_piece} {o r : List TWindow}, Mk l o r → (∀ p, p ∈ l → onDay day p = true → p.x ∈ L) → (∀ w, w ∈ o → inDay day w = true → ∃ x, x ∈ L ∧ alike w x) → ∀ w, w ∈ r → inDay day w = true → ∃ x, x ∈ L ∧ alike w x := by
  intro l o r h
  induction h with
  | nil => intro _ h; exact h
  | @new p l o r hn t ih =>
    intro hp ho
    refine ih (fun q hq => hp q (List.mem_cons_of_mem _ hq)) (fun w hw hin => ?_)
    rcases List.mem_append.1 hw with hw | hw
    · exact ho w hw hin
    · simp at hw; subst hw; exact ⟨p.x, hp p (by simp) hin, rfl, rfl⟩
  | @gap p l o r i w hi hw hg t ih =>
    intro hp ho
    refine ih (fun q hq => hp q (List.mem_cons_of_mem _ hq)) (fun w hw hin => ?_)
    rcases List.mem_append.1 hw with hw | hw
    · exact ho w hw hin
    · simp at hw; subst hw; exact ⟨p.x, hp p (by simp) hin, rfl, rfl⟩
  | @on p l o r i w hi hw hg t ih =>
    intro hp ho
    have hal : alike w p.x := by obtain ⟨w', a1, a2, _⟩ := hi; rw [hw] at a1; simp at a1; subst a1; exact a2
    refine ih (fun q hq => hp q (List.mem_cons_of_mem _ hq)) (fun u hu hin => ?_)
    rcases List.mem_or_eq_of_mem_set hu with hu | hu
    · exact ho u hu hin
    · subst hu
      by_cases hold : inDay day w = true
      · obtain ⟨x, hx, hax⟩ := ho w (List.mem_of_getElem? hw) hold
        exact ⟨x, hx, hax⟩
      · refine ⟨p.x, hp p (by simp) ?_, hal⟩
        unfold inDay at hold hin
        unfold onDay
        have hin' : (decide (w.From ≤ day) && decide (day < p.to)) = true := hin
        simp only [Bool.and_eq_true, decide_eq_true_eq] at hold hin' ⊢
        omega
theorem M43_1_eq (F : Nat) (l : List TExposure) (x : TWindow) : M43_1 F l x.Advisory x.Component x.Severity x.From x.To x.Open = some (l.any fun e => e.Advisory == x.Advisory && e.Component == x.Component) := by
  unfold M43_1 M100_1
  rw [jn_def]
  have := idxL (g := M100_1_L1 F x.Advisory x.Component x.Severity x.From x.To x.Open (some (-1))) (fun e : TExposure => e.Advisory == x.Advisory && e.Component == x.Component) (fun _ => rfl) (fun y l n => by
    have e : M44 F y x.Advisory x.Component x.Severity x.From x.To x.Open = some (y.Advisory == x.Advisory && y.Component == x.Component) := by
      unfold M44
      cases h : y.Advisory == x.Advisory <;> simp
    rw [M100_1_L1, e]
    rfl) l 0
  rw [show ((0 : Nat) : Int) = 0 from rfl] at this
  rw [this]
  cases l.any fun e => e.Advisory == x.Advisory && e.Component == x.Component
  · rfl
  · simp
theorem M10_L2_eq (F : Nat) (x : TWindow) (k : Option Bool) : ∀ (l : List TWindow), (∀ y, y ∈ l → wakin x y → y.To < x.From) → M10_L2 F x k l = k
  | [], _ => rfl
  | y :: l, h => by
    have ih := M10_L2_eq F x k l (fun z hz => h z (List.mem_cons_of_mem _ hz))
    rw [M10_L2, jn_def, ih]
    by_cases h1 : x.Advisory = y.Advisory
    · rw [if_pos (by simpa using h1)]
      by_cases h2 : x.Component = y.Component
      · have := h y (by simp) ⟨h1, h2⟩
        rw [if_pos (by simpa using h2), if_f (by omega)]
      · rw [if_neg (by simpa using h2)]
    · rw [if_neg (by simpa using h1)]
theorem M10_L1_eq (F : Nat) (day : Int) (y3 : List TExposure × Int) (y5 : List TWindow × Int) (k : Int → Option Bool) (hlen : y5.1.length ≤ 1000000) (hpos : ∀ w, w ∈ y5.1 → w.From < w.To)
    (hsep : y5.1.Pairwise fun a b => wakin b a → a.To < b.From) (hin : ∀ w, w ∈ y5.1 → inDay day w = true → (y3.1.any fun e => e.Advisory == w.Advisory && e.Component == w.Component) = true) :
    ∀ (l : List TWindow) (n : Nat) (c : Nat), y5.1.drop n = l → c ≤ n → M10_L1 F day y3 y5 k l n c = k ((c + l.countP (inDay day) : Nat) : Int)
  | [], n, c, _, _ => by simp [M10_L1]
  | x :: l, n, c, hd, hc => by
    obtain ⟨hn, hx, hl⟩ := drop_at hd
    have hxm : x ∈ y5.1 := by rw [← hx]; exact List.getElem_mem _
    have hxp := hpos x hxm
    have e : ((n : Int) + 1) = ((n + 1 : Nat) : Int) := rfl
    rw [M10_L1]
    simp only [jn_def]
    rw [if_f (by omega), if_pos ⟨by omega, by simp; omega⟩, M10_L2_eq F x _ _ (fun y hy hk => by
      rw [Int.toNat_natCast] at hy
      obtain ⟨i, hi, rfl⟩ := List.getElem_of_mem hy
      rw [List.length_take] at hi
      rw [List.getElem_take] at hk ⊢
      have := List.pairwise_iff_getElem.1 hsep i n (by omega) hn (by omega)
      rw [hx] at this
      exact this hk), e]
    have ew : w64 ((c : Int) + 1) = ((c + 1 : Nat) : Int) := by rw [w64_id (by omega) (by omega)]; rfl
    by_cases h1 : day < x.From
    · rw [if_t h1, M10_L1_eq F day y3 y5 k hlen hpos hsep hin l (n + 1) c hl (by omega), List.countP_cons]
      have : inDay day x = false := by unfold inDay; simp; omega
      simp [this]
    · rw [if_f h1]
      by_cases h2 : day ≥ x.To
      · rw [if_t h2, M10_L1_eq F day y3 y5 k hlen hpos hsep hin l (n + 1) c hl (by omega), List.countP_cons]
        have : inDay day x = false := by unfold inDay; simp; omega
        simp [this]
      · have hi : inDay day x = true := by unfold inDay; simp; omega
        rw [if_f h2, M43_1_eq, Option.bind_some, hin x hxm hi, if_neg (by simp), ew, M10_L1_eq F day y3 y5 k hlen hpos hsep hin l (n + 1) (c + 1) hl (by omega), List.countP_cons, if_pos hi]
        congr 2; omega
theorem plain_10 (s : TStory) (day : Int) (hs : okTStory s) (hd : (IntKind.i64).min ≤ day ∧ day ≤ (IntKind.i64).max) : ∃ F, M10 F s day = some true := by
  refine ⟨1000003, ?_⟩
  generalize hF : 1000003 = F
  unfold M10
  have h := okSt_of hs
  obtain ⟨r, h1, h2, h3, h4⟩ := wins_eq F s h (by omega)
  simp only [M33_eq F s day h, M34_eq F s day h, h1, Option.bind_some, M23_eq F (by omega), jn_def]
  by_cases he : (opn s day).2 = 0
  · rw [if_neg (by simp [he])]
    have hc : chk s = 0 := by
      unfold opn at he
      split at he
      · rename_i h; exact absurd he h
      · rename_i h; simpa using h
    obtain ⟨raw, g1, g2, g3, g4, _⟩ := h4 hc
    have R := right_of_chk hc
    have G := raw_ok R g1
    rw [if_neg (by simp [g4])]
    have ho : (opn s day).1 = ((pcs (kmap [] s.Known) s.Until s.Releases).filter (onDay day)).map (·.x) := by
      unfold opn at he ⊢
      rw [if_neg (by simp [hc])] at he ⊢
      split at he
      · simp at he
      · rename_i h; rw [if_neg h, on_eq R day]
    have hwl := g3.length_eq
    have hrl := g1.len
    have hpl := pcs_len R (kmap [] s.Known)
    simp at hwl hrl
    have mk : ∀ w, w ∈ r.1 → ∃ w0, w0 ∈ raw ∧ mark s.Until w0 = w := fun w hw => List.mem_map.1 (g3.mem_iff.1 hw)
    have pos : ∀ w, w ∈ r.1 → w.From < w.To := by
      intro w hw
      obtain ⟨w0, a1, rfl⟩ := mk w hw
      exact G.pos w0 a1
    have key := M10_L1_eq F day (opn s day) r (fun n20 => if (n20 == ((((opn s day).1).length : Nat) : Int)) = true then some true else some false) (by omega) pos (by
      refine List.pairwise_iff_getElem.2 fun i j hi hj hij hk => ?_
      have hsrt := List.pairwise_iff_getElem.1 g2 i j hi hj hij
      have p1 := pos r.1[i] (List.getElem_mem _)
      have p2 := pos r.1[j] (List.getElem_mem _)
      have hle : r.1[i].From ≤ r.1[j].From := by
        rcases Int.lt_or_le r.1[j].From r.1[i].From with hlt | hle
        · have : wlt r.1[j] r.1[i] = true := wlt_iff.2 (.inl hlt)
          rw [this] at hsrt; simp at hsrt
        · exact hle
      -- the two windows in the order in which they were made
      have nd : (raw.map (mark s.Until)).Pairwise fun a b => wakin a b → a.To < b.From := by
        rw [List.pairwise_map]; exact G.sep
      have sym : r.1.Pairwise fun a b => wakin a b → a.To < b.From ∨ b.To < a.From := by
        refine (g3.pairwise_iff (R := fun a b => wakin a b → a.To < b.From ∨ b.To < a.From) (fun {a b} hab hk => (hab ⟨hk.1.symm, hk.2.symm⟩).symm)).2 ?_
        exact nd.imp fun {a b} hab hk => .inl (hab hk)
      have := List.pairwise_iff_getElem.1 sym i j hi hj hij ⟨hk.1.symm, hk.2.symm⟩
      omega) (by
      intro w hw hin
      obtain ⟨w0, a1, rfl⟩ := mk w hw
      obtain ⟨x, hx, hax⟩ := g1.from' day (opn s day).1 (fun p hp hon => by
        rw [ho]
        exact List.mem_map.2 ⟨p, List.mem_filter.2 ⟨hp, hon⟩, rfl⟩) (by simp) w0 a1 hin
      refine List.any_eq_true.2 ⟨x, hx, ?_⟩
      simp only [mark, Bool.and_eq_true, beq_iff_eq]
      exact ⟨hax.1.symm, hax.2.symm⟩) r.1 0 0 rfl (Nat.le_refl _)
    rw [show ((0 : Nat) : Int) = 0 from rfl] at key
    rw [key]
    have hcount : r.1.countP (inDay day) = (opn s day).1.length := by
      rw [g3.countP_eq, List.countP_map]
      have e : (inDay day ∘ mark s.Until) = inDay day := rfl
      rw [e, g1.count day (fun p hp => by obtain ⟨_, _, _, h, _⟩ := pcs_mem hp; exact h) (by simp), ho, List.length_map, ← List.countP_eq_length_filter]
      simp
    rw [hcount]
    simp
  · rw [if_pos (by simpa using he)]
    simp
end Go.Proofs.Ytkciogeafbbggaa
