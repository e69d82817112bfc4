/- Part of the proof: AHP. -/
import Derived.Test.YtiphmdpaajjdeaaGreatDoorHAHNum
import Derived.Test.YtiphmdpaajjdeaaGreatDoorHAHCut
import Derived.Test.YtiphmdpaajjdeaaGreatDoorHAHWhy
namespace Go.Proofs.YtiphmdpaajjdeaaGreatDoor
open Go Go.Pv
set_option linter.unusedVariables false
set_option linter.unusedSimpArgs false
set_option maxRecDepth 100000
theorem Mk.cover (y : TExposure) (day : Int) : ∀ {l : List Thistory_piece} {o r : List TWindow}, Mk l o r → (∀ p, p ∈ l → p.from_ < p.to) → (∀ w, w ∈ o → w.From < w.To) →
    ((∃ w, w ∈ r ∧ alike w y ∧ inDay day w = true) ↔ (∃ w, w ∈ o ∧ alike w y ∧ inDay day w = true) ∨ ∃ p, p ∈ l ∧ akin p.x y ∧ onDay day p = true) := by
  intro l o r h
  have snoc : ∀ {o : List TWindow} {p : Thistory_piece} {l : List Thistory_piece}, ((∃ w, w ∈ o ++ [newW p] ∧ alike w y ∧ inDay day w = true) ∨ ∃ q, q ∈ l ∧ akin q.x y ∧ onDay day q = true) ↔ ((∃ w, w ∈ o ∧ alike w y ∧ inDay day w = true) ∨ ∃ q, q ∈ p :: l ∧ akin q.x y ∧ onDay day q = true) := by
    intro o p l
    constructor
    · rintro (⟨w, hw, h1, h2⟩ | ⟨q, hq, h1⟩)
      · rcases List.mem_append.1 hw with hw | hw
        · exact .inl ⟨w, hw, h1, h2⟩
        · simp at hw; subst hw; exact .inr ⟨p, by simp, h1, h2⟩
      · exact .inr ⟨q, List.mem_cons_of_mem _ hq, h1⟩
    · rintro (⟨w, hw, h1⟩ | ⟨q, hq, h1, h2⟩)
      · exact .inl ⟨w, List.mem_append_left _ hw, h1⟩
      · rcases List.mem_cons.1 hq with rfl | hq
        · exact .inl ⟨newW q, by simp, h1, h2⟩
        · exact .inr ⟨q, hq, h1, h2⟩
  have posn : ∀ {o : List TWindow} {p : Thistory_piece}, p.from_ < p.to → (∀ w, w ∈ o → w.From < w.To) → ∀ w, w ∈ o ++ [newW p] → w.From < w.To := by
    intro o p hp ho w hw
    rcases List.mem_append.1 hw with hw | hw
    · exact ho w hw
    · simp at hw; subst hw; exact hp
  induction h with
  | nil => intro _ _; simp
  | @new p l o r hn t ih =>
    intro hp ho
    rw [ih (fun q hq => hp q (List.mem_cons_of_mem _ hq)) (posn (hp p (by simp)) ho), snoc]
  | @gap p l o r i w hi hw hg t ih =>
    intro hp ho
    rw [ih (fun q hq => hp q (List.mem_cons_of_mem _ hq)) (posn (hp p (by simp)) ho), snoc]
  | @on p l o r i w hi hw hg t ih =>
    intro hp ho
    have hlt := hi.lt
    have hpos := ho w (List.mem_of_getElem? hw)
    have hpp := hp p (by simp)
    have hal : alike w p.x := by obtain ⟨w', a1, a2, _⟩ := hi; rw [hw] at a1; simp at a1; subst a1; exact a2
    rw [ih (fun q hq => hp q (List.mem_cons_of_mem _ hq)) (fun u hu => by
      rcases List.mem_or_eq_of_mem_set hu with hu | hu
      · exact ho u hu
      · subst hu; show w.From < p.to; omega)]
    have e : inDay day (onW w p) = true ↔ inDay day w = true ∨ onDay day p = true := by
      unfold inDay onDay onW
      simp only [Bool.and_eq_true, decide_eq_true_eq]
      omega
    have ha2 : alike (onW w p) y ↔ alike w y := Iff.rfl
    have ha3 : alike w y ↔ akin p.x y := by
      unfold alike akin
      rw [hal.1, hal.2]
    constructor
    · rintro (⟨u, hu, h1, h2⟩ | ⟨q, hq, h1⟩)
      · rcases List.mem_or_eq_of_mem_set hu with hu | hu
        · exact .inl ⟨u, hu, h1, h2⟩
        · subst hu
          rcases e.1 h2 with h2 | h2
          · exact .inl ⟨w, List.mem_of_getElem? hw, h1, h2⟩
          · exact .inr ⟨p, by simp, ha3.1 h1, h2⟩
      · exact .inr ⟨q, List.mem_cons_of_mem _ hq, h1⟩
    · have hin : onW w p ∈ o.set i (onW w p) := by
        apply List.mem_of_getElem? (i := i)
        simp [hlt]
      rintro (⟨u, hu, h1, h2⟩ | ⟨q, hq, h1, h2⟩)
      · by_cases hux : u = w
        · subst hux; exact .inl ⟨onW u p, hin, h1, e.2 (.inl h2)⟩
        · obtain ⟨j, hj, rfl⟩ := List.getElem_of_mem hu
          refine .inl ⟨o[j], ?_, h1, h2⟩
          apply List.mem_of_getElem? (i := j)
          rw [List.getElem?_set]
          rw [if_neg]
          · simp [hj]
          · intro e; subst e
            rw [List.getElem?_eq_getElem hj] at hw
            simp at hw; exact hux hw
      · rcases List.mem_cons.1 hq with rfl | hq
        · exact .inl ⟨onW w q, hin, ha3.2 h1, e.2 (.inr h2)⟩
        · exact .inr ⟨q, hq, h1, h2⟩
def far (a b : TWindow) : Prop := wakin a b → a.To < b.From ∨ b.To < a.From
theorem far_symm {a b : TWindow} (h : far a b) : far b a := fun k => (h ⟨k.1.symm, k.2.symm⟩).symm
structure Sep (l : List TWindow) : Prop where
  pos : ∀ w, w ∈ l → w.From < w.To
  far : l.Pairwise far
theorem pw_of {α : Type} {R : α → α → Prop} (hs : ∀ {a b}, R a b → R b a) : ∀ {l : List α}, l.Pairwise R → ∀ {a b : α}, a ∈ l → b ∈ l → a ≠ b → R a b
  | [], _, a, b, ha, _, _ => by simp at ha
  | x :: l, h, a, b, ha, hb, hne => by
    have h := List.pairwise_cons.1 h
    rcases List.mem_cons.1 ha with ea | ha' <;> rcases List.mem_cons.1 hb with eb | hb'
    · exact absurd (ea.trans eb.symm) hne
    · rw [ea]; exact h.1 b hb'
    · rw [eb]; exact hs (h.1 a ha')
    · exact pw_of hs h.2 ha' hb' hne
theorem Sep.of {l : List TWindow} (h : Sep l) {a b : TWindow} (ha : a ∈ l) (hb : b ∈ l) (hne : a ≠ b) : Go.Proofs.YtiphmdpaajjdeaaGreatDoor.far a b := pw_of far_symm h.far ha hb hne
def Cov (l : List TWindow) (y : TExposure) (d : Int) : Prop := ∃ w, w ∈ l ∧ alike w y ∧ inDay d w = true
theorem inDay_iff {d : Int} {w : TWindow} : inDay d w = true ↔ w.From ≤ d ∧ d < w.To := by unfold inDay; simp
theorem sep_half {A B : List TWindow} (hA : Sep A) (hB : Sep B) (hc : ∀ y d, Cov A y d ↔ Cov B y d) {a : TWindow} (ha : a ∈ A) : ∃ b, b ∈ B ∧ wakin a b ∧ a.From = b.From ∧ a.To = b.To := by
  let y : TExposure := TExposure.mk a.Advisory a.Component 0
  have ay : alike a y := ⟨rfl, rfl⟩
  have pa := hA.pos a ha
  obtain ⟨b, hb, b1, b2⟩ := (hc y a.From).1 ⟨a, ha, ay, inDay_iff.2 ⟨by omega, by omega⟩⟩
  have b2 := inDay_iff.1 b2
  have hab : wakin a b := ⟨b1.1.symm, b1.2.symm⟩
  refine ⟨b, hb, hab, ?_, ?_⟩
  · by_cases h : a.From = b.From
    · exact h
    · exfalso
      obtain ⟨a', h1, h2, h3⟩ := (hc y (a.From - 1)).2 ⟨b, hb, b1, inDay_iff.2 ⟨by omega, by omega⟩⟩
      have h3 := inDay_iff.1 h3
      have hne : a ≠ a' := fun e => by subst e; omega
      have := hA.of ha h1 hne ⟨h2.1.symm, h2.2.symm⟩
      omega
  · rcases Int.lt_trichotomy a.To b.To with h | h | h
    · exfalso
      obtain ⟨a', h1, h2, h3⟩ := (hc y a.To).2 ⟨b, hb, b1, inDay_iff.2 ⟨by omega, by omega⟩⟩
      have h3 := inDay_iff.1 h3
      have hne : a ≠ a' := fun e => by subst e; omega
      have := hA.of ha h1 hne ⟨h2.1.symm, h2.2.symm⟩
      omega
    · exact h
    · exfalso
      obtain ⟨b', h1, h2, h3⟩ := (hc y b.To).1 ⟨a, ha, ay, inDay_iff.2 ⟨by omega, by omega⟩⟩
      have h3 := inDay_iff.1 h3
      have hne : b ≠ b' := fun e => by subst e; omega
      have := hB.of hb h1 hne ⟨b1.1.trans h2.1.symm, b1.2.trans h2.2.symm⟩
      omega
/-- What the law compares of a window. -/
def core (w : TWindow) : TWindow := TWindow.mk w.Advisory w.Component 0 w.From w.To false
theorem sep_nodup {l : List TWindow} (h : Sep l) : (l.map core).Nodup := by
  unfold List.Nodup
  rw [List.pairwise_map]
  have hp := h.pos
  have hf := h.far
  clear h
  induction l with
  | nil => exact List.Pairwise.nil
  | cons x l ih =>
    have hf := List.pairwise_cons.1 hf
    refine List.pairwise_cons.2 ⟨fun b hb e => ?_, ih (fun w hw => hp w (List.mem_cons_of_mem _ hw)) hf.2⟩
    simp only [core, TWindow.mk.injEq] at e
    have := hf.1 b hb ⟨e.1, e.2.1⟩
    have := hp x (by simp)
    have := hp b (List.mem_cons_of_mem _ hb)
    omega
theorem core_mem {A B : List TWindow} (hA : Sep A) (hB : Sep B) (hc : ∀ y d, Cov A y d ↔ Cov B y d) {c : TWindow} (h : c ∈ A.map core) : c ∈ B.map core := by
  obtain ⟨a, ha, rfl⟩ := List.mem_map.1 h
  obtain ⟨b, hb, h1, h2, h3⟩ := sep_half hA hB hc ha
  refine List.mem_map.2 ⟨b, hb, ?_⟩
  unfold core
  rw [h1.1, h1.2, h2, h3]
theorem srt_core {l : List TWindow} (h : Srt wlt l) : Srt wlt (l.map core) := by
  unfold Srt at h ⊢
  rw [List.pairwise_map]
  exact h
theorem same_core {A B : List TWindow} (hA : Sep A) (hB : Sep B) (hc : ∀ y d, Cov A y d ↔ Cov B y d) (sA : Srt wlt A) (sB : Srt wlt B) : A.map core = B.map core := by
  have hp : (A.map core).Perm (B.map core) := (List.perm_ext_iff_of_nodup (sep_nodup hA) (sep_nodup hB)).2 fun c => ⟨core_mem hA hB hc, core_mem hB hA (fun y d => (hc y d).symm)⟩
  refine srt_unique (fun x hx y hy h1 h2 => ?_) (srt_core sA) (srt_core sB) hp
  obtain ⟨a, ha, rfl⟩ := List.mem_map.1 hx
  obtain ⟨b, hb, rfl⟩ := List.mem_map.1 hy
  rcases wlt_tri (core a) (core b) with g | g | g
  · rw [g] at h1; simp at h1
  · by_cases e : a = b
    · rw [e]
    · exfalso
      have g1 : a.From = b.From := g.1
      have := hA.of ha hb e ⟨g.2.1, g.2.2⟩
      have := hA.pos a ha
      have := hA.pos b hb
      omega
  · rw [g] at h2; simp at h2
theorem Good.sep' {l : List TWindow} (h : Good l) : Sep l := ⟨h.pos, h.sep.imp fun {a b} h k => .inl (h k)⟩
theorem Sep.perm {A B : List TWindow} (h : Sep A) (p : B.Perm A) : Sep B :=
  ⟨fun w hw => h.pos w (p.mem_iff.1 hw), (p.pairwise_iff (R := Go.Proofs.YtiphmdpaajjdeaaGreatDoor.far) far_symm).2 h.far⟩
theorem Sep.mark {A : List TWindow} (h : Sep A) (u : Int) : Sep (A.map (mark u)) := by
  refine ⟨fun w hw => ?_, ?_⟩
  · obtain ⟨a, ha, rfl⟩ := List.mem_map.1 hw; exact h.pos a ha
  · rw [List.pairwise_map]; exact h.far
/-- The part of a window that lies before a day. -/
def clip (d : Int) (w : TWindow) : Option TWindow := if w.From < d then some (TWindow.mk w.Advisory w.Component w.Severity w.From (if d < w.To then d else w.To) w.Open) else none
theorem clip_some {d : Int} {w v : TWindow} (h : clip d w = some v) : w.From < d ∧ v.Advisory = w.Advisory ∧ v.Component = w.Component ∧ v.From = w.From ∧ v.To = if d < w.To then d else w.To := by
  unfold clip at h
  split at h
  · simp at h; subst h; exact ⟨by assumption, rfl, rfl, rfl, rfl⟩
  · simp at h
theorem Sep.clip {A : List TWindow} (h : Sep A) (d : Int) : Sep (A.filterMap (clip d)) := by
  refine ⟨fun w hw => ?_, ?_⟩
  · obtain ⟨a, ha, e⟩ := List.mem_filterMap.1 hw
    obtain ⟨h1, _, _, h2, h3⟩ := clip_some e
    have := h.pos a ha
    rw [h2, h3]; split <;> omega
  · rw [List.pairwise_filterMap]
    refine h.far.imp fun {a b} hab u hu v hv k => ?_
    obtain ⟨a1, a2, a3, a4, a5⟩ := clip_some hu
    obtain ⟨b1, b2, b3, b4, b5⟩ := clip_some hv
    have := hab ⟨by rw [← a2, ← b2]; exact k.1, by rw [← a3, ← b3]; exact k.2⟩
    rw [a4, a5, b4, b5]
    split <;> split <;> omega
theorem srt_clip {A : List TWindow} (h : Srt wlt A) (d : Int) : Srt wlt (A.filterMap (clip d)) := by
  unfold Srt at h ⊢
  rw [List.pairwise_filterMap]
  refine h.imp fun {a b} hab u hu v hv => ?_
  obtain ⟨a1, a2, a3, a4, a5⟩ := clip_some hu
  obtain ⟨b1, b2, b3, b4, b5⟩ := clip_some hv
  rw [← hab]
  unfold wlt
  rw [a2, a3, a4, b2, b3, b4]
theorem cov_clip {A : List TWindow} {d : Int} {y : TExposure} {day : Int} : Cov (A.filterMap (clip d)) y day ↔ Cov A y day ∧ day < d := by
  constructor
  · rintro ⟨w, hw, h1, h2⟩
    obtain ⟨a, ha, e⟩ := List.mem_filterMap.1 hw
    obtain ⟨a1, a2, a3, a4, a5⟩ := clip_some e
    have h2 := inDay_iff.1 h2
    rw [a4, a5] at h2
    refine ⟨⟨a, ha, ⟨a2.symm.trans h1.1, a3.symm.trans h1.2⟩, inDay_iff.2 ?_⟩, ?_⟩
    · split at h2 <;> omega
    · split at h2 <;> omega
  · rintro ⟨⟨w, hw, h1, h2⟩, h3⟩
    have h2 := inDay_iff.1 h2
    have e : clip d w = some (TWindow.mk w.Advisory w.Component w.Severity w.From (if d < w.To then d else w.To) w.Open) := by unfold clip; rw [if_pos (by omega)]
    refine ⟨_, List.mem_filterMap.2 ⟨w, hw, e⟩, h1, inDay_iff.2 ?_⟩
    simp only
    split <;> omega
theorem cov_map {A : List TWindow} {u : Int} {y : TExposure} {day : Int} : Cov (A.map (mark u)) y day ↔ Cov A y day := by
  constructor
  · rintro ⟨w, hw, h1, h2⟩
    obtain ⟨a, ha, rfl⟩ := List.mem_map.1 hw
    exact ⟨a, ha, h1, h2⟩
  · rintro ⟨w, hw, h1, h2⟩
    exact ⟨mark u w, List.mem_map.2 ⟨w, hw, rfl⟩, h1, h2⟩
theorem cov_perm {A B : List TWindow} (h : A.Perm B) {y : TExposure} {day : Int} : Cov A y day ↔ Cov B y day := by
  unfold Cov; simp only [h.mem_iff]
theorem wins5 (F : Nat) (s : TStory) (h : okSt s) (hF : 1000000 ≤ F) : ∃ r, M5 F s = some r ∧ (chk s ≠ 0 → r = ([], chk s)) ∧
    (chk s = 0 → r.2 = 0 ∧ r.1.length ≤ 250000 ∧ Srt wlt r.1 ∧ Sep r.1 ∧ ∀ y d, Cov r.1 y d ↔ ∃ x, x ∈ onSel (kmap [] s.Known) d (usedR s d) ∧ akin x y) := by
  unfold M5
  rw [M25_eq F s h, Option.bind_some]
  by_cases h1 : chk s = 0
  · rw [if_neg (by simp [h1])]
    have R := right_of_chk h1
    obtain ⟨raw, W, g1, g2, g3, g4⟩ := M26_eq F s R hF
    rw [g2, Option.bind_some]
    have G := (raw_ok R g1).sep'
    refine ⟨(W, 0), rfl, fun h => absurd h1 h, fun _ => ⟨rfl, ?_, g3, (G.mark s.Until).perm g4, fun y d => ?_⟩⟩
    · have := g4.length_eq
      have h2 := g1.len
      have h3 := pcs_len R (kmap [] s.Known)
      simp at this h2
      simp; omega
    · show Cov W y d ↔ _
      rw [cov_perm g4, cov_map, ← on_eq R d]
      have := g1.cover y d (fun p hp => by obtain ⟨_, _, _, h, _⟩ := pcs_mem hp; exact h) (by simp)
      unfold Cov
      rw [this]
      constructor
      · rintro (⟨w, hw, _⟩ | ⟨p, hp, h1, h2⟩)
        · simp at hw
        · exact ⟨p.x, List.mem_map.2 ⟨p, List.mem_filter.2 ⟨hp, h2⟩, rfl⟩, h1⟩
      · rintro ⟨x, hx, h1⟩
        obtain ⟨p, hp, rfl⟩ := List.mem_map.1 hx
        obtain ⟨hp, h2⟩ := List.mem_filter.1 hp
        exact .inr ⟨p, hp, h1, h2⟩
  · rw [if_pos (by simpa using h1)]
    exact ⟨([], chk s), rfl, fun _ => rfl, fun h => absurd h h1⟩
theorem lastOn_filter (day d : Int) (hd : day < d) : ∀ (l : List TRelease) (o : Option TRelease), lastOn day (l.filter (fun x => decide (x.Day < d))) o = lastOn day l o
  | [], o => rfl
  | x :: l, o => by
    rw [List.filter_cons]
    by_cases h : x.Day < d
    · rw [if_pos (by simpa using h), lastOn, lastOn, lastOn_filter day d hd]
    · rw [if_neg (by simpa using h), lastOn, if_neg (by omega), lastOn_filter day d hd]
theorem used_cut (s : TStory) (d day : Int) : usedR (cutS s d) day = if day < d then usedR s day else none := by
  unfold usedR cutS
  simp only
  by_cases h : day < d
  · rw [if_pos h]
    by_cases h2 : day ≥ s.Until
    · rw [if_pos h2, if_pos]; split <;> omega
    · rw [if_neg h2, if_neg (by split <;> omega), lastOn_filter day d h]
  · rw [if_neg h, if_pos]; split <;> omega
theorem cov_cut {s : TStory} {d day : Int} {y : TExposure} : (∃ x, x ∈ onSel (kmap [] (cutS s d).Known) day (usedR (cutS s d) day) ∧ akin x y) ↔ (∃ x, x ∈ onSel (kmap [] s.Known) day (usedR s day) ∧ akin x y) ∧ day < d := by
  rw [used_cut, show (cutS s d).Known = s.Known from rfl]
  by_cases h : day < d
  · rw [if_pos h]; simp [h]
  · rw [if_neg h]
    constructor
    · rintro ⟨x, hx, _⟩; simp [onSel, noRel] at hx
    · rintro ⟨_, h2⟩; exact absurd h2 h
theorem M3_L1_eq (F : Nat) (d : Int) (k : List TWindow → Option Bool) : ∀ (l o : List TWindow), o.length + l.length ≤ 1000000 → M3_L1 F d k l o = k (o ++ l.filterMap (clip d))
  | [], o, _ => by rw [M3_L1]; simp
  | w :: l, o, h => by
    simp only [List.length_cons] at h
    rw [M3_L1]
    simp only [jn_def]
    by_cases hw : w.From < d
    · have e : clip d w = some (TWindow.mk w.Advisory w.Component w.Severity w.From (if d < w.To then d else w.To) w.Open) := by unfold clip; rw [if_pos hw]
      rw [if_t hw, if_pos (by simp; omega), M3_L1_eq F d k l _ (by simp; omega), List.filterMap_cons_some e]
      simp
    · have e : clip d w = none := by unfold clip; rw [if_neg hw]
      rw [if_f hw, M3_L1_eq F d k l o (by omega), List.filterMap_cons_none e]
theorem M8_eq (F : Nat) {a b : TWindow} (h : core a = core b) : M8 F a b = some true := by
  simp only [core, TWindow.mk.injEq] at h
  unfold M8
  simp [h.1, h.2.1, h.2.2.2.1, h.2.2.2.2.1]
theorem M9_L1_eq (F : Nat) (B : List TWindow) (k : Option Bool) : ∀ (l : List TWindow) (n : Nat), l.map core = (B.drop n).map core → M9_L1 F B k l n = k
  | [], n, _ => rfl
  | x :: l, n, h => by
    cases hb : B.drop n with
    | nil => rw [hb] at h; simp at h
    | cons y B' =>
      obtain ⟨hn, hx, hl⟩ := drop_at hb
      rw [hb] at h
      simp only [List.map_cons, List.cons.injEq] at h
      rw [M9_L1, idx_nat hn, Option.bind_some, hx, M8_eq F h.1, Option.bind_some, if_neg (by simp), show ((n : Int) + 1) = ((n + 1 : Nat) : Int) from rfl]
      exact M9_L1_eq F B k l (n + 1) (by rw [hl]; exact h.2)
theorem M9_eq (F : Nat) {A B : List TWindow} (h : A.map core = B.map core) : M9 F A B = some true := by
  unfold M9
  have hl : A.length = B.length := by simpa using congrArg List.length h
  rw [if_neg (by simp [hl]), jn_def]
  have := M9_L1_eq F B (some true) A 0 (by simpa using h)
  exact this
theorem days_add (d sv : Int) (hd : 0 ≤ d ∧ d ≤ 1000000) (l : List Thistory_piece) : days 0 d sv l + days d 1000000 sv l = days 0 1000000 sv l := by
  unfold days
  obtain ⟨n, rfl⟩ : ∃ n : Nat, d = n := ⟨d.toNat, by omega⟩
  have hn : n ≤ 1000000 := by omega
  have e : (1000000 : Int).toNat = n + (1000000 - n) := by omega
  rw [e, List.range_add, List.countP_append, List.countP_append, Int.toNat_natCast]
  have h1 : (List.range n).countP (hit (n : Int) sv l) = 0 := by
    rw [List.countP_eq_zero]
    intro x hx
    have := List.mem_range.1 hx
    unfold hit
    rw [show decide ((n : Int) ≤ (x : Int)) = false by simp; omega]
    simp
  have h2 : ((List.range (1000000 - n)).map fun x => n + x).countP (hit (n : Int) sv l) = ((List.range (1000000 - n)).map fun x => n + x).countP (hit 0 sv l) := by
    apply List.countP_congr
    intro x hx
    obtain ⟨y, _, rfl⟩ := List.mem_map.1 hx
    unfold hit
    rw [show decide ((n : Int) ≤ ((n + y : Nat) : Int)) = true by simp; omega, show decide ((0 : Int) ≤ ((n + y : Nat) : Int)) = true by simp; omega]
  rw [h1, h2, Nat.zero_add]
theorem exposed10 (F : Nat) (s : TStory) (h : okSt s) (hF : 3000000 ≤ F) (f t sv : Int) (h0 : chk s = 0) (hf : 0 ≤ f ∧ f ≤ t) (ht : t ≤ 1000000) (hs : 0 ≤ sv ∧ sv ≤ 100) :
    M10 F s f t sv = some (((days f t sv (pcs (kmap [] s.Known) s.Until s.Releases) : Nat) : Int), 0) := by
  unfold M10
  rw [M32_eq F s _ _ _ h, Option.bind_some]
  have R := right_of_chk h0
  rw [if_neg (show ¬ chk s ≠ 0 by simpa using h0), if_neg (show ¬ (f < 0 ∨ f > t ∨ t > 1000000 ∨ sv < 0 ∨ sv > 100) by omega), if_neg (show ¬ ((0 : Int) != 0) = true by simp)]
  have hl := pcs_len R (kmap [] s.Known)
  have hu := R.unt
  have hfrom : ∀ p, p ∈ pcs (kmap [] s.Known) s.Until s.Releases → 0 ≤ p.from_ ∧ p.from_ ≤ 1000000 := fun p hp => by have := pcs_from R p hp; omega
  obtain ⟨W, w1, w2, w3⟩ := M33_eq F (pcs (kmap [] s.Known) s.Until s.Releases) (by omega) (by omega)
  rw [M34_eq F s R, Option.bind_some, w1, Option.bind_some]
  simp only [jn_def]
  rw [M10_L1_eq F f t sv (by omega) (by omega) _ W [] 0 f ⟨by unfold days; rw [List.countP_eq_zero.2 (fun d _ => by simp [hit])]; rfl, by omega, by omega, fun d _ _ h => by simp at h, .inl rfl⟩ (by simpa using w2) (fun p hp => by have := hfrom p (w3.mem_iff.1 hp); omega)]
  rw [List.nil_append, days_perm w3]
theorem M12_eq (F : Nat) (l : List TExposure) (w : TWindow) : M12 F l w.Advisory w.Component w.Severity w.From w.To w.Open = some (l.any fun e => e.Advisory == w.Advisory && e.Component == w.Component) := by
  unfold M12 M38
  rw [jn_def]
  have := idxL (g := M38_L1 F w.Advisory w.Component w.Severity w.From w.To w.Open (some (-1))) (fun e : TExposure => e.Advisory == w.Advisory && e.Component == w.Component) (fun _ => rfl) (fun y l n => by
    have e : M13 F y w.Advisory w.Component w.Severity w.From w.To w.Open = some (y.Advisory == w.Advisory && y.Component == w.Component) := by
      unfold M13
      cases h : y.Advisory == w.Advisory <;> simp
    rw [M38_L1, e]
    rfl) l 0
  rw [show ((0 : Nat) : Int) = 0 from rfl] at this
  rw [this]
  cases l.any fun e => e.Advisory == w.Advisory && e.Component == w.Component
  · rfl
  · simp
theorem day_ok {F : Nat} {s : TStory} {W : List TWindow} (ok : okSt s) (h0 : chk s = 0) (hc : ∀ y d, Cov W y d ↔ ∃ x, x ∈ onSel (kmap [] s.Known) d (usedR s d) ∧ akin x y) {w : TWindow} (hw : w ∈ W) {day : Int} (hin : inDay day w = true) :
    0 ≤ day ∧ day ≤ 1000000 ∧ ∃ r, M11 F s day = some (r, true, 0) ∧ (r.Exposures.any fun e => e.Advisory == w.Advisory && e.Component == w.Component) = true := by
  have R := right_of_chk h0
  obtain ⟨x, hx, hk⟩ := (hc (TExposure.mk w.Advisory w.Component 0) day).1 ⟨w, hw, ⟨rfl, rfl⟩, hin⟩
  have hp := hx
  rw [← on_eq R day] at hp
  obtain ⟨p, hp', rfl⟩ := List.mem_map.1 hp
  obtain ⟨hp, hon⟩ := List.mem_filter.1 hp'
  have hb := pcs_from R p hp
  have hu := R.unt
  unfold onDay at hon
  simp only [Bool.and_eq_true, decide_eq_true_eq] at hon
  have hd : 0 ≤ day ∧ day ≤ 1000000 := by omega
  refine ⟨hd.1, hd.2, ?_⟩
  rw [M11_eq F s day ok]
  unfold usedX
  cases hr : usedR s day with
  | none => rw [hr] at hx; simp [onSel, noRel] at hx
  | some r =>
    rw [hr] at hx
    refine ⟨r, ?_, ?_⟩
    · simp [h0, hd]
    · refine List.any_eq_true.2 ⟨p.x, ?_, ?_⟩
      · unfold onSel at hx
        exact (List.mem_filter.1 hx).1
      · simp only [Bool.and_eq_true, beq_iff_eq]
        exact ⟨hk.1, hk.2⟩
theorem M3_L2_eq (F : Nat) (s : TStory) (k : Option Bool) (W : List TWindow) (ok : okSt s) (h0 : chk s = 0) (hS : Sep W) (hc : ∀ y d, Cov W y d ↔ ∃ x, x ∈ onSel (kmap [] s.Known) d (usedR s d) ∧ akin x y) :
    ∀ (l : List TWindow), (∀ w, w ∈ l → w ∈ W) → M3_L2 F s k l = k
  | [], _ => rfl
  | w :: l, h => by
    have ih := M3_L2_eq F s k W ok h0 hS hc l (fun v hv => h v (List.mem_cons_of_mem _ hv))
    have hw := h w (by simp)
    have hp := hS.pos w hw
    rw [M3_L2]
    simp only [jn_def]
    rw [ih, if_pos (by omega), Int.toNat_natCast]
    obtain ⟨a1, a2, r, a3, a4⟩ := day_ok (F := F) ok h0 hc hw (day := w.From) (inDay_iff.2 ⟨by omega, by omega⟩)
    obtain ⟨b1, b2, q, b3, b4⟩ := day_ok (F := F) ok h0 hc hw (day := w.To - 1) (inDay_iff.2 ⟨by omega, by omega⟩)
    have e : w64 (w.To - 1) = w.To - 1 := w64_id (by omega) (by omega)
    rw [M3_L3, e, show idx ([w.From, w.To - 1] : List Int) 0 = some w.From from rfl, Option.bind_some, a3, Option.bind_some, if_neg (by simp), if_neg (by simp)]
    simp only [M12_eq, a4, Option.bind_some]
    rw [if_neg (by simp), M3_L3, e, show idx ([w.From, w.To - 1] : List Int) (0 + 1) = some (w.To - 1) from rfl, Option.bind_some, b3, Option.bind_some, if_neg (by simp), if_neg (by simp)]
    simp only [M12_eq, b4, Option.bind_some]
    rw [if_neg (by simp), M3_L3]
theorem plain_3 (s : TStory) (d v : Int) (hs : okTStory s) (hd : (IntKind.i64).min ≤ d ∧ d ≤ (IntKind.i64).max) (hv : (IntKind.i64).min ≤ v ∧ v ≤ (IntKind.i64).max) : ∃ F, M3 F s d v = some true := by
  refine ⟨4000003, ?_⟩
  generalize hF : 4000003 = F
  have ok := okSt_of hs
  unfold M3
  obtain ⟨r, r1, r2, r3⟩ := wins5 F s ok (by omega)
  rw [r1, Option.bind_some, M6_eq F s d ok, Option.bind_some]
  have told : ∀ {b : Option Bool}, (M7 F).bind (fun y => some y) = some true := rfl
  by_cases h0 : chk s = 0
  · obtain ⟨g1, g2, g3, g4, g5⟩ := r3 h0
    rw [if_neg (by simp [g1])]
    have R := right_of_chk h0
    by_cases hd0 : 0 ≤ d ∧ d ≤ 1000000
    · have hc : cutX s d = (cutS s d, 0) := by unfold cutX; rw [if_neg (by simpa using h0), if_neg (by simpa using hd0)]
      rw [hc, if_neg (by simp)]
      by_cases hv1 : v < 0
      · rw [if_t hv1]; rfl
      rw [if_f hv1]
      by_cases hv2 : v > 100
      · rw [if_t hv2]; rfl
      rw [if_f hv2]
      have RC := cutRight R hd0
      have okC := cutOk (day := d) ok
      have c0 := chk_right RC
      obtain ⟨q, q1, _, q3⟩ := wins5 F (cutS s d) okC (by omega)
      obtain ⟨k1, k2, k3, k4, k5⟩ := q3 c0
      simp only [jn_def]
      rw [q1, Option.bind_some, if_neg (by simp [k1]), M3_L1_eq F d _ r.1 [] (by simp; omega), List.nil_append]
      have hcov : ∀ y day, Cov q.1 y day ↔ Cov (r.1.filterMap (clip d)) y day := fun y day => by
        rw [cov_clip, k5, g5, cov_cut]
      rw [M9_eq F (same_core k4 (g4.clip d) hcov k3 (srt_clip g3 d)), Option.bind_some, if_neg (by simp)]
      rw [exposed10 F s ok (by omega) 0 d v h0 (by omega) (by omega) (by omega), exposed10 F s ok (by omega) d 1000000 v h0 (by omega) (by omega) (by omega), exposed10 F s ok (by omega) 0 1000000 v h0 (by omega) (by omega) (by omega)]
      simp only [Option.bind_some]
      rw [if_neg (by simp), if_neg (by simp), if_neg (by simp)]
      have ha := days_add d v hd0 (pcs (kmap [] s.Known) s.Until s.Releases)
      have l1 := days_le 0 d v (pcs (kmap [] s.Known) s.Until s.Releases)
      have l2 := days_le d 1000000 v (pcs (kmap [] s.Known) s.Until s.Releases)
      have e : w64 (((days 0 d v (pcs (kmap [] s.Known) s.Until s.Releases) : Nat) : Int) + ((days d 1000000 v (pcs (kmap [] s.Known) s.Until s.Releases) : Nat) : Int)) = ((days 0 1000000 v (pcs (kmap [] s.Known) s.Until s.Releases) : Nat) : Int) := by
        rw [← ha, w64_id (by omega) (by omega)]; simp
      rw [e, if_neg (by simp)]
      exact M3_L2_eq F s _ r.1 ok h0 g4 g5 r.1 (fun w hw => hw)
    · have hc : (cutX s d).2 ≠ 0 := by unfold cutX; rw [if_neg (by simpa using h0), if_pos (by rw [decide_eq_false hd0]; rfl)]; simp
      rw [if_pos (by simpa using hc)]; rfl
  · rw [r2 h0, if_pos (by simpa using h0)]; rfl
end Go.Proofs.YtiphmdpaajjdeaaGreatDoor
