/- Part of the proof: AHWin. -/
import Derived.Test.YtiphmdpaajjdeaaGreatDoorHAHSrt
namespace Go.Proofs.YtiphmdpaajjdeaaGreatDoor
open Go Go.Pv
set_option linter.unusedVariables false
def alike (w : TWindow) (x : TExposure) : Prop := w.Advisory = x.Advisory ∧ w.Component = x.Component
instance (w : TWindow) (x : TExposure) : Decidable (alike w x) := by unfold alike; exact inferInstance
def newW (p : Thistory_piece) : TWindow := TWindow.mk p.x.Advisory p.x.Component p.x.Severity p.from_ p.to false
def onW (w : TWindow) (p : Thistory_piece) : TWindow := TWindow.mk w.Advisory w.Component p.x.Severity w.From p.to w.Open
/-- The last window of an exposure. -/
def IsLast (o : List TWindow) (x : TExposure) (i : Nat) : Prop := ∃ w, o[i]? = some w ∧ alike w x ∧ ∀ j w', i < j → o[j]? = some w' → ¬ alike w' x
def NoneOf (o : List TWindow) (x : TExposure) : Prop := ∀ w, w ∈ o → ¬ alike w x
/-- The windows that a list of pieces makes. -/
inductive Mk : List Thistory_piece → List TWindow → List TWindow → Prop
  | nil {o : List TWindow} : Mk [] o o
  | new {p : Thistory_piece} {l : List Thistory_piece} {o r : List TWindow} (h : NoneOf o p.x) (t : Mk l (o ++ [newW p]) r) : Mk (p :: l) o r
  | gap {p : Thistory_piece} {l : List Thistory_piece} {o r : List TWindow} {i : Nat} {w : TWindow} (h : IsLast o p.x i) (hw : o[i]? = some w) (hg : w.To ≠ p.from_) (t : Mk l (o ++ [newW p]) r) : Mk (p :: l) o r
  | on {p : Thistory_piece} {l : List Thistory_piece} {o r : List TWindow} {i : Nat} {w : TWindow} (h : IsLast o p.x i) (hw : o[i]? = some w) (hg : w.To = p.from_) (t : Mk l (o.set i (onW w p)) r) : Mk (p :: l) o r
theorem last_new {o : List TWindow} {x y : TExposure} {w : TWindow} {i : Nat} (h : IsLast o y i) (hw : alike w x) (hne : ¬ (x.Advisory = y.Advisory ∧ x.Component = y.Component)) : IsLast (o ++ [w]) y i := by
  obtain ⟨w0, h1, h2, h3⟩ := h
  have hi := (List.getElem?_eq_some_iff.1 h1).1
  refine ⟨w0, by rw [List.getElem?_append, if_pos hi]; exact h1, h2, fun j w' hj hw' => ?_⟩
  rw [List.getElem?_append] at hw'
  split at hw'
  · exact h3 j w' hj hw'
  · have : w' = w := by
      rw [List.getElem?_singleton] at hw'
      split at hw'
      · simpa using hw'.symm
      · simp at hw'
    subst this
    rintro ⟨e1, e2⟩
    exact hne ⟨hw.1.symm.trans e1, hw.2.symm.trans e2⟩
theorem last_self {o : List TWindow} {x : TExposure} {w : TWindow} (hw : alike w x) : IsLast (o ++ [w]) x o.length :=
  ⟨w, by simp, hw, fun j w' hj hw' => by
    have := (List.getElem?_eq_some_iff.1 hw').1
    simp at this; omega⟩
theorem last_set {o : List TWindow} {y : TExposure} {w w' : TWindow} {i j : Nat} (h : IsLast o y j) (hw : o[i]? = some w) (e1 : w'.Advisory = w.Advisory) (e2 : w'.Component = w.Component) : IsLast (o.set i w') y j := by
  obtain ⟨w0, h1, h2, h3⟩ := h
  have hi := (List.getElem?_eq_some_iff.1 hw).1
  have key : ∀ (q : Nat) (u : TWindow), (o.set i w')[q]? = some u → ∃ u' : TWindow, o[q]? = some u' ∧ (alike u y ↔ alike u' y) := by
    intro q u hu
    rw [List.getElem?_set] at hu
    split at hu
    · rename_i e; subst e
      simp at hu; subst hu
      exact ⟨w, hw, by unfold alike; rw [e1, e2]⟩
    · exact ⟨u, hu, Iff.rfl⟩
  by_cases hij : i = j
  · subst hij
    rw [hw] at h1; simp at h1; subst h1
    refine ⟨w', by simp [hi], by unfold alike at h2 ⊢; rw [e1, e2]; exact h2, fun q u hq hu ha => ?_⟩
    obtain ⟨u', g1, g2⟩ := key q u hu
    exact h3 q u' hq g1 (g2.1 ha)
  · refine ⟨w0, by rw [List.getElem?_set, if_neg hij]; exact h1, h2, fun q u hq hu ha => ?_⟩
    obtain ⟨u', g1, g2⟩ := key q u hu
    exact h3 q u' hq g1 (g2.1 ha)
theorem none_set {o : List TWindow} {y : TExposure} {w w' : TWindow} {i : Nat} (h : NoneOf o y) (hw : o[i]? = some w) (e1 : w'.Advisory = w.Advisory) (e2 : w'.Component = w.Component) : NoneOf (o.set i w') y := by
  intro u hu ha
  rcases List.mem_or_eq_of_mem_set hu with h1 | h1
  · exact h u h1 ha
  · subst h1
    exact h w (List.mem_of_getElem? hw) (by unfold alike at ha ⊢; rw [← e1, ← e2]; exact ha)
theorem none_new {o : List TWindow} {x y : TExposure} {w : TWindow} (h : NoneOf o y) (hw : alike w x) (hne : ¬ (x.Advisory = y.Advisory ∧ x.Component = y.Component)) : NoneOf (o ++ [w]) y := by
  intro u hu ha
  rcases List.mem_append.1 hu with h1 | h1
  · exact h u h1 ha
  · simp at h1; subst h1
    exact hne ⟨hw.1.symm.trans ha.1, hw.2.symm.trans ha.2⟩
def Map1 (o : List TWindow) (m : List (Thistory_key × Int)) : Prop := ∀ x : TExposure, (NoneOf o x ∧ mget m (Thistory_key.mk x.Advisory x.Component) = none) ∨ ∃ i : Nat, IsLast o x i ∧ mget m (Thistory_key.mk x.Advisory x.Component) = some (i : Int)
def Map2 (o : List TWindow) (m : List (TExposure × Int)) : Prop := ∀ x : TExposure, (NoneOf o x ∧ mget m (TExposure.mk x.Advisory x.Component 0) = none) ∨ ∃ i : Nat, IsLast o x i ∧ mget m (TExposure.mk x.Advisory x.Component 0) = some ((i + 1 : Nat) : Int)
theorem IsLast.lt {o : List TWindow} {x : TExposure} {i : Nat} (h : IsLast o x i) : i < o.length := by
  obtain ⟨w, h1, _⟩ := h; exact (List.getElem?_eq_some_iff.1 h1).1
theorem Map1.new {o : List TWindow} {m : List (Thistory_key × Int)} (h : Map1 o m) (p : Thistory_piece) : Map1 (o ++ [newW p]) (mput m (Thistory_key.mk p.x.Advisory p.x.Component) ((o.length : Nat) : Int)) := by
  intro y
  have ha : alike (newW p) p.x := ⟨rfl, rfl⟩
  by_cases he : p.x.Advisory = y.Advisory ∧ p.x.Component = y.Component
  · refine .inr ⟨o.length, ?_, ?_⟩
    · exact last_self ⟨ha.1.trans he.1, ha.2.trans he.2⟩
    · rw [mget_mput, if_pos (by rw [he.1, he.2])]
  · rw [mget_mput, if_neg (by intro e; simp at e; exact he e)]
    rcases h y with ⟨h1, h2⟩ | ⟨i, h1, h2⟩
    · exact .inl ⟨none_new h1 ha he, h2⟩
    · exact .inr ⟨i, last_new h1 ha he, h2⟩
theorem Map2.new {o : List TWindow} {m : List (TExposure × Int)} (h : Map2 o m) (p : Thistory_piece) : Map2 (o ++ [newW p]) (mput m (TExposure.mk p.x.Advisory p.x.Component 0) (((o ++ [newW p]).length : Nat) : Int)) := by
  intro y
  have ha : alike (newW p) p.x := ⟨rfl, rfl⟩
  by_cases he : p.x.Advisory = y.Advisory ∧ p.x.Component = y.Component
  · refine .inr ⟨o.length, ?_, ?_⟩
    · exact last_self ⟨ha.1.trans he.1, ha.2.trans he.2⟩
    · rw [mget_mput, if_pos (by rw [he.1, he.2])]; simp
  · rw [mget_mput, if_neg (by intro e; simp at e; exact he e)]
    rcases h y with ⟨h1, h2⟩ | ⟨i, h1, h2⟩
    · exact .inl ⟨none_new h1 ha he, h2⟩
    · exact .inr ⟨i, last_new h1 ha he, h2⟩
theorem Map1.on {o : List TWindow} {m : List (Thistory_key × Int)} (h : Map1 o m) {i : Nat} {w : TWindow} (hw : o[i]? = some w) (p : Thistory_piece) : Map1 (o.set i (onW w p)) m := by
  intro y
  rcases h y with ⟨h1, h2⟩ | ⟨j, h1, h2⟩
  · exact .inl ⟨none_set h1 hw rfl rfl, h2⟩
  · exact .inr ⟨j, last_set h1 hw rfl rfl, h2⟩
theorem Map2.on {o : List TWindow} {m : List (TExposure × Int)} (h : Map2 o m) {i : Nat} {w : TWindow} (hw : o[i]? = some w) (p : Thistory_piece) : Map2 (o.set i (onW w p)) m := by
  intro y
  rcases h y with ⟨h1, h2⟩ | ⟨j, h1, h2⟩
  · exact .inl ⟨none_set h1 hw rfl rfl, h2⟩
  · exact .inr ⟨j, last_set h1 hw rfl rfl, h2⟩
theorem idx_get {α : Type} {xs : List α} {i : Nat} {x : α} (h : xs[i]? = some x) : idx xs (i : Int) = some x := by
  unfold idx; rw [if_pos (by omega), Int.toNat_natCast]; exact h
theorem set_on {o : List TWindow} {i : Nat} {w : TWindow} (hw : o[i]? = some w) (p : Thistory_piece) (hi : i < o.length) :
    idx (o.set i (TWindow.mk w.Advisory w.Component w.Severity w.From p.to w.Open)) (i : Int) = some (TWindow.mk w.Advisory w.Component w.Severity w.From p.to w.Open) ∧
      (o.set i (TWindow.mk w.Advisory w.Component w.Severity w.From p.to w.Open)).set i (TWindow.mk w.Advisory w.Component p.x.Severity w.From p.to w.Open) = o.set i (onW w p) := by
  refine ⟨idx_get (by simp [hi]), by simp [onW]⟩
theorem M26_L1_eq (F : Nat) (k : List TWindow → Option (List TWindow)) : ∀ (l : List Thistory_piece) (o : List TWindow) (m : List (Thistory_key × Int)), Map1 o m → o.length + l.length ≤ 1000000 →
    ∃ r, M26_L1 F k l o m = k r ∧ Mk l o r
  | [], o, m, _, _ => ⟨o, rfl, .nil⟩
  | p :: l, o, m, hm, hl => by
    simp only [List.length_cons] at hl
    rw [M26_L1]
    unfold M54
    simp only [Option.bind_some, jn_def]
    have app : ∃ r, (if (o ++ ([(TWindow.mk p.x.Advisory p.x.Component p.x.Severity p.from_ p.to false)] : List TWindow)).length * 64 ≤ 140737488355328 then M26_L1 F k l (o ++ ([(TWindow.mk p.x.Advisory p.x.Component p.x.Severity p.from_ p.to false)] : List TWindow)) (mput m (Thistory_key.mk p.x.Advisory p.x.Component) ((o.length : Nat) : Int)) else none) = k r ∧ Mk l (o ++ [newW p]) r := by
      rw [if_pos (by simp; omega)]
      exact M26_L1_eq F k l (o ++ [newW p]) _ (hm.new p) (by simp; omega)
    rcases hm p.x with ⟨h1, h2⟩ | ⟨i, h1, h2⟩
    · rw [h2]
      rw [if_neg (by simp)]
      obtain ⟨r, r1, r2⟩ := app
      exact ⟨r, r1, .new h1 r2⟩
    · rw [h2]
      obtain ⟨w, hw, _⟩ := id h1
      have hi := h1.lt
      obtain ⟨s1, s2⟩ := set_on hw p hi
      simp only [Option.isSome_some, if_true, Option.getD_some, idx_get hw, Option.bind_some, Int.toNat_natCast, s1, s2]
      by_cases hg : w.To = p.from_
      · rw [if_pos (by simpa using hg)]
        obtain ⟨r, r1, r2⟩ := M26_L1_eq F k l (o.set i (onW w p)) m (hm.on hw p) (by simp; omega)
        exact ⟨r, r1, .on h1 hw hg r2⟩
      · rw [if_neg (by simpa using hg)]
        obtain ⟨r, r1, r2⟩ := app
        exact ⟨r, r1, .gap h1 hw hg r2⟩
theorem last_uniq {o : List TWindow} {x : TExposure} {i j : Nat} (h : IsLast o x i) (g : IsLast o x j) : i = j := by
  obtain ⟨w, a1, a2, a3⟩ := h
  obtain ⟨u, b1, b2, b3⟩ := g
  rcases Nat.lt_trichotomy i j with h | h | h
  · exact absurd b2 (a3 j u h b1)
  · exact h
  · exact absurd a2 (b3 i w h a1)
theorem last_none {o : List TWindow} {x : TExposure} {i : Nat} (h : IsLast o x i) (g : NoneOf o x) : False := by
  obtain ⟨w, a1, a2, a3⟩ := h
  exact g w (List.mem_of_getElem? a1) a2
def akin (a b : TExposure) : Prop := a.Advisory = b.Advisory ∧ a.Component = b.Component
def Apart (l : List Thistory_piece) : Prop := l.Pairwise fun p q => akin p.x q.x → p.to ≤ q.from_
def wakin (a b : TWindow) : Prop := a.Advisory = b.Advisory ∧ a.Component = b.Component
structure Good (o : List TWindow) : Prop where
  pos : ∀ w, w ∈ o → w.From < w.To
  sep : o.Pairwise fun a b => wakin a b → a.To < b.From
theorem wakin_of {a b : TWindow} {x : TExposure} (h : alike a x) (g : alike b x) : wakin a b := ⟨h.1.trans g.1.symm, h.2.trans g.2.symm⟩
theorem Good.new {o : List TWindow} (h : Good o) {p : Thistory_piece} (hp : p.from_ < p.to) (hle : ∀ w, w ∈ o → alike w p.x → w.To ≤ p.from_) (hne : ∀ i w, IsLast o p.x i → o[i]? = some w → w.To ≠ p.from_) : Good (o ++ [newW p]) := by
  refine ⟨fun w hw => ?_, List.pairwise_append.2 ⟨h.sep, List.pairwise_singleton _ _, fun a ha b hb hab => ?_⟩⟩
  · rcases List.mem_append.1 hw with hw | hw
    · exact h.pos w hw
    · simp at hw; subst hw; exact hp
  · simp at hb; subst hb
    have hax : alike a p.x := ⟨hab.1, hab.2⟩
    show a.To < p.from_
    -- the last one of them
    have hlast : ∃ i w, IsLast o p.x i ∧ o[i]? = some w ∧ a.To ≤ w.To := by
      obtain ⟨j, hj, rfl⟩ := List.getElem_of_mem ha
      -- go up from j
      have up : ∀ (n j : Nat) (hj : j < o.length), o.length - j ≤ n → alike o[j] p.x → ∃ i w, IsLast o p.x i ∧ o[i]? = some w ∧ o[j].To ≤ w.To := by
        intro n
        induction n with
        | zero => intro j hj hn; omega
        | succ n ih =>
          intro j hj hn hal
          by_cases hex : ∃ q, ∃ hq : q < o.length, j < q ∧ alike o[q] p.x
          · obtain ⟨q, hq, hjq, haq⟩ := hex
            obtain ⟨i, w, i1, i2, i3⟩ := ih q hq (by omega) haq
            have := List.pairwise_iff_getElem.1 h.sep j q hj hq hjq (wakin_of hal haq)
            have := h.pos o[q] (List.getElem_mem _)
            exact ⟨i, w, i1, i2, by omega⟩
          · refine ⟨j, o[j], ⟨o[j], List.getElem?_eq_getElem hj, hal, fun q u hq hu hau => ?_⟩, List.getElem?_eq_getElem hj, Int.le_refl _⟩
            obtain ⟨hq', e⟩ := List.getElem?_eq_some_iff.1 hu
            exact hex ⟨q, hq', hq, by rw [e]; exact hau⟩
      exact up _ j hj (Nat.le_refl _) hax
    obtain ⟨i, w, i1, i2, i3⟩ := hlast
    have h1 := hne i w i1 i2
    have h2 := hle w (List.mem_of_getElem? i2) (by obtain ⟨w', a1, a2, _⟩ := i1; rw [i2] at a1; simp at a1; subst a1; exact a2)
    omega
theorem Good.on {o : List TWindow} (h : Good o) {p : Thistory_piece} (hp : p.from_ < p.to) {i : Nat} {w : TWindow} (hl : IsLast o p.x i) (hw : o[i]? = some w) (he : w.To = p.from_) : Good (o.set i (onW w p)) := by
  have hi := hl.lt
  have hwe : o[i] = w := by rw [List.getElem?_eq_getElem hi] at hw; simpa using hw
  have hal : alike w p.x := by obtain ⟨w', a1, a2, _⟩ := hl; rw [hw] at a1; simp at a1; subst a1; exact a2
  have hpos := h.pos w (List.mem_of_getElem? hw)
  refine ⟨fun u hu => ?_, List.pairwise_iff_getElem.2 fun a b ha hb hab hk => ?_⟩
  · rcases List.mem_or_eq_of_mem_set hu with h1 | h1
    · exact h.pos u h1
    · subst h1; show w.From < p.to; omega
  · simp only [List.length_set] at ha hb
    have hs := List.pairwise_iff_getElem.1 h.sep a b ha hb hab
    rw [List.getElem_set, List.getElem_set] at hk ⊢
    by_cases h1 : i = a
    · by_cases h2 : i = b
      · omega
      · exfalso
        rw [if_pos h1, if_neg h2] at hk
        obtain ⟨w', a1, a2, a3⟩ := hl
        exact a3 b o[b] (by omega) (List.getElem?_eq_getElem hb) ⟨hk.1.symm.trans hal.1, hk.2.symm.trans hal.2⟩
    · rw [if_neg h1] at hk ⊢
      by_cases h2 : i = b
      · rw [if_pos h2] at hk ⊢
        have hb' : o[b] = w := by rw [← hwe]; congr 1; exact h2.symm
        rw [hb'] at hs
        exact hs hk
      · rw [if_neg h2] at hk ⊢; exact hs hk
theorem Mk.good : ∀ {l : List Thistory_piece} {o r : List TWindow}, Mk l o r → Apart l → (∀ p, p ∈ l → p.from_ < p.to) → Good o → (∀ p, p ∈ l → ∀ w, w ∈ o → alike w p.x → w.To ≤ p.from_) → Good r := by
  intro l o r h
  induction h with
  | nil => intro _ _ h _; exact h
  | @new p l o r hn t ih =>
    intro ha hp hg hle
    have ha := List.pairwise_cons.1 ha
    refine ih ha.2 (fun q hq => hp q (List.mem_cons_of_mem _ hq)) (hg.new (hp p (by simp)) (hle p (by simp)) (fun i w hi => (last_none hi hn).elim)) (fun q hq w hw hal => ?_)
    rcases List.mem_append.1 hw with hw | hw
    · exact hle q (List.mem_cons_of_mem _ hq) w hw hal
    · simp at hw; subst hw; exact ha.1 q hq ⟨hal.1, hal.2⟩
  | @gap p l o r i w hi hw hgp t ih =>
    intro ha hp hg hle
    have ha := List.pairwise_cons.1 ha
    refine ih ha.2 (fun q hq => hp q (List.mem_cons_of_mem _ hq)) (hg.new (hp p (by simp)) (hle p (by simp)) (fun j u hj hu => ?_)) (fun q hq u hu hal => ?_)
    · have := last_uniq hi hj; subst this
      rw [hw] at hu; simp at hu; subst hu; exact hgp
    · rcases List.mem_append.1 hu with hu | hu
      · exact hle q (List.mem_cons_of_mem _ hq) u hu hal
      · simp at hu; subst hu; exact ha.1 q hq ⟨hal.1, hal.2⟩
  | @on p l o r i w hi hw hgp t ih =>
    intro ha hp hg hle
    have ha := List.pairwise_cons.1 ha
    have hal : alike w p.x := by obtain ⟨w', a1, a2, _⟩ := hi; rw [hw] at a1; simp at a1; subst a1; exact a2
    refine ih ha.2 (fun q hq => hp q (List.mem_cons_of_mem _ hq)) (hg.on (hp p (by simp)) hi hw hgp) (fun q hq u hu hau => ?_)
    rcases List.mem_or_eq_of_mem_set hu with h1 | h1
    · exact hle q (List.mem_cons_of_mem _ hq) u h1 hau
    · subst h1
      exact ha.1 q hq ⟨hal.1.symm.trans hau.1, hal.2.symm.trans hau.2⟩
theorem pc_some {K : KMap} {r : TRelease} {e : Int} {x : TExposure} {p : Thistory_piece} (h : pc K r e x = some p) : p.x = x ∧ p.from_ < p.to ∧ r.Day ≤ p.from_ ∧ p.to ≤ e := by
  unfold pc at h
  split at h
  · rename_i hc
    simp only [Option.some.injEq] at h
    subst h
    refine ⟨rfl, hc, ?_, ?_⟩
    · show r.Day ≤ pfrom K r x; unfold pfrom; split <;> omega
    · show pto K e x ≤ e; unfold pto; split
      · split <;> omega
      · omega
  · simp at h
theorem pcs_mem {K : KMap} {u : Int} {p : Thistory_piece} : ∀ {l : List TRelease}, p ∈ pcs K u l → ∃ r, r ∈ l ∧ p.x ∈ r.Exposures ∧ p.from_ < p.to ∧ r.Day ≤ p.from_
  | [], h => by simp [pcs] at h
  | r :: l, h => by
    rw [pcs] at h
    rcases List.mem_append.1 h with h | h
    · obtain ⟨x, hx, hp⟩ := List.mem_filterMap.1 h
      obtain ⟨h1, h2, h3, _⟩ := pc_some hp
      exact ⟨r, by simp, by rw [h1]; exact hx, h2, h3⟩
    · obtain ⟨r', h1, h2⟩ := pcs_mem h
      exact ⟨r', List.mem_cons_of_mem _ h1, h2⟩
theorem pcs_apart {K : KMap} {u : Int} : ∀ {l : List TRelease}, l.Pairwise (fun a b => a.Day < b.Day) → (∀ r, r ∈ l → r.Exposures.Pairwise fun a b => bef a b = true) → Apart (pcs K u l)
  | [], _, _ => by simp [pcs, Apart]
  | r :: l, hp, he => by
    have hp := List.pairwise_cons.1 hp
    rw [pcs]
    unfold Apart
    rw [List.pairwise_append]
    refine ⟨?_, pcs_apart hp.2 (fun r hr => he r (List.mem_cons_of_mem _ hr)), fun p h q hq _ => ?_⟩
    · have := he r (by simp)
      rw [List.pairwise_filterMap]
      refine this.imp fun {a b} hab p hpa q hqb hk => ?_
      obtain ⟨h1, _⟩ := pc_some hpa
      obtain ⟨h2, _⟩ := pc_some hqb
      exfalso
      rw [h1, h2] at hk
      exact bef_key hab hk
    · obtain ⟨x, _, hpa⟩ := List.mem_filterMap.1 h
      obtain ⟨_, _, _, h4⟩ := pc_some hpa
      obtain ⟨r', h5, _, _, h6⟩ := pcs_mem hq
      match l, h5, hp with
      | r2 :: l, h5, hp =>
        have h7 : p.to ≤ r2.Day := h4
        rcases List.mem_cons.1 h5 with rfl | h5
        · omega
        · have := (List.pairwise_cons.1 hp.2).1 r' h5; omega
/-- The windows of a right story in the order in which they are made. -/
theorem raw_ok {s : TStory} (R : RightS s) {r : List TWindow} (h : Mk (pcs (kmap [] s.Known) s.Until s.Releases) [] r) : Good r :=
  h.good (pcs_apart R.days fun r hr => (exps_zero (R.rel r hr).2.2.2).2.1) (fun p hp => by obtain ⟨_, _, _, h, _⟩ := pcs_mem hp; exact h) ⟨by simp, List.Pairwise.nil⟩ (by simp)
theorem Mk.len : ∀ {l : List Thistory_piece} {o r : List TWindow}, Mk l o r → r.length ≤ o.length + l.length := by
  intro l o r h
  induction h with
  | nil => simp
  | new _ _ ih => simp at ih ⊢; omega
  | gap _ _ _ _ ih => simp at ih ⊢; omega
  | on _ _ _ _ ih => simp at ih ⊢; omega
def mark (u : Int) (w : TWindow) : TWindow := TWindow.mk w.Advisory w.Component w.Severity w.From w.To (w.To == u)
theorem openL (u : Int) (k : List TWindow → Option (List TWindow)) (g : Nat → Int → List TWindow → Option (List TWindow)) (h0 : ∀ n l, g 0 n l = k l)
    (h1 : ∀ m n l, g (m + 1) n l = (idx l n).bind fun x38 => (idx l n).bind fun x40 => g m (n + 1) (l.set n.toNat (TWindow.mk x40.Advisory x40.Component x40.Severity x40.From x40.To (x38.To == u)))) :
    ∀ (B A : List TWindow), g B.length (A.length : Nat) (A ++ B) = k (A ++ B.map (mark u))
  | [], A => by rw [List.length_nil, h0]; simp
  | w :: B, A => by
    have e : (((A.length : Nat) : Int) + 1) = (((A ++ [mark u w]).length : Nat) : Int) := by simp
    rw [List.length_cons, h1, ixA rfl, Option.bind_some, Option.bind_some, Int.toNat_natCast, seA rfl, e]
    have := openL u k g h0 h1 B (A ++ [mark u w])
    have e2 : A ++ TWindow.mk w.Advisory w.Component w.Severity w.From w.To (w.To == u) :: B = A ++ [mark u w] ++ B := by simp [mark]
    rw [e2, this]
    simp
theorem M26_eq (F : Nat) (s : TStory) (R : RightS s) (hF : 1000000 ≤ F) : ∃ raw W, Mk (pcs (kmap [] s.Known) s.Until s.Releases) [] raw ∧ M26 F s = some W ∧ Srt wlt W ∧ W.Perm (raw.map (mark s.Until)) := by
  unfold M26
  rw [M34_eq F s R, Option.bind_some]
  simp only [jn_def]
  have hlen := pcs_len R (kmap [] s.Known)
  obtain ⟨raw, h1, h2⟩ := M26_L1_eq F (fun l5 => M26_L2 F s (fun l32 => (M55 F l32).bind fun y43 => some y43) (((l5.length : Nat) : Int)).toNat 0 l5) (pcs (kmap [] s.Known) s.Until s.Releases) [] [] (fun x => .inl ⟨by intro w hw; simp at hw, rfl⟩) (by simp; omega)
  rw [h1, Int.toNat_natCast]
  have hl := h2.len
  simp at hl
  have := openL s.Until (fun l32 => (M55 F l32).bind fun y43 => some y43) (M26_L2 F s (fun l32 => (M55 F l32).bind fun y43 => some y43)) (fun _ _ => rfl) (fun m n l => by rw [M26_L2]) raw []
  rw [List.nil_append, List.nil_append, List.length_nil, show ((0 : Nat) : Int) = 0 from rfl] at this
  rw [this]
  obtain ⟨W, w1, w2, w3⟩ := M55_eq F (raw.map (mark s.Until)) (by simp; omega) hF
  rw [w1]
  exact ⟨raw, W, h2, rfl, w2, w3⟩
end Go.Proofs.YtiphmdpaajjdeaaGreatDoor
