/- Part of the proof: AHOpn. -/
import Derived.Test.YtiphmdpaajjdeaaGreatDoorHAHChk
namespace Go.Proofs.YtiphmdpaajjdeaaGreatDoor
open Go Go.Pv
set_option linter.unusedVariables false
abbrev KMap := List ((List UInt8) × TPublished)
def kmap (m : KMap) : List TPublished → KMap
  | [] => m
  | x :: r => kmap (mput m x.Advisory x) r
def kget (m : KMap) (a : List UInt8) : TPublished := (mget m a).getD (TPublished.mk ([] : List UInt8) 0 0)
theorem kmap_other (a : List UInt8) : ∀ (l : List TPublished) (m : KMap), (∀ k, k ∈ l → k.Advisory ≠ a) → mget (kmap m l) a = mget m a
  | [], m, _ => rfl
  | x :: l, m, h => by
    rw [kmap, kmap_other a l _ (fun k hk => h k (List.mem_cons_of_mem _ hk)), mget_mput, if_neg (h x (by simp))]
theorem kmap_get {k : TPublished} : ∀ (l : List TPublished) (m : KMap), l.Pairwise (fun a b => Op.bytesLess a.Advisory b.Advisory = true) → k ∈ l → mget (kmap m l) k.Advisory = some k
  | [], m, _, h => by simp at h
  | x :: l, m, hp, h => by
    rw [List.pairwise_cons] at hp
    rw [kmap]
    rcases List.mem_cons.1 h with rfl | h
    · rw [kmap_other, mget_mput, if_pos rfl]
      exact fun y hy e => bl_ne (hp.1 y hy) e.symm
    · exact kmap_get l _ hp.2 h
theorem M34_L1_eq {F : Nat} (k : KMap → Option (List Thistory_piece)) : ∀ (l : List TPublished) (m : KMap), M34_L1 F k l m = k (kmap m l)
  | [], m => rfl
  | x :: l, m => by rw [M34_L1, M34_L1_eq k l]; rfl
def pfrom (K : KMap) (r : TRelease) (x : TExposure) : Int := if (kget K x.Advisory).Day > r.Day then (kget K x.Advisory).Day else r.Day
def pto (K : KMap) (e : Int) (x : TExposure) : Int := if (kget K x.Advisory).Ended ≥ 0 then (if (kget K x.Advisory).Ended < e then (kget K x.Advisory).Ended else e) else e
def pc (K : KMap) (r : TRelease) (e : Int) (x : TExposure) : Option Thistory_piece := if pfrom K r x < pto K e x then some (Thistory_piece.mk x (pfrom K r x) (pto K e x)) else none
def endOf (u : Int) : List TRelease → Int
  | [] => u
  | r :: _ => r.Day
def pcs (K : KMap) (u : Int) : List TRelease → List Thistory_piece
  | [] => []
  | r :: l => r.Exposures.filterMap (pc K r (endOf u l)) ++ pcs K u l
theorem filterMapL {α β R : Type} {g : List α → List β → Option R} {k : List β → Option R} (p : α → Option β) (B : Nat) (h0 : ∀ o, g [] o = k o)
    (h1 : ∀ x l o, o.length < B → g (x :: l) o = (p x).elim (g l o) (fun y => g l (o ++ [y]))) :
    ∀ (l : List α) (o : List β), o.length + l.length ≤ B → g l o = k (o ++ l.filterMap p)
  | [], o, _ => by simp [h0]
  | x :: l, o, h => by
    simp only [List.length_cons] at h
    rw [h1 x l o (by omega)]
    cases hp : p x
    · simp only [Option.elim_none]
      rw [filterMapL p B h0 h1 l o (by omega)]; simp [hp]
    · simp only [Option.elim_some]
      rw [filterMapL p B h0 h1 l _ (by simp; omega)]; simp [hp]
theorem M34_L3_eq (F : Nat) (K : KMap) (r : TRelease) (e : Int) (k : List Thistory_piece → Option (List Thistory_piece)) (l : List TExposure) (o : List Thistory_piece) (h : o.length + l.length ≤ 1000000) :
    M34_L3 F K r e k l o = k (o ++ l.filterMap (pc K r e)) :=
  filterMapL (pc K r e) 1000000 (fun _ => rfl) (fun x l o ho => by
    rw [M34_L3]
    simp only [jn_def]
    have body : ∀ t : Int, pto K e x = t → (if (decide ((if ((mget K x.Advisory).getD (TPublished.mk ([] : List UInt8) 0 0)).Day > r.Day then ((mget K x.Advisory).getD (TPublished.mk ([] : List UInt8) 0 0)).Day else r.Day) < t)) = true then
        if (o ++ ([(Thistory_piece.mk x (if ((mget K x.Advisory).getD (TPublished.mk ([] : List UInt8) 0 0)).Day > r.Day then ((mget K x.Advisory).getD (TPublished.mk ([] : List UInt8) 0 0)).Day else r.Day) t)] : List Thistory_piece)).length * 56 ≤ 140737488355328 then M34_L3 F K r e k l (o ++ ([(Thistory_piece.mk x (if ((mget K x.Advisory).getD (TPublished.mk ([] : List UInt8) 0 0)).Day > r.Day then ((mget K x.Advisory).getD (TPublished.mk ([] : List UInt8) 0 0)).Day else r.Day) t)] : List Thistory_piece)) else none
        else M34_L3 F K r e k l o) = (pc K r e x).elim (M34_L3 F K r e k l o) (fun y => M34_L3 F K r e k l (o ++ [y])) := by
      intro t ht
      subst ht
      unfold pc
      by_cases hc : pfrom K r x < pto K e x
      · rw [if_pos hc]
        unfold pfrom kget at hc ⊢
        rw [if_t hc, if_pos (by simp; omega), Option.elim_some]
      · rw [if_neg hc]
        unfold pfrom kget at hc
        rw [if_f hc, Option.elim_none]
    by_cases h3 : ((mget K x.Advisory).getD (TPublished.mk ([] : List UInt8) 0 0)).Ended ≥ 0
    · rw [if_t h3]; exact body _ (by unfold pto kget; rw [if_pos h3])
    · rw [if_f h3]; exact body _ (by unfold pto kget; rw [if_neg h3])) l o h
theorem M34_L2_eq (F : Nat) (s : TStory) (K : KMap) (hr : ∀ r, r ∈ s.Releases → r.Exposures.length ≤ 500) (hl : s.Releases.length ≤ 500) (k : List Thistory_piece → Option (List Thistory_piece)) :
    ∀ (l : List TRelease) (n : Nat) (o : List Thistory_piece), s.Releases.drop n = l → o.length ≤ 500 * n → M34_L2 F s K k l n o = k (o ++ pcs K s.Until l)
  | [], n, o, _, _ => by simp [M34_L2, pcs]
  | r :: l, n, o, hd, ho => by
    obtain ⟨hn, hx, hl'⟩ := drop_at hd
    have hre : r.Exposures.length ≤ 500 := hr r (by rw [← hx]; exact List.getElem_mem _)
    have e : ((n : Int) + 1) = ((n + 1 : Nat) : Int) := rfl
    have ew : w64 ((n + 1 : Nat) : Int) = ((n + 1 : Nat) : Int) := w64_id (by omega) (by omega)
    rw [M34_L2]
    simp only [jn_def, e, ew]
    have ih : ∀ o', o'.length ≤ 500 * (n + 1) → M34_L2 F s K k l ((n + 1 : Nat) : Int) o' = k (o' ++ pcs K s.Until l) := fun o' h' => M34_L2_eq F s K hr hl k l (n + 1) o' hl' h'
    have body : ∀ en : Int, en = endOf s.Until l → M34_L3 F K r en (fun l29 => M34_L2 F s K k l ((n + 1 : Nat) : Int) l29) r.Exposures o = k (o ++ pcs K s.Until (r :: l)) := by
      intro en hen
      subst hen
      rw [M34_L3_eq F K r _ _ _ _ (by omega), ih]
      · simp [pcs]
      · have := List.length_filterMap_le (pc K r (endOf s.Until l)) r.Exposures
        simp only [List.length_append]; omega
    by_cases hlt : n + 1 < s.Releases.length
    · rw [if_t (by omega), idx_nat hlt, Option.bind_some]
      refine body _ ?_
      rw [List.drop_eq_getElem_cons hlt] at hl'
      rw [← hl']; rfl
    · rw [if_f (by omega)]
      refine body _ ?_
      rw [List.drop_eq_nil_of_le (by omega)] at hl'
      rw [← hl']; rfl
theorem M34_eq (F : Nat) (s : TStory) (R : RightS s) : M34 F s = some (pcs (kmap [] s.Known) s.Until s.Releases) := by
  unfold M34
  simp only [jn_def]
  rw [M34_L1_eq]
  have := M34_L2_eq F s (kmap [] s.Known) (fun r hr => (exps_zero (R.rel r hr).2.2.2).1) R.rlen (fun l13 => some l13) s.Releases 0 [] rfl (by simp)
  simpa using this
theorem pcs_length (K : KMap) (u : Int) : ∀ l : List TRelease, (∀ r, r ∈ l → r.Exposures.length ≤ 500) → (pcs K u l).length ≤ 500 * l.length
  | [], _ => by simp [pcs]
  | r :: l, h => by
    have h1 := pcs_length K u l (fun r hr => h r (List.mem_cons_of_mem _ hr))
    have h2 := h r (by simp)
    have h3 := List.length_filterMap_le (pc K r (endOf u l)) r.Exposures
    simp only [pcs, List.length_append, List.length_cons]; omega
theorem pcs_len {s : TStory} (R : RightS s) (K : KMap) : (pcs K s.Until s.Releases).length ≤ 250000 := by
  have := pcs_length K s.Until s.Releases (fun r hr => (exps_zero (R.rel r hr).2.2.2).1)
  have := R.rlen
  omega
def isOp (K : KMap) (day : Int) (x : TExposure) : Bool := decide ((kget K x.Advisory).Day ≤ day) && (decide ((kget K x.Advisory).Ended = -1) || decide (day < (kget K x.Advisory).Ended))
def onDay (day : Int) (p : Thistory_piece) : Bool := decide (p.from_ ≤ day) && decide (day < p.to)
theorem lastOn_or (day : Int) : ∀ (l : List TRelease) (o : Option TRelease), lastOn day l o = (lastOn day l none).or o
  | [], o => by simp [lastOn]
  | x :: l, o => by
    rw [lastOn, lastOn, lastOn_or day l (if x.Day ≤ day then some x else o), lastOn_or day l (if x.Day ≤ day then some x else none)]
    by_cases h : x.Day ≤ day
    · rw [if_pos h, if_pos h]; cases lastOn day l none <;> simp
    · rw [if_neg h, if_neg h]; cases lastOn day l none <;> simp
theorem lastOn_some {day : Int} : ∀ {l : List TRelease} {r : TRelease}, lastOn day l none = some r → r ∈ l ∧ r.Day ≤ day
  | [], r, h => by simp [lastOn] at h
  | x :: l, r, h => by
    rw [lastOn, lastOn_or] at h
    cases hl : lastOn day l none with
    | some r' =>
      rw [hl] at h
      simp at h; subst h
      obtain ⟨h1, h2⟩ := lastOn_some hl
      exact ⟨List.mem_cons_of_mem _ h1, h2⟩
    | none =>
      rw [hl] at h
      by_cases hx : x.Day ≤ day
      · rw [if_pos hx] at h; simp at h; subst h; exact ⟨by simp, hx⟩
      · rw [if_neg hx] at h; simp at h
theorem lastOn_none {day : Int} : ∀ {l : List TRelease}, lastOn day l none = none → ∀ r, r ∈ l → day < r.Day
  | [], _, r, h => by simp at h
  | x :: l, h, r, hr => by
    rw [lastOn, lastOn_or] at h
    have h := Option.or_eq_none_iff.1 h
    rcases List.mem_cons.1 hr with rfl | hr
    · have := h.2
      split at this
      · simp at this
      · omega
    · exact lastOn_none h.1 r hr
theorem pc_onDay {K : KMap} {r : TRelease} {e day : Int} {x : TExposure} (h : (kget K x.Advisory).Ended = -1 ∨ 0 ≤ (kget K x.Advisory).Ended) :
    ((pc K r e x).filter (onDay day)).map (·.x) = if (r.Day ≤ day ∧ day < e) ∧ isOp K day x = true then some x else none := by
  unfold pc onDay isOp pfrom pto
  generalize kget K x.Advisory = k at *
  obtain ⟨a, d, en⟩ := k
  simp only at *
  by_cases h1 : (if d > r.Day then d else r.Day) < (if en ≥ 0 then (if en < e then en else e) else e)
  · rw [if_pos h1]
    simp only [Option.filter_some]
    by_cases h2 : (r.Day ≤ day ∧ day < e) ∧ (decide (d ≤ day) && (decide (en = -1) || decide (day < en))) = true
    · rw [if_pos h2, if_pos]
      · rfl
      · simp only [Bool.and_eq_true, decide_eq_true_eq, Bool.or_eq_true] at h2 ⊢
        constructor
        · split <;> omega
        · split
          · split <;> omega
          · omega
    · rw [if_neg h2, if_neg]
      · rfl
      · intro h3
        apply h2
        simp only [Bool.and_eq_true, decide_eq_true_eq, Bool.or_eq_true] at h3 ⊢
        obtain ⟨h4, h5⟩ := h3
        have h6 : d ≤ day ∧ r.Day ≤ day := by split at h4 <;> omega
        have h7 : day < e ∧ (en ≥ 0 → day < en) := by
          split at h5
          · split at h5 <;> omega
          · omega
        exact ⟨⟨h6.2, h7.1⟩, h6.1, by omega⟩
  · rw [if_neg h1, if_neg]
    · rfl
    · intro h3
      simp only [Bool.and_eq_true, decide_eq_true_eq, Bool.or_eq_true] at h3
      apply h1
      have : (if d > r.Day then d else r.Day) ≤ day := by split <;> omega
      have : day < (if en ≥ 0 then (if en < e then en else e) else e) := by
        split
        · split <;> omega
        · omega
      omega
theorem filterMap_onDay {K : KMap} {r : TRelease} {e day : Int} : ∀ (l : List TExposure), (∀ x, x ∈ l → (kget K x.Advisory).Ended = -1 ∨ 0 ≤ (kget K x.Advisory).Ended) →
    ((l.filterMap (pc K r e)).filter (onDay day)).map (·.x) = if r.Day ≤ day ∧ day < e then l.filter (isOp K day) else []
  | [], _ => by simp
  | x :: l, h => by
    have ih := filterMap_onDay (K := K) (r := r) (e := e) (day := day) l (fun y hy => h y (List.mem_cons_of_mem _ hy))
    have h1 := pc_onDay (r := r) (e := e) (day := day) (h x (by simp))
    rw [List.filterMap_cons]
    cases hp : pc K r e x with
    | none =>
      rw [hp] at h1
      simp only [Option.filter_none, Option.map_none] at h1
      simp only
      rw [ih]
      split
      · rename_i hc
        rw [List.filter_cons, if_neg]
        intro ho
        rw [if_pos ⟨hc, ho⟩] at h1; simp at h1
      · rfl
    | some p =>
      rw [hp] at h1
      simp only [Option.filter_some] at h1
      simp only [List.filter_cons]
      by_cases hon : onDay day p = true
      · rw [if_pos hon] at h1 ⊢
        simp only [Option.map_some] at h1
        rw [List.map_cons, ih]
        split at h1
        · rename_i hc
          rw [if_pos hc.1, if_pos hc.1, if_pos hc.2]
          simp only [Option.some.injEq] at h1
          rw [h1]
        · simp at h1
      · rw [if_neg hon] at h1 ⊢
        rw [ih]
        simp only [Option.map_none] at h1
        split at h1
        · simp at h1
        · rename_i hc
          split
          · rename_i hc2
            rw [if_neg (fun ho => hc ⟨hc2, ho⟩)]
          · rfl
def onSel (K : KMap) (day : Int) (o : Option TRelease) : List TExposure := (o.getD noRel).Exposures.filter (isOp K day)
theorem pcs_onDay {K : KMap} {u day : Int} (hday : day < u) : ∀ (l : List TRelease), l.Pairwise (fun a b => a.Day < b.Day) → (∀ r, r ∈ l → ∀ x, x ∈ r.Exposures → (kget K x.Advisory).Ended = -1 ∨ 0 ≤ (kget K x.Advisory).Ended) →
    ((pcs K u l).filter (onDay day)).map (·.x) = onSel K day (lastOn day l none)
  | [], _, _ => by simp [pcs, onSel, lastOn, noRel]
  | r :: l, hp, hk => by
    rw [List.pairwise_cons] at hp
    rw [pcs, List.filter_append, List.map_append, filterMap_onDay _ (hk r (by simp)), pcs_onDay hday l hp.2 (fun r hr => hk r (List.mem_cons_of_mem _ hr)), lastOn, lastOn_or day l (if r.Day ≤ day then some r else none)]
    cases hl : lastOn day l none with
    | some r' =>
      obtain ⟨h1, h2⟩ := lastOn_some hl
      rw [if_neg]
      · simp
      · intro h
        match l, hp, h1 with
        | r2 :: l, hp, h1 =>
          have h3 : day < r2.Day := h.2
          rcases List.mem_cons.1 h1 with rfl | h1
          · omega
          · have := (List.pairwise_cons.1 hp.2).1 r' h1; omega
    | none =>
      have h1 := lastOn_none hl
      have he : day < endOf u l := by
        match l, h1 with
        | [], _ => exact hday
        | r2 :: l, h1 => exact h1 r2 (by simp)
      by_cases hr : r.Day ≤ day
      · rw [if_pos ⟨hr, he⟩, if_pos hr]; simp [onSel, noRel]
      · rw [if_neg (fun h => hr h.1), if_neg hr]; simp [onSel, noRel]
theorem pcs_late {K : KMap} {u day : Int} (hday : u ≤ day) : ∀ (l : List TRelease), (∀ r, r ∈ l → r.Day ≤ u) → (∀ r, r ∈ l → ∀ x, x ∈ r.Exposures → (kget K x.Advisory).Ended = -1 ∨ 0 ≤ (kget K x.Advisory).Ended) →
    ((pcs K u l).filter (onDay day)).map (·.x) = []
  | [], _, _ => by simp [pcs]
  | r :: l, hu, hk => by
    rw [pcs, List.filter_append, List.map_append, filterMap_onDay _ (hk r (by simp)), pcs_late hday l (fun r hr => hu r (List.mem_cons_of_mem _ hr)) (fun r hr => hk r (List.mem_cons_of_mem _ hr)), if_neg]
    · rfl
    · intro h
      match l, hu with
      | [], _ => have : day < u := h.2; omega
      | r2 :: l, hu => have : day < r2.Day := h.2; have := hu r2 (by simp); omega
theorem known_ended {s : TStory} (R : RightS s) {r : TRelease} (hr : r ∈ s.Releases) {x : TExposure} (hx : x ∈ r.Exposures) : ∃ k, k ∈ s.Known ∧ kget (kmap [] s.Known) x.Advisory = k ∧ k.Advisory = x.Advisory := by
  obtain ⟨k, hk, e⟩ := R.all r hr x hx
  refine ⟨k, hk, ?_, e⟩
  unfold kget
  rw [← e, kmap_get _ _ R.known hk]; rfl
theorem ended_ok {s : TStory} (R : RightS s) : ∀ r, r ∈ s.Releases → ∀ x, x ∈ r.Exposures → (kget (kmap [] s.Known) x.Advisory).Ended = -1 ∨ 0 ≤ (kget (kmap [] s.Known) x.Advisory).Ended := by
  intro r hr x hx
  obtain ⟨k, hk, e, _⟩ := known_ended R hr hx
  rw [e]
  have := R.kn k hk
  omega
theorem on_eq {s : TStory} (R : RightS s) (day : Int) : ((pcs (kmap [] s.Known) s.Until s.Releases).filter (onDay day)).map (·.x) = onSel (kmap [] s.Known) day (usedR s day) := by
  unfold usedR
  by_cases h : day ≥ s.Until
  · rw [if_pos h, pcs_late h _ (fun r hr => (R.rel r hr).2.2.1) (ended_ok R)]; simp [onSel, noRel]
  · rw [if_neg h, pcs_onDay (by omega) _ R.days (ended_ok R)]
end Go.Proofs.YtiphmdpaajjdeaaGreatDoor
