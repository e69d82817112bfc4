/- Part of the proof: HOpn. -/
import Derived.Test.YtkciogeafbbggaaOHChk
namespace Go.Proofs.Ytkciogeafbbggaa
open Go Go.Pv
set_option linter.unusedVariables false
abbrev KMap := List ((List UInt8) × TPublished)
def kmap (m : KMap) : List TPublished → KMap
  | [] => m
  | x :: r => kmap (mput m x.Advisory x) r
def kget (m : KMap) (a : List UInt8) : TPublished := (mget m a).getD (TPublished.mk ([] : List UInt8) 0 0)
theorem kmap_other (a : List UInt8) : ∀ (l : List TPublished) (m : KMap), (∀ k, k ∈ l → k.Advisory ≠ a) → mget (kmap m l) a = mget m a
  | [], m, _ => rfl
  | x :: l, m, h => by
    rw [kmap, kmap_other a l _ (fun k hk => h k (List.mem_cons_of_mem _ hk)), mget_mput, if_neg (h x (by simp))]
theorem kmap_get {k : TPublished} : ∀ (l : List TPublished) (m : KMap), l.Pairwise (fun a b => Op.bytesLess a.Advisory b.Advisory = true) → k ∈ l → mget (kmap m l) k.Advisory = some k
  | [], m, _, h => by simp at h
  | x :: l, m, hp, h => by
    rw [List.pairwise_cons] at hp
    rw [kmap]
    rcases List.mem_cons.1 h with rfl | h
    · rw [kmap_other, mget_mput, if_pos rfl]
      exact fun y hy e => bl_ne (hp.1 y hy) e.symm
    · exact kmap_get l _ hp.2 h
theorem M90_L1_eq {F : Nat} (k : KMap → Option (List Thistory_piece)) : ∀ (l : List TPublished) (m : KMap), M90_L1 F k l m = k (kmap m l)
  | [], m => rfl
  | x :: l, m => by rw [M90_L1, M90_L1_eq k l]; rfl
theorem M91_L1_eq {F : Nat} (k : KMap → Option Tprovenderref11_view) : ∀ (l : List TPublished) (m : KMap), M91_L1 F k l m = k (kmap m l)
  | [], m => rfl
  | x :: l, m => by rw [M91_L1, M91_L1_eq k l]; rfl
def pfrom (K : KMap) (r : TRelease) (x : TExposure) : Int := if (kget K x.Advisory).Day > r.Day then (kget K x.Advisory).Day else r.Day
def pto (K : KMap) (e : Int) (x : TExposure) : Int := if (kget K x.Advisory).Ended ≥ 0 then (if (kget K x.Advisory).Ended < e then (kget K x.Advisory).Ended else e) else e
def pc (K : KMap) (r : TRelease) (e : Int) (x : TExposure) : Option Thistory_piece := if pfrom K r x < pto K e x then some (Thistory_piece.mk x (pfrom K r x) (pto K e x)) else none
def endOf (u : Int) : List TRelease → Int
  | [] => u
  | r :: _ => r.Day
def pcs (K : KMap) (u : Int) : List TRelease → List Thistory_piece
  | [] => []
  | r :: l => r.Exposures.filterMap (pc K r (endOf u l)) ++ pcs K u l
theorem filterMapL {α β R : Type} {g : List α → List β → Option R} {k : List β → Option R} (p : α → Option β) (B : Nat) (h0 : ∀ o, g [] o = k o)
    (h1 : ∀ x l o, o.length < B → g (x :: l) o = (p x).elim (g l o) (fun y => g l (o ++ [y]))) :
    ∀ (l : List α) (o : List β), o.length + l.length ≤ B → g l o = k (o ++ l.filterMap p)
  | [], o, _ => by simp [h0]
  | x :: l, o, h => by
    simp only [List.length_cons] at h
    rw [h1 x l o (by omega)]
    cases hp : p x
    · simp only [Option.elim_none]
      rw [filterMapL p B h0 h1 l o (by omega)]; simp [hp]
    · simp only [Option.elim_some]
      rw [filterMapL p B h0 h1 l _ (by simp; omega)]; simp [hp]
theorem M90_L3_eq (F : Nat) (K : KMap) (r : TRelease) (e : Int) (k : List Thistory_piece → Option (List Thistory_piece)) (l : List TExposure) (o : List Thistory_piece) (h : o.length + l.length ≤ 1000000) :
    M90_L3 F K r e k l o = k (o ++ l.filterMap (pc K r e)) :=
  filterMapL (pc K r e) 1000000 (fun _ => rfl) (fun x l o ho => by
    rw [M90_L3]
    simp only [jn_def]
    have body : ∀ t : Int, pto K e x = t → (if (decide ((if ((mget K x.Advisory).getD (TPublished.mk ([] : List UInt8) 0 0)).Day > r.Day then ((mget K x.Advisory).getD (TPublished.mk ([] : List UInt8) 0 0)).Day else r.Day) < t)) = true then
        if (o ++ ([(Thistory_piece.mk x (if ((mget K x.Advisory).getD (TPublished.mk ([] : List UInt8) 0 0)).Day > r.Day then ((mget K x.Advisory).getD (TPublished.mk ([] : List UInt8) 0 0)).Day else r.Day) t)] : List Thistory_piece)).length * 56 ≤ 140737488355328 then M90_L3 F K r e k l (o ++ ([(Thistory_piece.mk x (if ((mget K x.Advisory).getD (TPublished.mk ([] : List UInt8) 0 0)).Day > r.Day then ((mget K x.Advisory).getD (TPublished.mk ([] : List UInt8) 0 0)).Day else r.Day) t)] : List Thistory_piece)) else none
        else M90_L3 F K r e k l o) = (pc K r e x).elim (M90_L3 F K r e k l o) (fun y => M90_L3 F K r e k l (o ++ [y])) := by
      intro t ht
      subst ht
      unfold pc
      by_cases hc : pfrom K r x < pto K e x
      · rw [if_pos hc]
        unfold pfrom kget at hc ⊢
        rw [if_t hc, if_pos (by simp; omega), Option.elim_some]
      · rw [if_neg hc]
        unfold pfrom kget at hc
        rw [if_f hc, Option.elim_none]
    by_cases h3 : ((mget K x.Advisory).getD (TPublished.mk ([] : List UInt8) 0 0)).Ended ≥ 0
    · rw [if_t h3]; exact body _ (by unfold pto kget; rw [if_pos h3])
    · rw [if_f h3]; exact body _ (by unfold pto kget; rw [if_neg h3])) l o h
theorem M90_L2_eq (F : Nat) (s : TStory) (K : KMap) (hr : ∀ r, r ∈ s.Releases → r.Exposures.length ≤ 500) (hl : s.Releases.length ≤ 500) (k : List Thistory_piece → Option (List Thistory_piece)) :
    ∀ (l : List TRelease) (n : Nat) (o : List Thistory_piece), s.Releases.drop n = l → o.length ≤ 500 * n → M90_L2 F s K k l n o = k (o ++ pcs K s.Until l)
  | [], n, o, _, _ => by simp [M90_L2, pcs]
  | r :: l, n, o, hd, ho => by
    obtain ⟨hn, hx, hl'⟩ := drop_at hd
    have hre : r.Exposures.length ≤ 500 := hr r (by rw [← hx]; exact List.getElem_mem _)
    have e : ((n : Int) + 1) = ((n + 1 : Nat) : Int) := rfl
    have ew : w64 ((n + 1 : Nat) : Int) = ((n + 1 : Nat) : Int) := w64_id (by omega) (by omega)
    rw [M90_L2]
    simp only [jn_def, e, ew]
    have ih : ∀ o', o'.length ≤ 500 * (n + 1) → M90_L2 F s K k l ((n + 1 : Nat) : Int) o' = k (o' ++ pcs K s.Until l) := fun o' h' => M90_L2_eq F s K hr hl k l (n + 1) o' hl' h'
    have body : ∀ en : Int, en = endOf s.Until l → M90_L3 F K r en (fun l29 => M90_L2 F s K k l ((n + 1 : Nat) : Int) l29) r.Exposures o = k (o ++ pcs K s.Until (r :: l)) := by
      intro en hen
      subst hen
      rw [M90_L3_eq F K r _ _ _ _ (by omega), ih]
      · simp [pcs]
      · have := List.length_filterMap_le (pc K r (endOf s.Until l)) r.Exposures
        simp only [List.length_append]; omega
    by_cases hlt : n + 1 < s.Releases.length
    · rw [if_t (by omega), idx_nat hlt, Option.bind_some]
      refine body _ ?_
      rw [List.drop_eq_getElem_cons hlt] at hl'
      rw [← hl']; rfl
    · rw [if_f (by omega)]
      refine body _ ?_
      rw [List.drop_eq_nil_of_le (by omega)] at hl'
      rw [← hl']; rfl
theorem M90_eq (F : Nat) (s : TStory) (R : RightS s) : M90 F s = some (pcs (kmap [] s.Known) s.Until s.Releases) := by
  unfold M90
  simp only [jn_def]
  rw [M90_L1_eq]
  have := M90_L2_eq F s (kmap [] s.Known) (fun r hr => (exps_zero (R.rel r hr).2.2.2).1) R.rlen (fun l13 => some l13) s.Releases 0 [] rfl (by simp)
  simpa using this
theorem pcs_length (K : KMap) (u : Int) : ∀ l : List TRelease, (∀ r, r ∈ l → r.Exposures.length ≤ 500) → (pcs K u l).length ≤ 500 * l.length
  | [], _ => by simp [pcs]
  | r :: l, h => by
    have h1 := pcs_length K u l (fun r hr => h r (List.mem_cons_of_mem _ hr))
    have h2 := h r (by simp)
    have h3 := List.length_filterMap_le (pc K r (endOf u l)) r.Exposures
    simp only [pcs, List.length_append, List.length_cons]; omega
theorem pcs_len {s : TStory} (R : RightS s) (K : KMap) : (pcs K s.Until s.Releases).length ≤ 250000 := by
  have := pcs_length K s.Until s.Releases (fun r hr => (exps_zero (R.rel r hr).2.2.2).1)
  have := R.rlen
  omega
def onDay (day : Int) (p : Thistory_piece) : Bool := decide (p.from_ ≤ day) && decide (day < p.to)
theorem known_ended {s : TStory} (R : RightS s) {r : TRelease} (hr : r ∈ s.Releases) {x : TExposure} (hx : x ∈ r.Exposures) : ∃ k, k ∈ s.Known ∧ kget (kmap [] s.Known) x.Advisory = k ∧ k.Advisory = x.Advisory := by
  obtain ⟨k, hk, e⟩ := R.all r hr x hx
  refine ⟨k, hk, ?_, e⟩
  unfold kget
  rw [← e, kmap_get _ _ R.known hk]; rfl
theorem ended_ok {s : TStory} (R : RightS s) : ∀ r, r ∈ s.Releases → ∀ x, x ∈ r.Exposures → (kget (kmap [] s.Known) x.Advisory).Ended = -1 ∨ 0 ≤ (kget (kmap [] s.Known) x.Advisory).Ended := by
  intro r hr x hx
  obtain ⟨k, hk, e, _⟩ := known_ended R hr hx
  rw [e]
  have := R.kn k hk
  omega
end Go.Proofs.Ytkciogeafbbggaa
