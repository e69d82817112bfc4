/- Part of the proof: AHChk. -/
import Derived.Test.YtiphmdpaajjdeaaGreatDoorHAHCmp
namespace Go.Proofs.YtiphmdpaajjdeaaGreatDoor
open Go Go.Pv
set_option linter.unusedVariables false
abbrev Seen := List ((List UInt8) × Bool)
def relE (u : Int) (p : Option TRelease) (m : Seen) : List TRelease → Int
  | [] => 0
  | x :: r => if !name x.Version then 8 else if (mget m x.Version).getD false = true then 5 else if x.Day < 0 ∨ u < x.Day then 9 else if p.any (fun q => decide (x.Day ≤ q.Day)) then 10
    else if exps x.Exposures ≠ 0 then exps x.Exposures else relE u (some x) (mput m x.Version true) r
def knE (p : Option TPublished) : List TPublished → Int
  | [] => 0
  | x :: r => if !name x.Advisory then 8 else if p.any (fun q => !Op.bytesLess q.Advisory x.Advisory) then 10 else if !decide (0 ≤ x.Day ∧ x.Day ≤ 1000000) then 9
    else if x.Ended ≠ -1 ∧ (x.Ended < x.Day ∨ 1000000 < x.Ended) then 9 else knE (some x) r
def marks (m : Seen) : List TPublished → Seen
  | [] => m
  | x :: r => marks (mput m x.Advisory true) r
def allKn (m : Seen) (l : List TRelease) : Bool := l.all fun r => r.Exposures.all fun x => (mget m x.Advisory).getD false
def chk (s : TStory) : Int :=
  if !name s.Product then 8 else if !decide (0 ≤ s.Until ∧ s.Until ≤ 1000000) then 9 else if 500 < s.Releases.length then 3 else if 2000 < s.Known.length then 3
  else if relE s.Until none [] s.Releases ≠ 0 then relE s.Until none [] s.Releases
  else if knE none s.Known ≠ 0 then knE none s.Known
  else if allKn (marks [] s.Known) s.Releases then 0 else 4
structure okSt (s : TStory) : Prop where
  pr : s.Product.length ≤ maxLen
  rl : ∀ r, r ∈ s.Releases → okR r
  kn : ∀ k, k ∈ s.Known → k.Advisory.length ≤ maxLen
theorem drop_at {α : Type} {a l : List α} {x : α} {n : Nat} (h : a.drop n = x :: l) : ∃ hn : n < a.length, a[n] = x ∧ a.drop (n + 1) = l := by
  have hn : n < a.length := by
    by_cases hlt : n < a.length
    · exact hlt
    · rw [List.drop_eq_nil_of_le (by omega)] at h; simp at h
  rw [List.drop_eq_getElem_cons hn] at h
  exact ⟨hn, (List.cons.inj h).1, (List.cons.inj h).2⟩
theorem prev_eq {α : Type} {a : List α} {x : α} {n : Nat} (hn : n < a.length) (hx : a[n] = x) : (if n + 1 = 0 then none else a[n + 1 - 1]?) = some x := by
  rw [if_neg (by omega), Nat.add_sub_cancel, List.getElem?_eq_getElem hn, hx]
theorem prev_idx {α : Type} {a : List α} {n : Nat} (hn : n < a.length) (h0 : n ≠ 0) (hb : a.length ≤ 100000) : idx a (w64 ((n : Int) - 1)) = a[n - 1]? := by
  have e2 : w64 ((n : Int) - 1) = ((n - 1 : Nat) : Int) := by rw [w64_id (by omega) (by omega)]; omega
  rw [e2, idx_nat (by omega), List.getElem?_eq_getElem (by omega)]
theorem relE_code (a : List TRelease) (u : Int) (hok : ∀ r, r ∈ a → okR r) (hlen : a.length ≤ 500) (k : Option Int) (g : List TRelease → Int → Seen → Option Int) (nm : List UInt8 → Option Bool) (ex : List TExposure → Option Int)
    (hn : ∀ s : List UInt8, s.length ≤ maxLen → nm s = some (name s)) (he : ∀ l, okE l → ex l = some (exps l))
    (h0 : ∀ n m, g [] n m = k) (h1 : ∀ x l n m, g (x :: l) n m = (nm x.Version).bind fun y10 => if (!y10) = true then some 8
      else if ((mget m x.Version).getD false) = true then some 5 else if (decide (x.Day < 0)) = true then some 9 else if (decide (x.Day > u)) = true then some 9
      else if (decide (n > 0)) = true then (idx a (w64 (n - 1))).bind fun q => if (decide (x.Day ≤ q.Day)) = true then some 10
        else (ex x.Exposures).bind fun y => if (y != 0) = true then some y else g l (n + 1) (mput m x.Version true)
      else (ex x.Exposures).bind fun y => if (y != 0) = true then some y else g l (n + 1) (mput m x.Version true)) :
    ∀ (l : List TRelease) (n : Nat) (m : Seen), a.drop n = l → g l n m = orr (relE u (if n = 0 then none else a[n - 1]?) m l) k
  | [], n, m, _ => by rw [h0]; rfl
  | x :: l, n, m, h => by
    obtain ⟨hn', hx, hl⟩ := drop_at h
    have hok' := hok x (by rw [← hx]; exact List.getElem_mem _)
    have e : ((n : Int) + 1) = ((n + 1 : Nat) : Int) := rfl
    rw [h1, hn _ hok'.1, Option.bind_some, he _ hok'.2, Option.bind_some, e, relE_code a u hok hlen k g nm ex hn he h0 h1 l (n + 1) _ hl, prev_eq hn' hx]
    simp only [relE]
    cases name x.Version
    · rfl
    simp only [Bool.not_true, Bool.false_eq_true, if_false]
    by_cases h2 : (mget m x.Version).getD false = true
    · rw [if_pos h2, if_pos h2]; rfl
    rw [if_neg h2, if_neg h2]
    by_cases h3 : x.Day < 0
    · rw [if_t h3, if_pos (show x.Day < 0 ∨ u < x.Day from .inl h3)]; rfl
    rw [if_f h3]
    by_cases h4 : x.Day > u
    · rw [if_t h4, if_pos (show x.Day < 0 ∨ u < x.Day from .inr h4)]; rfl
    rw [if_f h4, if_neg (show ¬ (x.Day < 0 ∨ u < x.Day) by omega)]
    have fin : (if (exps x.Exposures != 0) = true then some (exps x.Exposures) else orr (relE u (some x) (mput m x.Version true) l) k) =
        orr (if exps x.Exposures ≠ 0 then exps x.Exposures else relE u (some x) (mput m x.Version true) l) k := by
      by_cases h5 : exps x.Exposures = 0
      · rw [if_neg (by simp [h5]), if_neg (by simp [h5])]
      · rw [if_pos (by simpa using h5), if_pos h5]; unfold orr; rw [if_neg h5]
    by_cases h6 : n = 0
    · subst h6
      rw [if_f (by simp)]
      simpa using fin
    · rw [if_t (by omega : (n : Int) > 0), if_neg h6, prev_idx hn' h6 (by omega), List.getElem?_eq_getElem (show n - 1 < a.length by omega), Option.bind_some]
      simp only [Option.any_some]
      by_cases h7 : x.Day ≤ a[n - 1].Day
      · rw [if_t h7, if_t h7]; rfl
      · rw [if_f h7, if_f h7]; exact fin
theorem knE_code (a : List TPublished) (hok : ∀ r, r ∈ a → r.Advisory.length ≤ maxLen) (hlen : a.length ≤ 2000) (k : Seen → Option Int) (g : List TPublished → Int → Seen → Option Int) (nm : List UInt8 → Option Bool) (dy : Int → Option Bool)
    (upd : Seen → TPublished → Seen) (hn : ∀ s : List UInt8, s.length ≤ maxLen → nm s = some (name s)) (hd : ∀ n, dy n = some (decide (0 ≤ n ∧ n ≤ 1000000)))
    (h0 : ∀ n m, g [] n m = k m) (h1 : ∀ x l n m, g (x :: l) n m = (nm x.Advisory).bind fun y => if (!y) = true then some 8
      else if (decide (n > 0)) = true then (idx a (w64 (n - 1))).bind fun q => if (Op.bytesLess x.Advisory q.Advisory || x.Advisory == q.Advisory) = true then some 10
        else (dy x.Day).bind fun y => if (!y) = true then some 9 else if (x.Ended != (-1)) = true then if (decide (x.Ended < x.Day)) = true then some 9 else if (decide (x.Ended > 1000000)) = true then some 9 else g l (n + 1) (upd m x) else g l (n + 1) (upd m x)
      else (dy x.Day).bind fun y => if (!y) = true then some 9 else if (x.Ended != (-1)) = true then if (decide (x.Ended < x.Day)) = true then some 9 else if (decide (x.Ended > 1000000)) = true then some 9 else g l (n + 1) (upd m x) else g l (n + 1) (upd m x)) :
    ∀ (l : List TPublished) (n : Nat) (m : Seen), a.drop n = l → g l n m = orr (knE (if n = 0 then none else a[n - 1]?) l) (k (l.foldl upd m))
  | [], n, m, _ => by rw [h0]; rfl
  | x :: l, n, m, h => by
    obtain ⟨hn', hx, hl⟩ := drop_at h
    have hok' := hok x (by rw [← hx]; exact List.getElem_mem _)
    have e : ((n : Int) + 1) = ((n + 1 : Nat) : Int) := rfl
    rw [h1, hn _ hok', Option.bind_some, hd, Option.bind_some, e, knE_code a hok hlen k g nm dy upd hn hd h0 h1 l (n + 1) _ hl, prev_eq hn' hx]
    simp only [knE, List.foldl_cons]
    cases name x.Advisory
    · rfl
    simp only [Bool.not_true, Bool.false_eq_true, if_false]
    have fin : (if (!decide (0 ≤ x.Day ∧ x.Day ≤ 1000000)) = true then some 9 else if (x.Ended != (-1)) = true then if (decide (x.Ended < x.Day)) = true then some 9 else if (decide (x.Ended > 1000000)) = true then some 9 else orr (knE (some x) l) (k (l.foldl upd (upd m x))) else orr (knE (some x) l) (k (l.foldl upd (upd m x)))) =
        orr (if (!decide (0 ≤ x.Day ∧ x.Day ≤ 1000000)) = true then 9 else if x.Ended ≠ -1 ∧ (x.Ended < x.Day ∨ 1000000 < x.Ended) then 9 else knE (some x) l) (k (l.foldl upd (upd m x))) := by
      by_cases h5 : (!decide (0 ≤ x.Day ∧ x.Day ≤ 1000000)) = true
      · rw [if_pos h5, if_pos h5]; rfl
      rw [if_neg h5, if_neg h5]
      by_cases h6 : x.Ended = -1
      · rw [if_neg (by simp [h6]), if_neg (by simp [h6])]
      rw [if_pos (by simpa using h6)]
      by_cases h7 : x.Ended < x.Day
      · rw [if_t h7, if_pos ⟨h6, .inl h7⟩]; rfl
      rw [if_f h7]
      by_cases h8 : x.Ended > 1000000
      · rw [if_t h8, if_pos ⟨h6, .inr h8⟩]; rfl
      rw [if_f h8, if_neg (by omega)]
    by_cases h6 : n = 0
    · subst h6
      rw [if_f (by simp)]
      simpa using fin
    · rw [if_t (by omega : (n : Int) > 0), if_neg h6, prev_idx hn' h6 (by omega), List.getElem?_eq_getElem (show n - 1 < a.length by omega), Option.bind_some]
      simp only [Option.any_some]
      have hb := bl_gt x.Advisory a[n - 1].Advisory
      by_cases h7 : Op.bytesLess a[n - 1].Advisory x.Advisory = true
      · rw [if_neg (show ¬ (!Op.bytesLess a[n - 1].Advisory x.Advisory) = true by simp [h7]), if_neg (show ¬ (Op.bytesLess x.Advisory a[n - 1].Advisory || x.Advisory == a[n - 1].Advisory) = true by
          intro e; rw [e, h7] at hb; simp at hb)]
        exact fin
      · rw [if_pos (show (!Op.bytesLess a[n - 1].Advisory x.Advisory) = true by simpa using h7), if_pos (show (Op.bytesLess x.Advisory a[n - 1].Advisory || x.Advisory == a[n - 1].Advisory) = true by
          rw [Bool.eq_false_iff.2 h7] at hb
          simpa using congrArg (!·) hb)]
        rfl
theorem M53_eq (F : Nat) (s : TStory) (h : okSt s) (hl : s.Releases.length ≤ 500) : M53 F s = some (relE s.Until none [] s.Releases) := by
  unfold M53
  rw [jn_def]
  have := relE_code s.Releases s.Until h.rl hl (some 0) (M53_L1 F s (some 0)) (M52 F) (M78 F) (M52_eq F) (M78_eq F) (fun _ _ => rfl) (fun x l n m => by rw [M53_L1]; simp only [jn_def]) s.Releases 0 [] rfl
  exact this.trans (orr_s _)
theorem anyX {β : Type} {k : Option β} {f : β} {g : List TExposure → Option β} (p : TExposure → Bool) (h0 : g [] = k) (h1 : ∀ x l, g (x :: l) = if (!p x) = true then some f else g l) : ∀ l, g l = if l.all p = true then k else some f
  | [] => by simp [h0]
  | x :: l => by
    rw [h1, anyX p h0 h1 l, List.all_cons]
    by_cases hx : p x = true
    · rw [if_neg (by simp [hx]), hx, Bool.true_and]
    · rw [if_pos (by simpa using hx), if_neg (by simp [hx])]
theorem allX {β : Type} {k : Option β} {f : β} {g : List TRelease → Option β} (p : TExposure → Bool) (h0 : g [] = k) (h1 : ∀ x l, g (x :: l) = if x.Exposures.all p = true then g l else some f) : ∀ l, g l = if (l.all fun r => r.Exposures.all p) = true then k else some f
  | [] => by simp [h0]
  | x :: l => by
    rw [h1, allX p h0 h1 l, List.all_cons]
    by_cases hx : x.Exposures.all p = true
    · rw [if_pos hx, hx, Bool.true_and]
    · rw [if_neg hx, if_neg (by simp [hx])]
theorem marks_fold : ∀ (l : List TPublished) (m : Seen), l.foldl (fun m x => mput m x.Advisory true) m = marks m l
  | [], m => rfl
  | x :: l, m => marks_fold l _
theorem M25_eq (F : Nat) (s : TStory) (h : okSt s) : M25 F s = some (chk s) := by
  unfold M25 chk
  rw [M52_eq F _ h.pr, isDay_b, Option.bind_some, Option.bind_some]
  by_cases h1 : (!name s.Product) = true
  · rw [if_pos h1, if_pos h1]
  rw [if_neg h1, if_neg h1]
  by_cases h2 : (!decide (0 ≤ s.Until ∧ s.Until ≤ 1000000)) = true
  · rw [if_pos h2, if_pos h2]
  rw [if_neg h2, if_neg h2]
  by_cases h3 : s.Releases.length > 500
  · rw [if_t (by omega), if_pos h3]
  rw [if_f (by omega), if_neg h3]
  by_cases h4 : s.Known.length > 2000
  · rw [if_t (by omega), if_pos h4]
  rw [if_f (by omega), if_neg h4, M53_eq F s h (by omega), Option.bind_some]
  by_cases h5 : relE s.Until none [] s.Releases = 0
  · rw [if_neg (by simp [h5]), if_neg (by simp [h5]), jn_def]
    have := fun k => knE_code s.Known h.kn (by omega) k (M25_L1 F s k) (M52 F) (M27 F) (fun m x => mput m x.Advisory true) (M52_eq F) (fun n => isDay_b n F) (fun _ _ => rfl) (fun x l n m => by
      rw [M25_L1]; simp only [jn_def]) s.Known 0 [] rfl
    have := fun k => (show M25_L1 F s k s.Known 0 [] = _ from this k)
    rw [this, if_pos rfl]
    by_cases h6 : knE none s.Known = 0
    · rw [if_neg (by simp [h6]), h6, orr_0, jn_def, marks_fold]
      rw [allX (g := M25_L2 F (marks [] s.Known) (some 0)) (k := some 0) (f := 4) (fun x => (mget (marks [] s.Known) x.Advisory).getD false) rfl (fun r l => by
        rw [M25_L2]
        simp only [jn_def]
        rw [anyX (g := M25_L3 F (marks [] s.Known) _) (f := 4) (fun x => (mget (marks [] s.Known) x.Advisory).getD false) rfl (fun x l => by rw [M25_L3])]
        rfl)]
      unfold allKn
      split <;> rfl
    · rw [if_pos h6]; unfold orr; rw [if_neg h6]
  · rw [if_pos (by simpa using h5), if_pos h5]
theorem relE_zero {u : Int} : ∀ {l : List TRelease} {p : Option TRelease} {m : Seen}, relE u p m l = 0 → (∀ q, p = some q → ∀ x, x ∈ l → q.Day < x.Day) ∧ l.Pairwise (fun a b => a.Day < b.Day) ∧
    (∀ x, x ∈ l → name x.Version = true ∧ 0 ≤ x.Day ∧ x.Day ≤ u ∧ exps x.Exposures = 0 ∧ (mget m x.Version).getD false = false) ∧ l.Pairwise (fun a b => a.Version ≠ b.Version)
  | [], p, m, _ => by simp
  | x :: l, p, m, h => by
    simp only [relE] at h
    split at h
    · simp at h
    rename_i h1
    split at h
    · simp at h
    rename_i h2
    split at h
    · simp at h
    rename_i h3
    split at h
    · simp at h
    rename_i h4
    split at h
    · rename_i h5; exact absurd h h5
    rename_i h5
    obtain ⟨g1, g2, g3, g4⟩ := relE_zero h
    have hq : ∀ q, p = some q → q.Day < x.Day := by
      intro q e; subst e; simpa using h4
    refine ⟨fun q e y hy => ?_, List.pairwise_cons.2 ⟨fun y hy => g1 x rfl y hy, g2⟩, fun y hy => ?_, List.pairwise_cons.2 ⟨fun y hy e => ?_, g4⟩⟩
    · rcases List.mem_cons.1 hy with rfl | hy
      · exact hq q e
      · exact Int.lt_trans (hq q e) (g1 x rfl y hy)
    · rcases List.mem_cons.1 hy with rfl | hy
      · exact ⟨by simpa using h1, by omega, by omega, by simpa using h5, by simpa using h2⟩
      · obtain ⟨k1, k2, k3, k4, k5⟩ := g3 y hy
        refine ⟨k1, k2, k3, k4, ?_⟩
        rw [mget_mput] at k5
        split at k5
        · simp at k5
        · exact k5
    · have := (g3 y hy).2.2.2.2
      rw [mget_mput, if_pos e] at this
      simp at this
theorem knE_zero : ∀ {l : List TPublished} {p : Option TPublished}, knE p l = 0 → (∀ q, p = some q → ∀ x, x ∈ l → Op.bytesLess q.Advisory x.Advisory = true) ∧ l.Pairwise (fun a b => Op.bytesLess a.Advisory b.Advisory = true) ∧
    ∀ x, x ∈ l → name x.Advisory = true ∧ 0 ≤ x.Day ∧ x.Day ≤ 1000000 ∧ (x.Ended = -1 ∨ x.Day ≤ x.Ended ∧ x.Ended ≤ 1000000)
  | [], p, _ => by simp
  | x :: l, p, h => by
    simp only [knE] at h
    split at h
    · simp at h
    rename_i h1
    split at h
    · simp at h
    rename_i h2
    split at h
    · simp at h
    rename_i h3
    split at h
    · simp at h
    rename_i h4
    obtain ⟨g1, g2, g3⟩ := knE_zero h
    have hq : ∀ q, p = some q → Op.bytesLess q.Advisory x.Advisory = true := by
      intro q e; subst e; simpa using h2
    refine ⟨fun q e y hy => ?_, List.pairwise_cons.2 ⟨fun y hy => g1 x rfl y hy, g2⟩, fun y hy => ?_⟩
    · rcases List.mem_cons.1 hy with rfl | hy
      · exact hq q e
      · exact bl_trans (hq q e) (g1 x rfl y hy)
    · rcases List.mem_cons.1 hy with rfl | hy
      · simp at h1 h3; exact ⟨h1, by omega, by omega, by omega⟩
      · exact g3 y hy
theorem marks_mget (a : List UInt8) : ∀ (l : List TPublished) (m : Seen), (mget (marks m l) a).getD false = ((mget m a).getD false || l.any (fun k => k.Advisory == a))
  | [], m => by simp [marks]
  | x :: l, m => by
    rw [marks, marks_mget a l, mget_mput]
    by_cases h : x.Advisory = a
    · simp [h]
    · have : (x.Advisory == a) = false := by simpa using h
      simp [h, this]
structure RightS (s : TStory) : Prop where
  pr : name s.Product = true
  unt : 0 ≤ s.Until ∧ s.Until ≤ 1000000
  rlen : s.Releases.length ≤ 500
  klen : s.Known.length ≤ 2000
  days : s.Releases.Pairwise (fun a b => a.Day < b.Day)
  vers : s.Releases.Pairwise (fun a b => a.Version ≠ b.Version)
  rel : ∀ r, r ∈ s.Releases → name r.Version = true ∧ 0 ≤ r.Day ∧ r.Day ≤ s.Until ∧ exps r.Exposures = 0
  known : s.Known.Pairwise (fun a b => Op.bytesLess a.Advisory b.Advisory = true)
  kn : ∀ k, k ∈ s.Known → name k.Advisory = true ∧ 0 ≤ k.Day ∧ k.Day ≤ 1000000 ∧ (k.Ended = -1 ∨ k.Day ≤ k.Ended ∧ k.Ended ≤ 1000000)
  all : ∀ r, r ∈ s.Releases → ∀ x, x ∈ r.Exposures → ∃ k, k ∈ s.Known ∧ k.Advisory = x.Advisory
theorem right_of_chk {s : TStory} (h : chk s = 0) : RightS s := by
  unfold chk at h
  split at h
  · simp at h
  rename_i h1
  split at h
  · simp at h
  rename_i h2
  split at h
  · simp at h
  rename_i h3
  split at h
  · simp at h
  rename_i h4
  split at h
  · rename_i h5; exact absurd h h5
  rename_i h5
  split at h
  · rename_i h6; exact absurd h h6
  rename_i h6
  split at h
  · rename_i h7
    have h5 : relE s.Until none [] s.Releases = 0 := by simpa using h5
    have h6 : knE none s.Known = 0 := by simpa using h6
    obtain ⟨_, r2, r3, r4⟩ := relE_zero h5
    obtain ⟨_, k2, k3⟩ := knE_zero h6
    refine ⟨by simpa using h1, by simpa using h2, Nat.le_of_not_lt h3, Nat.le_of_not_lt h4, r2, r4, fun r hr => ⟨(r3 r hr).1, (r3 r hr).2.1, (r3 r hr).2.2.1, (r3 r hr).2.2.2.1⟩, k2, k3, fun r hr x hx => ?_⟩
    unfold allKn at h7
    rw [List.all_eq_true] at h7
    have := List.all_eq_true.1 (h7 r hr) x hx
    rw [marks_mget] at this
    simp only [mget, Option.getD_none, Bool.false_or, List.any_eq_true, beq_iff_eq] at this
    exact this
  · simp at h
def lastOn (day : Int) : List TRelease → Option TRelease → Option TRelease
  | [], o => o
  | x :: l, o => lastOn day l (if x.Day ≤ day then some x else o)
def noRel : TRelease := TRelease.mk [] 0 []
def usedR (s : TStory) (day : Int) : Option TRelease := if day ≥ s.Until then none else lastOn day s.Releases none
theorem M37_eq (F : Nat) (s : TStory) (day : Int) : ∃ n, M37 F s day = some n ∧ ((n < 0 ∧ usedR s day = none) ∨ (0 ≤ n ∧ idx s.Releases n = usedR s day ∧ (usedR s day).isSome = true)) := by
  unfold M37 usedR
  by_cases h : day ≥ s.Until
  · rw [if_t h, if_pos h]; exact ⟨-1, rfl, .inl ⟨by omega, rfl⟩⟩
  rw [if_f h, if_neg h, jn_def]
  have : ∀ (l : List TRelease) (j : Nat) (n : Int) (o : Option TRelease), s.Releases.drop j = l → ((n < 0 ∧ o = none) ∨ (0 ≤ n ∧ idx s.Releases n = o ∧ o.isSome = true)) →
      ∃ n', M37_L1 F day (fun n5 => some n5) l j n = some n' ∧ ((n' < 0 ∧ lastOn day l o = none) ∨ (0 ≤ n' ∧ idx s.Releases n' = lastOn day l o ∧ (lastOn day l o).isSome = true)) := by
    intro l
    induction l with
    | nil => intro j n o _ h; exact ⟨n, rfl, h⟩
    | cons x l ih =>
      intro j n o hd h
      obtain ⟨hj, hx, hl⟩ := drop_at hd
      have e : ((j : Int) + 1) = ((j + 1 : Nat) : Int) := rfl
      rw [M37_L1, jn_def, e]
      simp only [lastOn]
      by_cases hday : x.Day ≤ day
      · rw [if_t hday, if_pos hday]
        exact ih (j + 1) j (some x) hl (.inr ⟨by omega, by rw [idx_nat hj, hx], rfl⟩)
      · rw [if_f hday, if_neg hday]
        exact ih (j + 1) n o hl h
  exact this s.Releases 0 (-1) none rfl (.inl ⟨by omega, rfl⟩)
theorem lastOn_mem (day : Int) : ∀ (l : List TRelease) (o : Option TRelease) (r : TRelease), lastOn day l o = some r → o = some r ∨ r ∈ l
  | [], o, r, h => .inl h
  | x :: l, o, r, h => by
    rw [lastOn] at h
    rcases lastOn_mem day l _ r h with h | h
    · split at h
      · exact .inr (by rw [Option.some.injEq] at h; subst h; simp)
      · exact .inl h
    · exact .inr (List.mem_cons_of_mem _ h)
theorem usedR_mem {s : TStory} {day : Int} {r : TRelease} (h : usedR s day = some r) : r ∈ s.Releases := by
  unfold usedR at h
  split at h
  · simp at h
  · rcases lastOn_mem _ _ _ _ h with h | h
    · simp at h
    · exact h
theorem clone_eq {α R : Type} {g : List α → Option (List α)} (B c : Nat) (hg : ∀ l, g l = nilq l.length (fun b => if b = true then some [] else if ([] ++ l).length * c ≤ B then some ([] ++ l) else none)) (l : List α) (h : l.length * c ≤ B) : g l = some l := by
  rw [hg]
  refine nilq_same ?_ (fun h0 => ?_)
  · rw [if_neg (by simp), List.nil_append, if_pos h]
  · rw [if_pos rfl, List.length_eq_zero_iff.1 h0]
theorem M29_eq (F : Nat) (r : TRelease) (h : r.Exposures.length ≤ 500) : M29 F r = some r := by
  unfold M29
  rw [clone_eq (R := Unit) (g := M57 F) 140737488355328 40 (fun l => rfl) r.Exposures (by omega)]
  rfl
def usedX (s : TStory) (day : Int) : TRelease × Bool × Int :=
  if chk s ≠ 0 then (noRel, false, chk s) else if !decide (0 ≤ day ∧ day ≤ 1000000) then (noRel, false, 9) else ((usedR s day).getD noRel, (usedR s day).isSome, 0)
theorem M11_eq (F : Nat) (s : TStory) (day : Int) (h : okSt s) : M11 F s day = some (usedX s day) := by
  unfold M11 usedX
  rw [M25_eq F s h, isDay_b, Option.bind_some, Option.bind_some]
  refine ite2 ne0 (fun _ => rfl) (fun h1 => ite2 Iff.rfl (fun _ => rfl) (fun h2 => ?_))
  have h1 : chk s = 0 := by simpa using h1
  obtain ⟨n, e1, e2⟩ := M37_eq F s day
  rw [e1, Option.bind_some]
  rcases e2 with ⟨h3, h4⟩ | ⟨h3, h4, h5⟩
  · rw [if_t h3, h4]; rfl
  · rw [if_f (by omega), h4]
    cases hu : usedR s day with
    | none => rw [hu] at h5; simp at h5
    | some r =>
      rw [Option.bind_some, M29_eq F r (exps_zero ((right_of_chk h1).rel r (usedR_mem hu)).2.2.2).1]
      rfl
theorem okSt_of {s : TStory} (h : okTStory s) : okSt s :=
  ⟨Nat.le_trans h.1 (by decide), fun r hr => okR_of (h.2.1.1 r hr), fun k hk => Nat.le_trans (h.2.2.1.1 k hk).1 (by decide)⟩
end Go.Proofs.YtiphmdpaajjdeaaGreatDoor
