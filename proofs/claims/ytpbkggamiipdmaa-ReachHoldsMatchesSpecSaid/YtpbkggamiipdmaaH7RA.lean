/- Part of the proof: X, XR, R6Ord, K, R6O, RA. -/
import Derived.Test.YtpbkggamiipdmaaH7ZA
import Derived.Test.YtpbkggamiipdmaaH7PvQ
import Derived.Test.YtpbkggamiipdmaaH7ZC
import Derived.Test.YtpbkggamiipdmaaH7PvU
import Derived.WideKeyArgs
import Derived.Deep.Slices
import Derived.ProofKit
import Derived.OpenShut
import Derived.JoinedCond
import Derived.Test.YtpbkggamiipdmaaH7R6T
import Derived.KernelRfl
namespace Go.Pv
open Go
theorem bl_cons (x : UInt8) (a : List UInt8) (y : UInt8) (b : List UInt8) : Op.bytesLess (x :: a) (y :: b) = (decide (x < y) || (x == y && Op.bytesLess a b)) := by
 rw [Op.bytesLess]
theorem bl_irrefl : ∀ a : List UInt8, Op.bytesLess a a = false
 | [] => by simp [Op.bytesLess]
 | x :: a => by rw [bl_cons, bl_irrefl a]; simp
theorem bl_trans : ∀ {a b c : List UInt8}, Op.bytesLess a b = true → Op.bytesLess b c = true → Op.bytesLess a c = true
 | [], [], _, h, _ => by simp [Op.bytesLess] at h
 | [], y :: b, [], _, h => by simp [Op.bytesLess] at h
 | [], y :: b, z :: c, _, _ => by simp [Op.bytesLess]
 | x :: a, [], _, h, _ => by simp [Op.bytesLess] at h
 | x :: a, y :: b, [], _, h => by simp [Op.bytesLess] at h
 | x :: a, y :: b, z :: c, h, g => by
  rw [bl_cons] at *
  simp only [Bool.or_eq_true, decide_eq_true_eq, Bool.and_eq_true, beq_iff_eq, UInt8.lt_iff_toNat_lt] at *
  rcases h with h | ⟨rfl, h⟩ <;> rcases g with g | ⟨rfl, g⟩
  ·exact .inl (by omega)
  ·exact .inl h
  ·exact .inl g
  ·exact .inr ⟨rfl, bl_trans h g⟩
theorem bl_tri : ∀ a b : List UInt8, Op.bytesLess a b = true ∨ a = b ∨ Op.bytesLess b a = true
 | [], [] => by simp
 | [], y :: b => by simp [Op.bytesLess]
 | x :: a, [] => by simp [Op.bytesLess]
 | x :: a, y :: b => by
  rw [bl_cons, bl_cons]
  simp only [Bool.or_eq_true, decide_eq_true_eq, Bool.and_eq_true, beq_iff_eq, UInt8.lt_iff_toNat_lt, List.cons.injEq]
  rcases Nat.lt_trichotomy x.toNat y.toNat with h | h | h
  ·exact .inl (.inl h)
  ·have := UInt8.toNat_inj.1 h
   subst this
   rcases bl_tri a b with h | h | h
   ·exact .inl (.inr ⟨rfl, h⟩)
   ·exact .inr (.inl ⟨rfl, h⟩)
   ·exact .inr (.inr (.inr ⟨rfl, h⟩))
  ·exact .inr (.inr (.inl h))
theorem bl_asymm {a b : List UInt8} (h : Op.bytesLess a b = true) : Op.bytesLess b a = false := by
 cases h' : Op.bytesLess b a with
 | false => rfl
 | true => have := bl_trans h h'; rw [bl_irrefl] at this; simp at this
theorem bl_ne {a b : List UInt8} (h : Op.bytesLess a b = true) : a ≠ b := by rintro rfl; rw [bl_irrefl] at h; simp at h
theorem bl_gt (a b : List UInt8) : (!(Op.bytesLess a b || a == b)) = Op.bytesLess b a := by
 rcases bl_tri a b with h | h | h
 ·rw [h, bl_asymm h]; simp
 ·subst h; simp [bl_irrefl]
 ·rw [h, bl_asymm h]; simp; exact fun e => bl_ne h e.symm
theorem idxL {α : Type} {g : List α → Int → Option Int} {k : Option Int} (p : α → Bool) (h0 : ∀ n, g [] n = k) (h1 : ∀ x l n, g (x :: l) n = if p x = true then some n else g l (n + 1)) :
  ∀ l (n : Nat), g l n = if l.any p = true then some ((n + l.findIdx p : Nat) : Int) else k
 | [], n => by simp [h0]
 | x :: l, n => by
  have e : ((n : Int) + 1) = ((n + 1 : Nat) : Int) := rfl
  rw [h1, e, idxL p h0 h1 l (n + 1)]
  cases h : p x
  ·have e2 : n + 1 + l.findIdx p = n + (l.findIdx p + 1) := by omega
   simp only [List.any_cons, h, Bool.false_or, List.findIdx_cons, cond_false, e2, Bool.false_eq_true, if_false]
  ·simp [List.findIdx_cons, h]
theorem bytesL {β : Type} {g : Nat → Int → Option β} {k : Option β} {f : β} (s : List UInt8) (p : UInt8 → Bool) (h0 : ∀ n, g 0 n = k)
  (h1 : ∀ m n, g (m + 1) n = (idx s n).bind fun c => if p c = true then g m (n + 1) else some f) :
  ∀ (m n : Nat), n + m = s.length → g m n = if (s.drop n).all p = true then k else some f
 | 0, n, h => by rw [h0, List.drop_eq_nil_of_le (by omega)]; simp
 | m + 1, n, h => by
  have hn : n < s.length := by omega
  have e : ((n : Int) + 1) = ((n + 1 : Nat) : Int) := rfl
  rw [h1, idx_nat hn, Option.bind_some, e, bytesL s p h0 h1 m (n + 1) (by omega), List.drop_eq_getElem_cons hn, List.all_cons]
  cases h : p s[n]
  ·simp only [Bool.false_and, Bool.false_eq_true, if_false]
  ·simp only [Bool.true_and, if_true]
theorem ite2 {α : Type} {p q : Prop} [Decidable p] [Decidable q] {x y : Option α} {a b : α} (h : p ↔ q) (h1 : q → x = some a) (h2 : ¬ q → y = some b) : (if p then x else y) = some (if q then a else b) := by
 by_cases hq : q
 ·rw [if_pos (h.2 hq), if_pos hq, h1 hq]
 ·rw [if_neg (fun hp => hq (h.1 hp)), if_neg hq, h2 hq]
theorem ne0 {n : Int} : (n != 0) = true ↔ n ≠ 0 := by simp
set_option linter.unusedVariables false
set_option linter.unusedSimpArgs false
theorem leT_refl (a : List UInt8) : leT a a = true := by simp [leT, bl_irrefl]
theorem leT_total (a b : List UInt8) : (leT a b || leT b a) = true := by
 unfold leT
 rcases bl_tri a b with h | h | h
 ·simp [bl_asymm h]
 ·subst h; simp [bl_irrefl]
 ·simp [bl_asymm h]
theorem leT_anti {a b : List UInt8} (h : leT a b = true) (h' : leT b a = true) : a = b := by
 unfold leT at h h'
 rcases bl_tri a b with g | g | g
 ·simp [g] at h'
 ·exact g
 ·simp [g] at h
theorem leT_trans (a b c : List UInt8) (h : leT a b = true) (h' : leT b c = true) : leT a c = true := by
 unfold leT at *
 rcases bl_tri a b with g | g | g
 ·rcases bl_tri b c with k | k | k
  ·simp [bl_asymm (bl_trans g k)]
  ·subst k; simp [bl_asymm g]
  ·simp [k] at h'
 ·subst g; exact h'
 ·simp [g] at h
theorem lt_of_leT {a b : List UInt8} (h : leT a b = true) (hne : a ≠ b) : Op.bytesLess a b = true := by
 rcases bl_tri a b with g | g | g
 ·exact g
 ·exact absurd g hne
 ·simp [leT, g] at h
abbrev leK {α : Type} (a b : List UInt8 × α) : Bool := leT a.1 b.1
def atK {α : Type} (l : List (List UInt8 × α)) (k : List UInt8) : List (List UInt8 × α) := l.filter fun p => decide (p.1 = k)
theorem atK_canon {α : Type} (l : List (List UInt8 × α)) (k : List UInt8) : atK (canonM l) k = atK l k := by
 have hs : (atK l k).Sublist (canonM l) := List.sublist_mergeSort (le := leK) (fun a b c => leT_trans a.1 b.1 c.1) (fun a b => leT_total a.1 b.1) (by
  refine List.Pairwise.imp_of_mem (R := fun _ _ => True) ?_ (List.pairwise_of_forall (by simp))
  intro a b ha hb _
  have h1 := (List.mem_filter.1 ha).2
  have h2 := (List.mem_filter.1 hb).2
  simp only [decide_eq_true_eq] at h1 h2
  show leT a.1 b.1 = true
  rw [h1, h2]; exact leT_refl _) List.filter_sublist
 have h2 := hs.filter fun p => decide (p.1 = k)
 have e : (atK l k).filter (fun p => decide (p.1 = k)) = atK l k := by unfold atK; rw [List.filter_filter]; simp
 rw [e] at h2
 exact (h2.eq_of_length (by
  have := ((canonM_perm l).filter fun p => decide (p.1 = k)).length_eq
  exact this.symm)).symm
theorem sorted_ext {α : Type} : ∀ (l1 l2 : List (List UInt8 × α)), l1.Pairwise (fun a b => leT a.1 b.1 = true) → l2.Pairwise (fun a b => leT a.1 b.1 = true) → (∀ k, atK l1 k = atK l2 k) → l1 = l2
 | [], l2, _, _, h => by
  cases l2 with
  | nil => rfl
  | cons y l2 => have := h y.1; simp [atK] at this
 | x :: l1, l2, h1, h2, h => by
  cases l2 with
  | nil => have := h x.1; simp [atK] at this
  | cons y l2 =>
   have hx : x ∈ y :: l2 := by
    have : x ∈ atK (x :: l1) x.1 := by simp [atK]
    rw [h] at this
    exact (List.mem_filter.1 this).1
   have hy : y ∈ x :: l1 := by
    have : y ∈ atK (y :: l2) y.1 := by simp [atK]
    rw [← h] at this
    exact (List.mem_filter.1 this).1
   have a1 : leT y.1 x.1 = true := by
    rcases List.mem_cons.1 hx with e | e
    ·rw [e]; exact leT_refl _
    ·exact (List.pairwise_cons.1 h2).1 x e
   have a2 : leT x.1 y.1 = true := by
    rcases List.mem_cons.1 hy with e | e
    ·rw [e]; exact leT_refl _
    ·exact (List.pairwise_cons.1 h1).1 y e
   have hk : x.1 = y.1 := leT_anti a2 a1
   have h0 := h x.1
   simp only [atK, List.filter_cons, hk, decide_true, if_true] at h0
   obtain ⟨e1, e2⟩ := List.cons.inj h0
   subst e1
   rw [sorted_ext l1 l2 (List.pairwise_cons.1 h1).2 (List.pairwise_cons.1 h2).2 (fun k => by
    by_cases hkk : x.1 = k
    ·subst hkk; exact e2
    ·have := h k
     simpa [atK, List.filter_cons, hkk] using this)]
theorem canonM_sorted {α : Type} (l : List (List UInt8 × α)) : (canonM l).Pairwise (fun a b => leT a.1 b.1 = true) :=
 List.pairwise_mergeSort (le := leK) (fun a b c => leT_trans a.1 b.1 c.1) (fun a b => leT_total a.1 b.1) l
theorem canon_ext {α : Type} {l1 l2 : List (List UInt8 × α)} (h : ∀ k, atK l1 k = atK l2 k) : canonM l1 = canonM l2 :=
 sorted_ext _ _ (canonM_sorted _) (canonM_sorted _) (fun k => by rw [atK_canon, atK_canon]; exact h k)
theorem atK_mput {α : Type} (x k : List UInt8) (v : α) : ∀ m : List (List UInt8 × α), atK (mput m x v) k = if x = k then mput (atK m k) x v else atK m k
 | [] => by
  by_cases h : x = k
  ·subst h; simp [atK, mput]
  ·simp [atK, mput, h]
 | p :: m => by
  have ih := atK_mput x k v m
  simp only [mput]
  by_cases hp : p.1 = x
  ·rw [if_pos hp]
   by_cases h : x = k
   ·subst h; simp [atK, hp, mput]
   ·simp [atK, hp, h]
  ·rw [if_neg hp]
   simp only [atK, List.filter_cons] at ih ⊢
   by_cases hk : p.1 = k
   ·have hxk : x ≠ k := fun e => hp (hk.trans e.symm)
    rw [if_neg hxk] at ih ⊢
    simp [hk, ih]
   ·simp only [hk, decide_false, Bool.false_eq_true, if_false]; exact ih
def insC {α : Type} (m : List (List UInt8 × α)) (x : List UInt8) (v : α) : List (List UInt8 × α) := canonM (mput m x v)
theorem insC_comm {α : Type} (m : List (List UInt8 × α)) (x y : List UInt8) (v u : α) (h : x ≠ y ∨ v = u) : insC (insC m x v) y u = insC (insC m y u) x v := by
 refine canon_ext fun k => ?_
 rw [atK_mput, atK_mput]
 unfold insC
 rw [atK_canon, atK_canon, atK_mput, atK_mput]
 by_cases hy : y = k
 ·by_cases hx : x = k
  ·subst hy hx
   rcases h with h | h
   ·exact absurd rfl h
   ·subst h; rfl
  ·rw [if_pos hy, if_neg hx, if_neg hx, if_pos hy]
 ·by_cases hx : x = k
  ·rw [if_neg hy, if_pos hx, if_pos hx, if_neg hy]
  ·rw [if_neg hy, if_neg hx, if_neg hx, if_neg hy]
def insAll (m : List (List UInt8 × Bool)) : List (List UInt8) → List (List UInt8 × Bool)
 | [] => m
 | x :: l => insAll (canonM (mput m x true)) l
theorem insAll_append (m : List (List UInt8 × Bool)) : ∀ l l' : List (List UInt8), insAll m (l ++ l') = insAll (insAll m l) l'
 | [], _ => rfl
 | x :: l, l' => insAll_append _ l l'
theorem insAll_perm {l l' : List (List UInt8)} (h : l.Perm l') : ∀ m, insAll m l = insAll m l' := by
 induction h with
 | nil => exact fun _ => rfl
 | cons _ _ ih => exact fun m => ih _
 | swap x y l => exact fun m => congrArg (fun q => insAll q l) (insC_comm m y x true true (.inr rfl))
 | trans _ _ h1 h2 => exact fun m => (h1 m).trans (h2 m)
structure SetOk (m : List (List UInt8 × Bool)) : Prop where
 srt : (m.map (·.1)).Pairwise (fun a b => Op.bytesLess a b = true)
 all : ∀ p, p ∈ m → p.2 = true
theorem SetOk.nil : SetOk [] := ⟨by simp, by simp⟩
theorem nodup_lt {l : List (List UInt8)} (h : l.Pairwise (fun a b => Op.bytesLess a b = true)) : l.Nodup := h.imp bl_ne
theorem lt_of_sorted {l : List (List UInt8)} (h : l.Pairwise (fun a b => leT a b = true)) (hn : l.Nodup) : l.Pairwise (fun a b => Op.bytesLess a b = true) := by
 induction l with
 | nil => exact .nil
 | cons x l ih =>
  rw [List.pairwise_cons] at h ⊢
  rw [List.nodup_cons] at hn
  exact ⟨fun y hy => lt_of_leT (h.1 y hy) (fun e => hn.1 (by rw [e]; exact hy)), ih h.2 hn.2⟩
theorem mput_keys {α : Type} (x : List UInt8) (v : α) : ∀ m : List (List UInt8 × α), ((mput m x v).map (·.1)) = if x ∈ m.map (·.1) then m.map (·.1) else m.map (·.1) ++ [x]
 | [] => by simp [mput]
 | p :: m => by
  simp only [mput]
  by_cases h : p.1 = x
  ·rw [if_pos h]; simp [h]
  ·rw [if_neg h, List.map_cons, mput_keys x v m]
   by_cases hx : x ∈ m.map (·.1)
   ·rw [if_pos hx, if_pos (by simp at hx ⊢; exact .inr hx)]; rfl
   ·rw [if_neg hx, if_neg (by simp at hx ⊢; exact ⟨fun e => h e.symm, hx⟩)]; rfl
theorem mput_all {α : Type} (x : List UInt8) (v : α) : ∀ (m : List (List UInt8 × α)) (p : List UInt8 × α), p ∈ mput m x v → p = (x, v) ∨ p ∈ m
 | [], p, h => by simp [mput] at h; exact .inl h
 | q :: m, p, h => by
  simp only [mput] at h
  split at h
  ·rcases List.mem_cons.1 h with h | h
   ·exact .inl h
   ·exact .inr (List.mem_cons_of_mem _ h)
  ·rcases List.mem_cons.1 h with h | h
   ·exact .inr (by rw [h]; exact List.mem_cons_self)
   ·rcases mput_all x v m p h with h | h
    ·exact .inl h
    ·exact .inr (List.mem_cons_of_mem _ h)
theorem ins_keys {α : Type} (m : List (List UInt8 × α)) (x : List UInt8) (v : α) (y : List UInt8) : y ∈ (canonM (mput m x v)).map (·.1) ↔ y = x ∨ y ∈ m.map (·.1) := by
 rw [((canonM_perm (mput m x v)).map (·.1)).mem_iff, mput_keys]
 split
 ·rename_i h
  refine ⟨.inr, fun hh => ?_⟩
  rcases hh with e | e
  ·rw [e]; exact h
  ·exact e
 ·rw [List.mem_append]; simp [or_comm]
theorem ins_srt {α : Type} {m : List (List UInt8 × α)} (x : List UInt8) (v : α) (h : (m.map (·.1)).Pairwise (fun a b => Op.bytesLess a b = true)) : ((canonM (mput m x v)).map (·.1)).Pairwise (fun a b => Op.bytesLess a b = true) := by
 refine lt_of_sorted ?_ ?_
 ·rw [List.pairwise_map]; exact canonM_sorted _
 ·refine ((canonM_perm (mput m x v)).map (·.1)).nodup_iff.2 ?_
  rw [mput_keys]
  split
  ·exact nodup_lt h
  ·rename_i hx
   rw [List.nodup_append]
   exact ⟨nodup_lt h, by simp, fun a ha b hb e => hx (by simp at hb; rw [← hb, ← e]; exact ha)⟩
theorem SetOk.ins {m : List (List UInt8 × Bool)} (h : SetOk m) (x : List UInt8) : SetOk (canonM (mput m x true)) := by
 refine ⟨ins_srt x true h.srt, fun p hp => ?_⟩
 rcases mput_all x true m p ((canonM_perm _).mem_iff.1 hp) with e | e
 ·rw [e]
 ·exact h.all p e
theorem SetOk.insAll {m : List (List UInt8 × Bool)} (h : SetOk m) : ∀ l, SetOk (insAll m l)
 | [] => h
 | x :: l => SetOk.insAll (h.ins x) l
theorem insAll_keys (y : List UInt8) : ∀ (l : List (List UInt8)) (m : List (List UInt8 × Bool)), y ∈ (insAll m l).map (·.1) ↔ y ∈ l ∨ y ∈ m.map (·.1)
 | [], m => by simp [insAll]
 | x :: l, m => by rw [insAll, insAll_keys y l, ins_keys, List.mem_cons]; exact ⟨fun h => h.elim (fun h => .inl (.inr h)) (fun h => h.elim (fun h => .inl (.inl h)) .inr), fun h => h.elim (fun h => h.elim (fun h => .inr (.inl h)) .inl) (fun h => .inr (.inr h))⟩
theorem mget_mem {α : Type} : ∀ (m : List (List UInt8 × α)) (x : List UInt8), (mget m x).isSome = true ↔ x ∈ m.map (·.1)
 | [], x => by simp [mget]
 | p :: m, x => by
  simp only [mget, List.map_cons, List.mem_cons]
  by_cases h : p.1 = x
  ·simp [h]
  ·rw [if_neg h, mget_mem m x]
   exact ⟨.inr, fun q => q.elim (fun e => absurd e.symm h) (fun h => h)⟩
theorem mget_in {α : Type} : ∀ (m : List (List UInt8 × α)) (x : List UInt8) (v : α), mget m x = some v → (x, v) ∈ m
 | [], x, v, h => by simp [mget] at h
 | p :: m, x, v, h => by
  simp only [mget] at h
  split at h
  ·rename_i e; simp at h; subst e; subst h; exact List.mem_cons_self
  ·exact List.mem_cons_of_mem _ (mget_in m x v h)
theorem SetOk.get {m : List (List UInt8 × Bool)} (h : SetOk m) (x : List UInt8) : (mget m x).getD false = true ↔ x ∈ m.map (·.1) := by
 rw [← mget_mem]
 cases hg : mget m x with
 | none => simp
 | some v => simp; exact h.all _ (mget_in m x v hg)
def srtT (l : List (List UInt8)) : List (List UInt8) := l.mergeSort leT
theorem srtT_perm (l : List (List UInt8)) : (srtT l).Perm l := List.mergeSort_perm _ _
theorem srtT_srt (l : List (List UInt8)) : (srtT l).Pairwise (fun a b => leT a b = true) := List.pairwise_mergeSort leT_trans leT_total l
theorem bl_lt (a b : List UInt8) : (a < b) ↔ Op.bytesLess a b = true := by
 induction a generalizing b with
 | nil => cases b <;> simp [Op.bytesLess]
 | cons x a ih =>
  cases b with
  | nil => simp [Op.bytesLess]
  | cons y b => rw [bl_cons, List.cons_lt_cons_iff, ih]; simp
theorem le_leT (a b : List UInt8) : decide (a ≤ b) = leT a b := by
 unfold leT
 rw [← Bool.not_inj_iff, Bool.not_not]
 cases h : Op.bytesLess b a
 ·simp only [Bool.not_eq_eq_eq_not, Bool.not_false, decide_eq_true_eq]
  exact fun hh => by rw [(bl_lt b a).1 hh] at h; simp at h
 ·simp only [Bool.not_eq_eq_eq_not, Bool.not_true, decide_eq_false_iff_not]
  exact fun hh => hh ((bl_lt b a).2 h)
theorem tsort_eq (l : List (List UInt8)) : tsort l = srtT l := by
 unfold tsort srtT
 congr 1
 funext a b
 exact le_leT a b
theorem cpt_mem (l : List (List UInt8)) (x : List UInt8) : x ∈ cpt l ↔ x ∈ l := by
 unfold cpt Lib.compact Lib.compactUpTo
 rw [List.mem_map]
 constructor
 ·rintro ⟨j, hj, rfl⟩
  have hlt := List.mem_range.1 (List.mem_filter.1 hj).1
  rw [getElem!_pos l.toArray j (by simpa using hlt)]
  simp
 ·intro hx
  have key : ∀ j, j < l.length → ∃ i, i ≤ j ∧ Lib.keeps l.toArray i = true ∧ l.toArray[i]! = l.toArray[j]! := by
   intro j
   induction j with
   | zero => exact fun _ => ⟨0, Nat.le_refl _, by simp [Lib.keeps], rfl⟩
   | succ j ih =>
    intro hj
    by_cases he : l.toArray[j + 1]! = l.toArray[j]!
    ·obtain ⟨i, h1, h2, h3⟩ := ih (by omega)
     exact ⟨i, by omega, h2, h3.trans he.symm⟩
    ·exact ⟨j + 1, Nat.le_refl _, by simp only [Lib.keeps, Nat.add_sub_cancel]; exact decide_eq_true (.inr he), rfl⟩
  obtain ⟨j, hj, rfl⟩ := List.getElem_of_mem hx
  obtain ⟨i, h1, h2, h3⟩ := key j hj
  refine ⟨i, List.mem_filter.2 ⟨List.mem_range.2 (by omega), h2⟩, ?_⟩
  rw [h3, getElem!_pos l.toArray j (by simpa using hj)]
  simp
theorem cpt_srt {l : List (List UInt8)} (h : l.Pairwise (fun a b => leT a b = true)) : (cpt l).Pairwise (fun a b => Op.bytesLess a b = true) := by
 unfold cpt Lib.compact Lib.compactUpTo
 rw [List.pairwise_map]
 have hr : ((List.range l.length).filter (Lib.keeps l.toArray)).Pairwise (· < ·) := List.pairwise_lt_range.filter _
 refine List.Pairwise.imp_of_mem ?_ hr
 intro i j hi hj hlt
 have hj1 := List.mem_range.1 (List.mem_filter.1 hj).1
 have hj2 := (List.mem_filter.1 hj).2
 simp only [Lib.keeps, decide_eq_true_eq] at hj2
 have hne : l.toArray[j]! ≠ l.toArray[j - 1]! := hj2.resolve_left (by omega)
 rw [getElem!_pos l.toArray j (by simpa using hj1), getElem!_pos l.toArray (j - 1) (by simp; omega)] at hne
 rw [getElem!_pos l.toArray i (by simp; omega), getElem!_pos l.toArray j (by simpa using hj1)]
 simp only [List.getElem_toArray] at hne ⊢
 rw [List.pairwise_iff_getElem] at h
 have a1 : leT l[j - 1] l[j] = true := h (j - 1) j (by omega) hj1 (by omega)
 have a2 : leT l[i] l[j - 1] = true := by
  by_cases e : i = j - 1
  ·subst e; exact leT_refl _
  ·exact h i (j - 1) (by omega) (by omega) (by omega)
 have a3 := lt_of_leT a1 (fun e => hne e.symm)
 rcases bl_tri l[i] l[j] with g | g | g
 ·exact g
 ·rw [g] at a2; exact absurd (leT_anti a1 a2) (fun e => hne e.symm)
 ·have := leT_trans _ _ _ a2 a1
  simp [leT, g] at this
end Go.Pv
namespace Go.Proofs.Ytpbkggamiipdmaa
open Go Go.Pv
set_option linter.unusedVariables false
def cntA (how : Int) (s : Tprovenderref6_sets) (x : Tprovenderref6_aim) : Bool := (how == 1) || (x.typ == ([] : List UInt8)) || (mget s.made x.typ).getD false
def tosL (how : Int) (s : Tprovenderref6_sets) (ls : List Tprovenderref6_link) : List (List UInt8) := ls.flatMap fun l => (l.aims.filter (cntA how s)).map (·.to)
def linksN (n : Tprovenderref6_net) (x : List UInt8) : List Tprovenderref6_link := (mget n.links x).getD []
def funcN (n : Tprovenderref6_net) (x : List UInt8) : TFunc := (mget n.funcs x).getD (TFunc.mk [] [] [] [])
theorem M73_L5_eq (F : Nat) (a2 : Int) (a3 : Tprovenderref6_sets) (k : List ((List UInt8) × Bool) → Option Tprovenderref6_sets) : ∀ (l : List Tprovenderref6_aim) (m : List ((List UInt8) × Bool)), M73_L5 F a2 a3 k l m = k (insAll m ((l.filter (cntA a2 a3)).map (·.to)))
 | [], m => rfl
 | x :: l, m => by
  rw [M73_L5, jn_def]
  simp only [jn_def]
  by_cases h1 : (a2 == 1) = true
  ·rw [if_pos h1, M73_L5_eq F a2 a3 k l, List.filter_cons, if_pos (by simp [cntA, h1])]; rfl
  ·rw [if_neg h1]
   by_cases h2 : (x.typ == ([] : List UInt8)) = true
   ·rw [if_pos h2, M73_L5_eq F a2 a3 k l, List.filter_cons, if_pos (by simp [cntA, h2])]; rfl
   ·rw [if_neg h2]
    by_cases h3 : (mget a3.made x.typ).getD false = true
    ·rw [if_pos h3, M73_L5_eq F a2 a3 k l, List.filter_cons, if_pos (by simp [cntA, h3])]; rfl
    ·rw [if_neg h3, M73_L5_eq F a2 a3 k l, List.filter_cons, if_neg (by simp only [cntA, Bool.or_eq_true]; rintro ((h | h) | h); exact h1 h; exact h2 h; exact h3 h)]
theorem M73_L4_eq (F : Nat) (a2 : Int) (a3 : Tprovenderref6_sets) (k : List ((List UInt8) × Bool) → Option Tprovenderref6_sets) : ∀ (l : List Tprovenderref6_link) (m : List ((List UInt8) × Bool)), M73_L4 F a2 a3 k l m = k (insAll m (tosL a2 a3 l))
 | [], m => rfl
 | x :: l, m => by
  rw [M73_L4, jn_def]
  simp only [jn_def]
  rw [M73_L5_eq, M73_L4_eq F a2 a3 k l, ← insAll_append]; rfl
theorem M73_L3_eq (F : Nat) (k : List ((List UInt8) × Bool) → Option Tprovenderref6_sets) : ∀ (l : List (List UInt8)) (m : List ((List UInt8) × Bool)), M73_L3 F k l m = k (insAll m l)
 | [], m => rfl
 | x :: l, m => by rw [M73_L3, M73_L3_eq F k l]; rfl
theorem M73_L2_eq (F : Nat) (a1 : Tprovenderref6_net) (a2 : Int) (a3 : Tprovenderref6_sets) : ∀ (l : List ((List UInt8) × Bool)) (m1 m2 : List ((List UInt8) × Bool)),
  M73_L2 F a1 a2 a3 l m1 m2 = some (Tprovenderref6_sets.mk (insAll m1 (l.flatMap fun e => e.1 :: tosL a2 a3 (linksN a1 e.1))) (insAll m2 (l.flatMap fun e => (funcN a1 e.1).Makes)))
 | [], m1, m2 => rfl
 | e :: l, m1, m2 => by
  rw [M73_L2, jn_def]
  simp only [jn_def]
  rw [M73_L3_eq, M73_L4_eq, M73_L2_eq F a1 a2 a3 l]
  simp only [List.flatMap_cons, insAll_append]
  rfl
theorem ord_M73_L2 {F : Nat} {a1 : Tprovenderref6_net} {a2 : Int} {a3 : Tprovenderref6_sets} {l l' : List ((List UInt8) × Bool)} {m1 m2 : List ((List UInt8) × Bool)} {r : Tprovenderref6_sets} (hp : l.Perm l')
  (h : M73_L2 F a1 a2 a3 l m1 m2 = some r) : M73_L2 F a1 a2 a3 l' m1 m2 = some r := by
 rw [← h, M73_L2_eq, M73_L2_eq, insAll_perm (hp.flatMap_right _), insAll_perm (hp.flatMap_right _)]
def hlf (n : Nat) : Int := w64 (Int.tdiv ((n : Nat) : Int) 2)
end Go.Proofs.Ytpbkggamiipdmaa
namespace Go.Pv
open Go Go.ChangeShapes Go.WideShapes
mutual
def bulk {H : Type} : DataW H → Nat
 | .lit (.string bytes) => bytes.length + 1
 | .lit _ => 1
 | .nil => 1
 | .ptr d => bulk d + 1
 | .slice elems spare => bulkAll elems + bulkAll spare + 1
 | .agg parts => bulkAll parts + 1
 | .iface _ d => bulk d + 1
 | .map entries => bulkEnts entries + 1
 | .held _ => 1
def bulkAll {H : Type} : List (DataW H) → Nat
 | [] => 0
 | d :: r => bulk d + bulkAll r
def bulkEnts {H : Type} : List (Lit × DataW H) → Nat
 | [] => 0
 | x :: r => bulkEnt x + bulkEnts r
def bulkEnt {H : Type} : Lit × DataW H → Nat
 | (.string bytes, d) => bytes.length + bulk d + 1
 | (_, d) => bulk d + 1
end
def memOf (w : World) : Mem := fun b => w.heap[b]?
def IRelL (m : Mem) (ds : List V) (cs : List Value) : Prop :=
 ds.length = cs.length ∧ ∀ (i : Nat) (c : V) (v : Value), ds[i]? = some c → cs[i]? = some v → IRel m c v
theorem IRelL.one {m : Mem} {d : V} {c : Value} (h : IRel m d c) : IRelL m [d] [c] :=
 ⟨rfl, fun i d' c' hd hc => by
  match i with
  | 0 => simp at hd hc; subst hd; subst hc; exact h
  | _ + 1 => simp at hd⟩
theorem IRelL.app {m : Mem} {a b : List V} {x y : List Value} (h : IRelL m a x) (h' : IRelL m b y) : IRelL m (a ++ b) (x ++ y) := by
 refine ⟨by simp [h.1, h'.1], fun i c v hc hv => ?_⟩
 by_cases hi : i < a.length
 ·rw [List.getElem?_append_left hi] at hc
  rw [List.getElem?_append_left (by rw [← h.1]; exact hi)] at hv
  exact h.2 i c v hc hv
 ·rw [List.getElem?_append_right (by omega)] at hc
  rw [List.getElem?_append_right (by rw [← h.1]; omega), ← h.1] at hv
  exact h'.2 _ c v hc hv
section
variable {P : Program} {t e : TypeId} {α β : Type}
def wOk {H : Type} (P : Program) (t : TypeId) (d : DataW H) : Prop := (d.weights P t).all (· ≤ reachBytes) = true
def wOks {H : Type} (P : Program) (ts : List TypeId) (ds : List (DataW H)) : Prop := (DataW.weightsEach P ts ds).all (· ≤ reachBytes) = true
theorem wOks_cons {H : Type} {P : Program} {t : TypeId} {ts : List TypeId} {d : DataW H} {ds : List (DataW H)} (h : wOks P (t :: ts) (d :: ds)) : wOk P t d ∧ wOks P ts ds := by
 unfold wOks wOk at *
 rw [DataW.weightsEach, List.all_append, Bool.and_eq_true] at h
 exact h
theorem wAll {H : Type} {P : Program} {e : TypeId} : ∀ (l : List (DataW H)), (DataW.weightsAll P e l).all (· ≤ reachBytes) = true → ∀ d, d ∈ l → wOk P e d
 | [], _, d, hd => by simp at hd
 | x :: l, h, d, hd => by
  rw [DataW.weightsAll, List.all_append, Bool.and_eq_true] at h
  rcases List.mem_cons.1 hd with rfl | hd
  ·exact h.1
  ·exact wAll l h.2 d hd
def Opens (P : Program) (t : TypeId) (e : α → List V) (sz : α → Nat) (ok : α → Prop) : Prop :=
 ∀ {H : Type} (enc : TypeId × Value → H) (w : World) (fuel : Nat) (cs : List Value) (x : DataW H × List MemPlace),
  DataW.trod enc P w 0 (fun _ => true) true fuel t cs = some x → wOk P t x.1 → ∃ a : α, IRelL (memOf w) (e a) cs ∧ sz a ≤ bulk x.1 ∧ ok a
theorem opens_int {k : IntKind} (ht : P.underlying t = some (.int k)) : Opens P t (fun n : Int => [V.con (.int k n)]) (fun _ => 1) (fun n => k.min ≤ n ∧ n ≤ k.max) := by
 intro H enc w fuel cs x h hw
 obtain ⟨n, rfl, rfl, hw'⟩ := DataW.trod_int ht h
 simp only [Lit.wf, Bool.and_eq_true, decide_eq_true_eq] at hw'
 exact ⟨n, IRelL.one (.con _), by simp [bulk], hw'⟩
theorem opens_string (ht : P.underlying t = some .string) : Opens P t (fun s : List UInt8 => [sV s]) (fun s => s.length + 1) (fun s => s.length ≤ maxLen) := by
 intro H enc w fuel cs x h hw
 obtain ⟨s, rfl, rfl, hs⟩ := DataW.trod_string ht h
 refine ⟨s.data.toList, IRelL.one ?_, by simp [bulk], by simpa using hs⟩
 have : str s.data.toList = .string s := by simp [str]
 unfold sV
 rw [this]
 exact .con _
theorem list_of {p : Nat → α → Prop} : ∀ {n : Nat}, (∀ i, i < n → ∃ a, p i a) → ∃ l : List α, l.length = n ∧ ∀ i a, l[i]? = some a → p i a
 | 0, _ => ⟨[], rfl, by simp⟩
 | n + 1, h => by
  obtain ⟨l, hl, hp⟩ := list_of (n := n) fun i hi => h i (by omega)
  obtain ⟨a, ha⟩ := h n (by omega)
  refine ⟨l ++ [a], by simp [hl], fun i b hb => ?_⟩
  by_cases hi : i < l.length
  ·rw [List.getElem?_append_left hi] at hb; exact hp i b hb
  ·rw [List.getElem?_append_right (by omega)] at hb
   have : i - l.length = 0 := by
    have := (List.getElem?_eq_some_iff.1 hb).1
    simp at this; omega
   rw [this] at hb
   simp at hb
   subst hb
   rw [show i = n by omega]; exact ha
theorem bulkAll_map {H : Type} {n : Nat} (D : Nat → DataW H) : bulkAll ((List.range n).map D) = ((List.range n).map fun i => bulk (D i)).sum := by
 generalize List.range n = l
 induction l with
 | nil => rfl
 | cons a l ih => simp [bulkAll, ih]
theorem sum_le {l : List α} {sz : α → Nat} {g : Nat → Nat} (h : ∀ i a, l[i]? = some a → sz a ≤ g i) : (l.map sz).sum ≤ ((List.range l.length).map g).sum := by
 induction l generalizing g with
 | nil => simp
 | cons a l ih =>
  rw [List.length_cons, List.range_succ_eq_map]
  simp only [List.map_cons, List.sum_cons, List.map_map]
  have h0 := h 0 a rfl
  have h1 := ih (g := g ∘ Nat.succ) fun i b hb => h (i + 1) b (by simpa using hb)
  exact Nat.add_le_add h0 h1
theorem opens_slice {k : Nat} {ee : α → List V} {sz : α → Nat} {ok : α → Prop} (ht : P.underlying t = some (.slice e)) (hk : P.cellsOf e = k) (h0 : 0 < k) (he : Opens P e ee sz ok) :
  Opens P t (fun l : List α => [V.lst k (l.map ee)]) (fun l => (l.map sz).sum + 1) (fun l => (∀ a, a ∈ l → ok a) ∧ l.length ≤ maxLen) := by
 intro H enc w fuel cs x h hw
 rcases Deep.open_slice ht h with ⟨rfl, rfl⟩ | ⟨a, len, cap, m, n, D, Pl, rfl, _, hlc, hcm, hm, rfl, hel⟩
 ·exact ⟨[], IRelL.one (.nil _ _ _), by simp [bulk], by simp⟩
 ·simp only [if_true] at hm
  subst hm
  obtain ⟨l, hl, hp⟩ := list_of (n := len) (p := fun i (b : α) => sz b ≤ bulk (D i) ∧ ok b ∧ ∃ cs', w.cells? 0 (a.add (i * P.cellsOf e)) (P.cellsOf e) = some cs' ∧ IRelL (memOf w) (ee b) cs') (by
   intro i hi
   obtain ⟨cs', hc, hd⟩ := hel i (by omega)
   obtain ⟨b, h1, h2, h3⟩ := he _ _ _ _ _ hd (by
    unfold wOk at hw
    rw [DataW.weights] at hw
    simp only [ht, List.all_cons, List.all_append, Bool.and_eq_true] at hw
    exact wAll _ hw.2.1 _ (List.mem_map.2 ⟨i, List.mem_range.2 hi, rfl⟩))
   exact ⟨b, h2, h3, cs', hc, h1⟩)
  refine ⟨l, IRelL.one ?_, ?_, fun b hb => ?_, by omega⟩
  ·by_cases hz : len = 0
   ·subst hz
    have : l = [] := List.length_eq_zero_iff.1 hl
    subst this
    exact .nil _ _ _
   ·have hcell : ∀ i j b, l[i]? = some b → j < k → ∃ v, w.cell? ((a.add (i * k)).add j) = some v ∧ (∃ c, (ee b)[j]? = some c) ∧ ∀ c, (ee b)[j]? = some c → IRel (memOf w) c v := by
     intro i j b hb hj
     obtain ⟨_, _, cs', hc, hr⟩ := hp i b hb
     rw [hk] at hc
     obtain ⟨_, hn, hcs⟩ := World.cells?_some hc
     have hj' : j < cs'.length := by omega
     have hv : cs'[j]? = some cs'[j] := List.getElem?_eq_getElem hj'
     have hj2 : j < (ee b).length := by rw [hr.1]; exact hj'
     exact ⟨cs'[j], (hcs j hj).trans hv, ⟨(ee b)[j], List.getElem?_eq_getElem hj2⟩, fun c hcc => hr.2 j c _ hcc hv⟩
    have hlen : ∀ b, b ∈ l → (ee b).length = k := by
     intro b hb
     obtain ⟨i, hi⟩ := List.mem_iff_getElem?.1 hb
     obtain ⟨_, _, cs', hc, hr⟩ := hp i b hi
     rw [hk] at hc
     rw [hr.1, (World.cells?_some hc).2.1]
    have hb0 : ∃ b, l[0]? = some b := ⟨l[0]'(by omega), List.getElem?_eq_getElem _⟩
    obtain ⟨b0, hb0⟩ := hb0
    obtain ⟨v0, hv0, _⟩ := hcell 0 0 b0 hb0 h0
    have hadd0 : (a.add (0 * k)).add 0 = a := by simp [Addr.add]
    rw [hadd0] at hv0
    unfold World.cell? at hv0
    split at hv0
    case h_2 => simp at hv0
    rename_i arr T fr hblk
    have hsp : a.spot = none := by
     cases hs : a.spot with
     | none => rfl
     | some s => simp [hs] at hv0
    have hget : ∀ i j b, l[i]? = some b → j < k → ∃ v, arr[a.off + (i * k + j)]? = some v ∧ (∃ c, (ee b)[j]? = some c) ∧ ∀ c, (ee b)[j]? = some c → IRel (memOf w) c v := by
     intro i j b hb hj
     obtain ⟨v, hv, hc⟩ := hcell i j b hb hj
     rw [Deep.add_add] at hv
     unfold World.cell? at hv
     have hbk : (a.add (i * k + j)).block = a.block := by unfold Addr.add; split <;> rfl
     have hso : (a.add (i * k + j)).spot = none := by unfold Addr.add; split <;> simp [hsp]
     have hof : (a.add (i * k + j)).off = a.off + (i * k + j) := by unfold Addr.add; split <;> simp [*]
     rw [hbk, hblk] at hv
     simp only [hso, hof] at hv
     exact ⟨v, by simpa using hv, hc⟩
    refine IRel.lst (arr := arr) (T := T) (fr := fr) (fun i => (arr[a.off + i]?).getD undef) hblk hsp (by simpa using hl) hlc (by omega) ?_ ?_ ?_
    ·intro row hrow
     obtain ⟨b, hb, rfl⟩ := List.mem_map.1 hrow
     exact hlen b hb
    ·intro i hi
     rw [List.length_map] at hi
     have hq : i / k < l.length := Nat.div_lt_of_lt_mul (by rw [Nat.mul_comm]; exact hi)
     obtain ⟨v, hv, _⟩ := hget (i / k) (i % k) l[i / k] (List.getElem?_eq_getElem hq) (Nat.mod_lt _ h0)
     have : i / k * k + i % k = i := by rw [Nat.mul_comm]; exact Nat.div_add_mod i k
     rw [this] at hv
     simp [hv]
    ·intro i j row c hrow hc
     rw [List.getElem?_map, Option.map_eq_some_iff] at hrow
     obtain ⟨b, hb, rfl⟩ := hrow
     have hj : j < k := by
      have := (List.getElem?_eq_some_iff.1 hc).1
      rw [hlen b (List.mem_iff_getElem?.2 ⟨i, hb⟩)] at this
      exact this
     obtain ⟨v, hv, _, hcr⟩ := hget i j b hb hj
     simp only [hv, Option.getD_some]
     exact hcr c hc
  ·simp only [bulk]
   rw [bulkAll_map]
   have := sum_le (l := l) (sz := sz) (g := fun i => bulk (D i)) fun i b hb => (hp i b hb).1
   rw [hl] at this
   omega
  ·obtain ⟨i, hi⟩ := List.mem_iff_getElem?.1 hb
   exact (hp i b hi).2.1
def FOpens (P : Program) (N : Nat) (fs : List (TypeId × Nat × Nat)) (off : Nat) (e : α → List V) (sz : α → Nat) (ok : α → Prop) : Prop :=
 ∀ {H : Type} (enc : TypeId × Value → H) (w : World) (n : Nat) (cs : List Value) (xs : List (DataW H × List MemPlace)), cs.length = N → xs.length = fs.length →
  (∀ (i : Nat) (f : TypeId × Nat × Nat), fs[i]? = some f → DataW.trod enc P w 0 (fun _ => true) true n f.1 ((cs.drop f.2.1).take f.2.2) = xs[i]?) →
  wOks P (fs.map (·.1)) (xs.map (·.1)) → ∃ a : α, IRelL (memOf w) (e a) (cs.drop off) ∧ sz a ≤ bulkAll (xs.map (·.1)) ∧ ok a
theorem fopens_nil {N : Nat} : FOpens P N [] N (fun _ : Unit => []) (fun _ => 0) (fun _ => True) := by
 intro H enc w n cs xs hN hx _ _
 refine ⟨(), ?_, by simp, trivial⟩
 rw [← hN]
 simp [IRelL]
theorem fopens_cons {N k off : Nat} {ft : TypeId} {fs : List (TypeId × Nat × Nat)} {ea : α → List V} {eb : β → List V} {sa : α → Nat} {sb : β → Nat} {oa : α → Prop} {ob : β → Prop}
  (h : Opens P ft ea sa oa) (hr : FOpens P N fs (off + k) eb sb ob) : FOpens P N ((ft, off, k) :: fs) off (fun p : α × β => ea p.1 ++ eb p.2) (fun p => sa p.1 + sb p.2) (fun p => oa p.1 ∧ ob p.2) := by
 intro H enc w n cs xs hN hx hf hw
 match xs, hx with
 | x :: xs, hx =>
  have h1 := hf 0 _ rfl
  simp only [List.getElem?_cons_zero] at h1
  have hw' := wOks_cons hw
  obtain ⟨a, ha, hs, ho⟩ := h enc w n _ x h1 hw'.1
  have hb' := hr enc w n cs xs hN (by simpa using hx) fun i f hi => by
   have := hf (i + 1) f (by simpa using hi)
   simpa using this
  obtain ⟨b, hb, hs', ho'⟩ := hb' hw'.2
  refine ⟨(a, b), ?_, by simp only [List.map_cons, bulkAll]; omega, ho, ho'⟩
  have := ha.app hb
  rw [show (cs.drop off).take k ++ cs.drop (off + k) = cs.drop off by rw [← List.drop_drop]; exact List.take_append_drop _ _] at this
  exact this
def fieldsOf (P : Program) (t : TypeId) : Option (List (TypeId × Nat × Nat)) :=
 match P.underlying t with
 | some (.struct fs) => some (fs.toList.map fun f => (f.type, f.offset, P.cellsOf f.type))
 | _ => none
theorem opens_struct {N : Nat} {fs : List (TypeId × Nat × Nat)} {e : α → List V} {sz : α → Nat} {ok : α → Prop} (ht : fieldsOf P t = some fs) (hN : P.cellsOf t = N) (h : FOpens P N fs 0 e sz ok) :
  Opens P t e (fun a => sz a + 1) ok := by
 intro H enc w fuel cs x hx hw
 unfold fieldsOf at ht
 split at ht
 case h_2 => simp at ht
 rename_i gs hu
 simp only [Option.some.injEq] at ht
 subst ht
 obtain ⟨xs, n, _, rfl, hl, hxl, hf⟩ := DataW.trod_struct hu hx
 have ha' := h enc w n cs xs (hl.trans hN) (by simpa using hxl) fun i f hi => by
  rw [List.getElem?_map, Option.map_eq_some_iff] at hi
  obtain ⟨g, hg, rfl⟩ := hi
  exact hf i g (by simpa using hg)
 obtain ⟨a, h1, h2, h3⟩ := ha' (by
  unfold wOk at hw
  rw [DataW.weights] at hw
  simp only [hu] at hw
  unfold wOks
  rw [List.map_map]
  exact hw)
 exact ⟨a, by simpa using h1, by simp only [bulk]; omega, h3⟩
theorem opens_map {ea : α → List V} {eb : β → List V} {sa : α → Nat} {sb : β → Nat} {oa : α → Prop} {ob : β → Prop} (h : Opens P t ea sa oa) (g : α → β)
  (he : ∀ a, eb (g a) = ea a) (hs : ∀ a, sb (g a) = sa a) (ho : ∀ a, oa a → ob (g a)) : Opens P t eb sb ob := by
 intro H enc w fuel cs x hx hw
 obtain ⟨a, h1, h2, h3⟩ := h enc w fuel cs x hx hw
 exact ⟨g a, by rw [he]; exact h1, by rw [hs]; exact h2, ho a h3⟩
def OpensV (P : Program) (t : TypeId) (e : α → V) (sz : α → Nat) (ok : α → Prop) : Prop :=
 ∀ {H : Type} (enc : TypeId × Value → H) (w : World) (base : Nat) (v : Value) (d : DataW H) (p : List MemPlace),
  Value.okWide P w .any base t v → DataW.Trod enc P w 0 (fun _ => true) true t v d p → wOk P t d → ∃ a : α, IRel (memOf w) (e a) v ∧ sz a ≤ bulk d ∧ ok a
theorem opensV_agg {fs : List (TypeId × Nat × Nat)} {e : α → List V} {sz : α → Nat} {ok : α → Prop} (ht : fieldsOf P t = some fs) (h : Opens P t e sz ok) : OpensV P t (fun a => .agg (e a)) sz ok := by
 intro H enc w base v d p hv ⟨n, hd⟩ hw
 unfold fieldsOf at ht
 split at ht
 case h_2 => simp at ht
 rename_i gs hu
 obtain ⟨cs, rfl, _⟩ := okWide_struct hu hv
 obtain ⟨a, h1, h2, h3⟩ := h enc w n _ _ hd hw
 exact ⟨a, .agg (by simpa [Value.cells] using h1.1) (fun i c v' hc hv' => h1.2 i c v' hc (by simpa [Value.cells] using hv')), h2, h3⟩
def cellKind (P : Program) (t : TypeId) : Bool :=
 match P.underlying t with
 | some (.int _) | some .bool | some .string | some (.slice _) => true
 | _ => false
theorem opensV_cell {e : α → V} {sz : α → Nat} {ok : α → Prop} (ht : cellKind P t = true) (h : Opens P t (fun a => [e a]) sz ok) : OpensV P t e sz ok := by
 intro H enc w base v d p hv ⟨n, hd⟩ hw
 obtain ⟨a, h1, h2, h3⟩ := h enc w n _ _ hd hw
 have hna : ∀ cs, v ≠ .agg cs := by
  rintro cs rfl
  unfold cellKind at ht
  unfold Value.okWide at hv
  split at ht <;> rename_i hu <;> first | exact absurd ht (by decide) | (simp only [hu, Cell.okWide, Cell.ok] at hv)
 have hc : v.cells.toList = [v] := by cases v <;> first | rfl | exact absurd rfl (hna _)
 rw [hc] at h1
 exact ⟨a, h1.2 0 _ _ rfl rfl, h2, h3⟩
theorem sameAt_of {w w' : World} (h : ∀ b, b < w.heap.size → w'.heap[b]? = w.heap[b]?) {p : MemPlace} (hp : p.block < w.heap.size) : w.sameAt w' p := by
 cases p with
 | cell b o => simp only [World.sameAt, World.cell?]; rw [h b hp]
 | map b => exact h b hp
theorem trodAll_stays {H : Type} {enc : TypeId × Value → H} (hl : laidOutB P = true) {w w' : World} {sp : Nat → Bool} (hh : ∀ b, b < w.heap.size → w'.heap[b]? = w.heap[b]?)
  (hs : ∀ b, b < w.heap.size → sp b = true) : ∀ {ts : List TypeId} {vs : List Value} {ds : List (DataW H)} {ps : List MemPlace},
  (ts.all fun t => P.readableRec t && decide (t < P.types.size)) = true → DataW.TrodAll enc P w 0 (fun _ => true) true ts vs ds ps → (∀ p ∈ ps, p.block < w.heap.size) → DataW.TrodAll enc P w' 0 sp true ts vs ds ps
 | [], [], [], _, _, h, _ => h
 | t :: ts, v :: vs, d :: ds, _, hr, ⟨p, q, h1, h2, e⟩, hlt => by
  subst e
  simp only [List.all_cons, Bool.and_eq_true, decide_eq_true_eq] at hr
  exact ⟨p, q, WideElems.Trod_stays hl hr.1.1 hr.1.2 h1 (fun x hx => sameAt_of hh (hlt x (List.mem_append_left _ hx))) (fun x hx => hs _ (hlt x (List.mem_append_left _ hx))),
   trodAll_stays hl hh hs (by simpa using hr.2) h2 (fun x hx => hlt x (List.mem_append_right _ hx)), rfl⟩
theorem kept_of {w w' : World} (hs : Same w w') (hh : ∀ b, b < w.heap.size → w'.heap[b]? = w.heap[b]?) (may : MemPlace → Prop) : w.keptBut w' may := by
 refine ⟨hs.os, hs.output, fun i hi => ?_⟩
 rw [hh i hi]
 split <;> first | exact ⟨rfl, rfl, rfl, fun _ _ => rfl⟩ | exact .inr ⟨rfl, rfl⟩ | rfl | skip
 all_goals simp_all
theorem law_post {H : Type} {enc : TypeId × Value → H} {f : Func} {s : ChangeSpec} {apart fresh handsOn : Bool} {w w' : World} {args : Array Value} {v : Value} {ds gs : List (DataW H)} {before : List MemPlace} {m m' : Mem} {tb : TypeId}
  (hl : laidOutB P = true) (hts : (f.params.toList.all fun t => P.readableRec t && decide (t < P.types.size)) = true) (hv : s.vars = []) (hfn : ∀ gs', gs' = [] → s.fn H (ds ++ gs') = { results := [.lit (.bool true)], args := ds })
  (hres : f.resultTypes = #[tb]) (hb : P.underlying tb = some .bool) (hW : DataW.Whole enc P f.params.toList s.vars apart w args.toList ds gs before) (h : IRel m' (bV true) v) (hg : Grew m m' w w') :
  s.post enc P f apart fresh handsOn false w args v w' := by
 have hW0 := hW
 obtain ⟨p, q, hA, hV, rfl, hfz, hnd⟩ := hW0
 cases h
 rw [hv] at hV
 cases gs with
 | cons _ _ => simp [DataW.TrodVars] at hV
 | nil =>
 have hq : q = [] := hV
 subst hq
 refine ⟨ds, [], p ++ [], [], p, [], hW, ?_, ?_, ?_, kept_of hg.same hg.heap _, fun h => by simp at h⟩
 ·rw [hfn _ rfl, hres]
  exact trodAll_cons_mk (RowKit.shut_bool hb _) trodAll_mk0
 ·rw [hfn _ rfl]
  exact trodAll_stays hl hg.heap (fun b hb => by simpa using hb) hts hA (DataW.TrodAll.lt hA)
 ·rw [hv, hfn _ rfl]
  rfl
theorem args_nil {H : Type} {enc : TypeId × Value → H} {w : World} {args : Array Value} {f : Func} {s : ChangeSpec} {apart : Bool} {ds gs : List (DataW H)} {before : List MemPlace}
  (hW : DataW.Whole enc P f.params.toList s.vars apart w args.toList ds gs before) : ∃ p, DataW.TrodAll enc P w 0 (fun _ => true) true f.params.toList args.toList ds p := by
 obtain ⟨p, q, hA, _⟩ := hW
 exact ⟨p, hA⟩
end
def factsA (P : Program) (f : FuncId) (fn : Func) (s : ChangeSpec) (c : OpenClaim) : Bool :=
 c.wf (OpenSpec.ofChange s) && laidOutB P && mapsRowed P &&
 fn.params.all (P.readableRec ·) && namedTie P c.named s.vars &&
 (c.stops == []) && (P.stops == []) && (c.knobs == []) && (P.stopKnobs == []) &&
 (c.inPlace == P.inPlace f) && (c.unfollowed == P.unfollowed f) && (c.recurses == P.recurses f) && (c.named == P.varsNamed f) &&
 (c.maps == (fn.params.toList ++ s.plain.varTypes P).any (P.mapsRec ·)) && (c.ifaces == (fn.params.toList ++ s.plain.varTypes P).any (P.ifacesRec ·)) && (c.mapsOut == P.mapsAmong fn.resultTypes.toList) &&
 (c.loops == (fn.params.toList ++ s.plain.varTypes P).any (P.loopsFrom ·)) && (c.wideKeys == (fn.params.toList ++ s.plain.varTypes P ++ fn.resultTypes.toList).any (P.wideKeysFrom ·)) &&
 s.vars.all (P.varReadable ·) && fn.resultTypes.all (fun t => P.readableRec t && decide (t < P.types.size)) && (c.ifacesOut == fn.resultTypes.toList.any (P.ifacesRec ·)) && (c.loopsOut == fn.resultTypes.toList.any (P.loopsFrom ·)) && (c.plainKeys == P.plainKeys) && c.shortTexts.isNone && P.stopsHeard
def factsB (P : Program) (c : OpenClaim) : Bool := P.mayEnter && (c.lifted == P.liftsFinal) && (P.make == some c.make)
def factsC (P : Program) (fn : Func) (s : ChangeSpec) (c : OpenClaim) : Bool :=
 (c.kinds == (if c.domain.isEmpty then [] else fn.params.toList.map fun t => match P.underlying t with | some (.int k) => some k | _ => none)) && (c.pinned == c.pinnedBy) &&
 (c.veiled == (fn.params.toList ++ s.plain.varTypes P ++ fn.resultTypes.toList).any (P.veiledRec ·)) && c.veiledFits P fn.params.toList (fn.params.toList ++ s.plain.varTypes P ++ fn.resultTypes.toList)
theorem facts_join {P : Program} {f : FuncId} {fn : Func} {s : ChangeSpec} {c : OpenClaim} (h1 : factsA P f fn s c = true) (h2 : factsB P c = true) (h3 : factsC P fn s c = true) : joinedFacts P f fn s c = true := by
 unfold factsA at h1
 unfold factsB at h2
 unfold factsC at h3
 have e : ∀ a b c d b1 b2 b3 c1 c2 c3 : Bool, a = true → (b1 && b2 && b3) = true → (b && c && d && c1) = true → (a && b1 && b2 && b3 && b && c && d && c1) = true := by
  intro a b c d b1 b2 b3 c1 c2 c3 h h' h''
  simp only [Bool.and_eq_true] at *
  simp_all
 exact e _ _ _ _ _ _ _ _ true true h1 h2 h3
end Go.Pv
namespace Go.Proofs.Ytpbkggamiipdmaa
open Go Go.Pv
set_option linter.unusedVariables false
set_option maxRecDepth 100000
theorem opens_9 : Opens Try.prog 9 (fun x => [sV x]) (fun x : (List UInt8) => (x.length + 1)) (fun x : (List UInt8) => (x.length ≤ maxLen)) := opens_string (show Try.prog.underlying 9 = some (.string) by kernel_rfl)
theorem opens_25 : Opens Try.prog 25 (fun l => [V.lst 1 (l.map encS)]) (fun x : (List (List UInt8)) => ((x.map (fun x : (List UInt8) => (x.length + 1))).sum + 1)) (fun x : (List (List UInt8)) => ((∀ a, a ∈ x → (fun x : (List UInt8) => (x.length ≤ maxLen)) a) ∧ x.length ≤ maxLen)) := opens_slice (show Try.prog.underlying 25 = some (.slice 9) by kernel_rfl) (by kernel_rfl) (by decide) opens_9
def szTIface (x : TIface) : Nat := (x.Name.length + 1) + (((x.Methods.map (fun x : (List UInt8) => (x.length + 1))).sum + 1) + 0) + 1
def okTIface (x : TIface) : Prop := (x.Name.length ≤ maxLen) ∧ (((∀ a, a ∈ x.Methods → (fun x : (List UInt8) => (x.length ≤ maxLen)) a) ∧ x.Methods.length ≤ maxLen) ∧ True)
theorem opens_101 : Opens Try.prog 101 encTIface szTIface okTIface := opens_map (opens_struct (fs := [(9, 0, 1), (25, 1, 1)]) (by kernel_rfl) (by kernel_rfl) (fopens_cons opens_9 (fopens_cons opens_25 fopens_nil))) (fun p => TIface.mk p.1 p.2.1) (fun _ => rfl) (fun _ => rfl) (fun _ h => h)
theorem opens_22 : Opens Try.prog 22 (fun l => [V.lst 2 (l.map encTIface)]) (fun x : (List TIface) => ((x.map (fun x : TIface => (szTIface x))).sum + 1)) (fun x : (List TIface) => ((∀ a, a ∈ x → (fun x : TIface => (okTIface x)) a) ∧ x.length ≤ maxLen)) := opens_slice (show Try.prog.underlying 22 = some (.slice 101) by kernel_rfl) (by kernel_rfl) (by decide) opens_101
def szTMethod (x : TMethod) : Nat := (x.Name.length + 1) + ((x.Func.length + 1) + 0) + 1
def okTMethod (x : TMethod) : Prop := (x.Name.length ≤ maxLen) ∧ ((x.Func.length ≤ maxLen) ∧ True)
theorem opens_198 : Opens Try.prog 198 encTMethod szTMethod okTMethod := opens_map (opens_struct (fs := [(9, 0, 1), (9, 1, 1)]) (by kernel_rfl) (by kernel_rfl) (fopens_cons opens_9 (fopens_cons opens_9 fopens_nil))) (fun p => TMethod.mk p.1 p.2.1) (fun _ => rfl) (fun _ => rfl) (fun _ h => h)
theorem opens_92 : Opens Try.prog 92 (fun l => [V.lst 2 (l.map encTMethod)]) (fun x : (List TMethod) => ((x.map (fun x : TMethod => (szTMethod x))).sum + 1)) (fun x : (List TMethod) => ((∀ a, a ∈ x → (fun x : TMethod => (okTMethod x)) a) ∧ x.length ≤ maxLen)) := opens_slice (show Try.prog.underlying 92 = some (.slice 198) by kernel_rfl) (by kernel_rfl) (by decide) opens_198
def szTType (x : TType) : Nat := (x.Name.length + 1) + (((x.Methods.map (fun x : TMethod => (szTMethod x))).sum + 1) + 0) + 1
def okTType (x : TType) : Prop := (x.Name.length ≤ maxLen) ∧ (((∀ a, a ∈ x.Methods → (fun x : TMethod => (okTMethod x)) a) ∧ x.Methods.length ≤ maxLen) ∧ True)
theorem opens_94 : Opens Try.prog 94 encTType szTType okTType := opens_map (opens_struct (fs := [(9, 0, 1), (92, 1, 1)]) (by kernel_rfl) (by kernel_rfl) (fopens_cons opens_9 (fopens_cons opens_92 fopens_nil))) (fun p => TType.mk p.1 p.2.1) (fun _ => rfl) (fun _ => rfl) (fun _ h => h)
theorem opens_23 : Opens Try.prog 23 (fun l => [V.lst 2 (l.map encTType)]) (fun x : (List TType) => ((x.map (fun x : TType => (szTType x))).sum + 1)) (fun x : (List TType) => ((∀ a, a ∈ x → (fun x : TType => (okTType x)) a) ∧ x.length ≤ maxLen)) := opens_slice (show Try.prog.underlying 23 = some (.slice 94) by kernel_rfl) (by kernel_rfl) (by decide) opens_94
theorem opens_3 : Opens Try.prog 3 (fun x => [V.con (.int .i64 x)]) (fun x : Int => 1) (fun x : Int => ((IntKind.i64).min ≤ x ∧ x ≤ (IntKind.i64).max)) := opens_int (show Try.prog.underlying 3 = some (.int .i64) by kernel_rfl)
def szTCall (x : TCall) : Nat := 1 + ((x.Target.length + 1) + ((x.Method.length + 1) + ((x.Feature.length + 1) + 0))) + 1
def okTCall (x : TCall) : Prop := ((IntKind.i64).min ≤ x.Kind ∧ x.Kind ≤ (IntKind.i64).max) ∧ ((x.Target.length ≤ maxLen) ∧ ((x.Method.length ≤ maxLen) ∧ ((x.Feature.length ≤ maxLen) ∧ True)))
theorem opens_82 : Opens Try.prog 82 encTCall szTCall okTCall := opens_map (opens_struct (fs := [(3, 0, 1), (9, 1, 1), (9, 2, 1), (9, 3, 1)]) (by kernel_rfl) (by kernel_rfl) (fopens_cons opens_3 (fopens_cons opens_9 (fopens_cons opens_9 (fopens_cons opens_9 fopens_nil))))) (fun p => TCall.mk p.1 p.2.1 p.2.2.1 p.2.2.2.1) (fun _ => rfl) (fun _ => rfl) (fun _ h => h)
theorem opens_67 : Opens Try.prog 67 (fun l => [V.lst 4 (l.map encTCall)]) (fun x : (List TCall) => ((x.map (fun x : TCall => (szTCall x))).sum + 1)) (fun x : (List TCall) => ((∀ a, a ∈ x → (fun x : TCall => (okTCall x)) a) ∧ x.length ≤ maxLen)) := opens_slice (show Try.prog.underlying 67 = some (.slice 82) by kernel_rfl) (by kernel_rfl) (by decide) opens_82
def szTFunc (x : TFunc) : Nat := (x.Name.length + 1) + ((x.Component.length + 1) + (((x.Calls.map (fun x : TCall => (szTCall x))).sum + 1) + (((x.Makes.map (fun x : (List UInt8) => (x.length + 1))).sum + 1) + 0))) + 1
def okTFunc (x : TFunc) : Prop := (x.Name.length ≤ maxLen) ∧ ((x.Component.length ≤ maxLen) ∧ (((∀ a, a ∈ x.Calls → (fun x : TCall => (okTCall x)) a) ∧ x.Calls.length ≤ maxLen) ∧ (((∀ a, a ∈ x.Makes → (fun x : (List UInt8) => (x.length ≤ maxLen)) a) ∧ x.Makes.length ≤ maxLen) ∧ True)))
theorem opens_69 : Opens Try.prog 69 encTFunc szTFunc okTFunc := opens_map (opens_struct (fs := [(9, 0, 1), (9, 1, 1), (67, 2, 1), (25, 3, 1)]) (by kernel_rfl) (by kernel_rfl) (fopens_cons opens_9 (fopens_cons opens_9 (fopens_cons opens_67 (fopens_cons opens_25 fopens_nil))))) (fun p => TFunc.mk p.1 p.2.1 p.2.2.1 p.2.2.2.1) (fun _ => rfl) (fun _ => rfl) (fun _ h => h)
theorem opens_24 : Opens Try.prog 24 (fun l => [V.lst 4 (l.map encTFunc)]) (fun x : (List TFunc) => ((x.map (fun x : TFunc => (szTFunc x))).sum + 1)) (fun x : (List TFunc) => ((∀ a, a ∈ x → (fun x : TFunc => (okTFunc x)) a) ∧ x.length ≤ maxLen)) := opens_slice (show Try.prog.underlying 24 = some (.slice 69) by kernel_rfl) (by kernel_rfl) (by decide) opens_69
def szTGraph (x : TGraph) : Nat := ((x.Ifaces.map (fun x : TIface => (szTIface x))).sum + 1) + (((x.Types.map (fun x : TType => (szTType x))).sum + 1) + (((x.Funcs.map (fun x : TFunc => (szTFunc x))).sum + 1) + (((x.Entries.map (fun x : (List UInt8) => (x.length + 1))).sum + 1) + 0))) + 1
def okTGraph (x : TGraph) : Prop := ((∀ a, a ∈ x.Ifaces → (fun x : TIface => (okTIface x)) a) ∧ x.Ifaces.length ≤ maxLen) ∧ (((∀ a, a ∈ x.Types → (fun x : TType => (okTType x)) a) ∧ x.Types.length ≤ maxLen) ∧ (((∀ a, a ∈ x.Funcs → (fun x : TFunc => (okTFunc x)) a) ∧ x.Funcs.length ≤ maxLen) ∧ (((∀ a, a ∈ x.Entries → (fun x : (List UInt8) => (x.length ≤ maxLen)) a) ∧ x.Entries.length ≤ maxLen) ∧ True)))
theorem opens_27 : Opens Try.prog 27 encTGraph szTGraph okTGraph := opens_map (opens_struct (fs := [(22, 0, 1), (23, 1, 1), (24, 2, 1), (25, 3, 1)]) (by kernel_rfl) (by kernel_rfl) (fopens_cons opens_22 (fopens_cons opens_23 (fopens_cons opens_24 (fopens_cons opens_25 fopens_nil))))) (fun p => TGraph.mk p.1 p.2.1 p.2.2.1 p.2.2.2.1) (fun _ => rfl) (fun _ => rfl) (fun _ h => h)
theorem opensV_27 : OpensV Try.prog 27 (fun x => V.agg (encTGraph x)) szTGraph okTGraph := opensV_agg (fs := [(22, 0, 1), (23, 1, 1), (24, 2, 1), (25, 3, 1)]) (by kernel_rfl) opens_27
theorem opensV_25 : OpensV Try.prog 25 (fun l => V.lst 1 (l.map encS)) (fun x : (List (List UInt8)) => ((x.map (fun x : (List UInt8) => (x.length + 1))).sum + 1)) (fun x : (List (List UInt8)) => ((∀ a, a ∈ x → (fun x : (List UInt8) => (x.length ≤ maxLen)) a) ∧ x.length ≤ maxLen)) := opensV_cell (by kernel_rfl) opens_25
theorem opensV_3 : OpensV Try.prog 3 (fun x => V.con (.int .i64 x)) (fun x : Int => 1) (fun x : Int => ((IntKind.i64).min ≤ x ∧ x ≤ (IntKind.i64).max)) := opensV_cell (by kernel_rfl) opens_3
theorem opensV_9 : OpensV Try.prog 9 (fun x => sV x) (fun x : (List UInt8) => (x.length + 1)) (fun x : (List UInt8) => (x.length ≤ maxLen)) := opensV_cell (by kernel_rfl) opens_9
def szTSite (x : TSite) : Nat := (x.Func.length + 1) + (1 + 0) + 1
def okTSite (x : TSite) : Prop := (x.Func.length ≤ maxLen) ∧ (((IntKind.i64).min ≤ x.Call ∧ x.Call ≤ (IntKind.i64).max) ∧ True)
theorem opens_43 : Opens Try.prog 43 encTSite szTSite okTSite := opens_map (opens_struct (fs := [(9, 0, 1), (3, 1, 1)]) (by kernel_rfl) (by kernel_rfl) (fopens_cons opens_9 (fopens_cons opens_3 fopens_nil))) (fun p => TSite.mk p.1 p.2.1) (fun _ => rfl) (fun _ => rfl) (fun _ h => h)
def szTHop (x : THop) : Nat := (szTSite x.Site) + ((x.To.length + 1) + 0) + 1
def okTHop (x : THop) : Prop := (okTSite x.Site) ∧ ((x.To.length ≤ maxLen) ∧ True)
theorem opens_121 : Opens Try.prog 121 encTHop szTHop okTHop := opens_map (opens_struct (fs := [(43, 0, 2), (9, 2, 1)]) (by kernel_rfl) (by kernel_rfl) (fopens_cons opens_43 (fopens_cons opens_9 fopens_nil))) (fun p => THop.mk p.1 p.2.1) (fun _ => rfl) (fun _ => rfl) (fun _ h => h)
theorem opens_48 : Opens Try.prog 48 (fun l => [V.lst 3 (l.map encTHop)]) (fun x : (List THop) => ((x.map (fun x : THop => (szTHop x))).sum + 1)) (fun x : (List THop) => ((∀ a, a ∈ x → (fun x : THop => (okTHop x)) a) ∧ x.length ≤ maxLen)) := opens_slice (show Try.prog.underlying 48 = some (.slice 121) by kernel_rfl) (by kernel_rfl) (by decide) opens_121
def szTMadeBy (x : TMadeBy) : Nat := (x.Type_.length + 1) + ((x.Func.length + 1) + 0) + 1
def okTMadeBy (x : TMadeBy) : Prop := (x.Type_.length ≤ maxLen) ∧ ((x.Func.length ≤ maxLen) ∧ True)
theorem opens_126 : Opens Try.prog 126 encTMadeBy szTMadeBy okTMadeBy := opens_map (opens_struct (fs := [(9, 0, 1), (9, 1, 1)]) (by kernel_rfl) (by kernel_rfl) (fopens_cons opens_9 (fopens_cons opens_9 fopens_nil))) (fun p => TMadeBy.mk p.1 p.2.1) (fun _ => rfl) (fun _ => rfl) (fun _ h => h)
theorem opens_49 : Opens Try.prog 49 (fun l => [V.lst 2 (l.map encTMadeBy)]) (fun x : (List TMadeBy) => ((x.map (fun x : TMadeBy => (szTMadeBy x))).sum + 1)) (fun x : (List TMadeBy) => ((∀ a, a ∈ x → (fun x : TMadeBy => (okTMadeBy x)) a) ∧ x.length ≤ maxLen)) := opens_slice (show Try.prog.underlying 49 = some (.slice 126) by kernel_rfl) (by kernel_rfl) (by decide) opens_126
def szTWitness (x : TWitness) : Nat := (x.Entry.length + 1) + (((x.Hops.map (fun x : THop => (szTHop x))).sum + 1) + (((x.Made.map (fun x : TMadeBy => (szTMadeBy x))).sum + 1) + 0)) + 1
def okTWitness (x : TWitness) : Prop := (x.Entry.length ≤ maxLen) ∧ (((∀ a, a ∈ x.Hops → (fun x : THop => (okTHop x)) a) ∧ x.Hops.length ≤ maxLen) ∧ (((∀ a, a ∈ x.Made → (fun x : TMadeBy => (okTMadeBy x)) a) ∧ x.Made.length ≤ maxLen) ∧ True))
theorem opens_51 : Opens Try.prog 51 encTWitness szTWitness okTWitness := opens_map (opens_struct (fs := [(9, 0, 1), (48, 1, 1), (49, 2, 1)]) (by kernel_rfl) (by kernel_rfl) (fopens_cons opens_9 (fopens_cons opens_48 (fopens_cons opens_49 fopens_nil)))) (fun p => TWitness.mk p.1 p.2.1 p.2.2.1) (fun _ => rfl) (fun _ => rfl) (fun _ h => h)
theorem opensV_51 : OpensV Try.prog 51 (fun x => V.agg (encTWitness x)) szTWitness okTWitness := opensV_agg (fs := [(9, 0, 1), (48, 1, 1), (49, 2, 1)]) (by kernel_rfl) opens_51
set_option linter.unusedSimpArgs false
abbrev Tx := List UInt8
def vis (c : UInt8) : Bool := decide (33 ≤ c.toNat) && decide (c.toNat ≤ 126) && !decide (c.toNat = 35)
def nm (s : Tx) : Bool := s.all vis && decide (1 ≤ s.length) && decide (s.length ≤ 100)
def le (a b : Tx) : Bool := Op.bytesLess a b || a == b
theorem le_nil {s : Tx} (h : nm s = true) : le s [] = false := by
 cases s with
 | nil => simp [nm] at h
 | cons c s => simp [le, Op.bytesLess]
theorem le_iff {a b : Tx} : le a b = false ↔ Op.bytesLess b a = true := by
 unfold le
 rcases bl_tri a b with h | h | h
 ·simp [h, bl_asymm h]
 ·subst h; simp [bl_irrefl]
 ·simp [h, bl_asymm h, (bl_ne h).symm]
theorem M120_eq (F : Nat) (s : Tx) (h : s.length ≤ maxLen) : M120 F s = some (nm s) := by
 have h' : (s.length : Int) ≤ 9223372036854775807 := by have : s.length ≤ 9223372036854775807 := h; omega
 unfold M120
 rw [jn_def, if_pos h', Int.toNat_natCast]
 generalize hk : (if (!(s == [])) = true then some (decide ((s.length : Int) ≤ 100)) else some false) = k
 have := bytesL (g := M120_L1 F s k) (k := k) (f := false) s vis (fun _ => rfl) (fun m n => by
  rw [M120_L1]
  cases hi : idx s n with
  | none => rfl
  | some c =>
   simp only [Option.bind_some]
   by_cases h1 : c.toNat < 33
   ·rw [if_t (by omega)]; simp [vis]; omega
   ·rw [if_f (by omega)]
    by_cases h2 : c.toNat > 126
    ·rw [if_t (by omega)]; simp [vis]; omega
    ·rw [if_f (by omega)]
     by_cases h3 : c.toNat = 35
     ·rw [if_pos (by simp [h3])]; simp [vis, h3]
     ·rw [if_neg (by simp; omega), if_pos]; simp [vis]; omega) s.length 0 (by omega)
 rw [show ((0 : Nat) : Int) = 0 from rfl] at this
 rw [this, List.drop_zero, ← hk]
 unfold nm
 cases s.all vis
 ·simp
 ·cases s with
  | nil => simp
  | cons c s => simp only [if_true, Bool.true_and]; rw [if_pos (by simp)]; congr 1; rw [Bool.eq_iff_iff]; simp only [decide_eq_true_eq, Bool.and_eq_true, List.length_cons]; omega
theorem M91_eq (F : Nat) (s : Tx) (h : s.length ≤ maxLen) : M91 F s = some (nm s) := by
 have h' : (s.length : Int) ≤ 9223372036854775807 := by have : s.length ≤ 9223372036854775807 := h; omega
 unfold M91
 rw [jn_def, if_pos h', Int.toNat_natCast]
 generalize hk : (if decide ((s.length : Int) ≥ 1) = true then some (decide ((s.length : Int) ≤ 100)) else some false) = k
 have := bytesL (g := M91_L1 F s k) (k := k) (f := false) s vis (fun _ => rfl) (fun m n => by
  rw [M91_L1]
  cases hi : idx s n with
  | none => rfl
  | some c =>
   simp only [Option.bind_some]
   by_cases h1 : c.toNat < 33
   ·rw [if_t (by omega)]; simp [vis]; omega
   ·rw [if_f (by omega)]
    by_cases h2 : c.toNat > 126
    ·rw [if_t (by omega)]; simp [vis]; omega
    ·rw [if_f (by omega)]
     by_cases h3 : c.toNat = 35
     ·rw [if_pos (by simp [h3])]; simp [vis, h3]
     ·rw [if_neg (by simp; omega), if_pos]; simp [vis]; omega) s.length 0 (by omega)
 rw [show ((0 : Nat) : Int) = 0 from rfl] at this
 rw [this, List.drop_zero, ← hk]
 unfold nm
 cases s.all vis
 ·simp
 ·simp only [if_true, Bool.true_and]
  by_cases h1 : 1 ≤ s.length
  ·rw [if_t (by omega)]; congr 1; rw [Bool.eq_iff_iff]; simp only [decide_eq_true_eq, Bool.and_eq_true]; omega
  ·rw [if_f (by omega)]; congr 1; symm; rw [Bool.eq_false_iff]; simp only [decide_eq_true_eq, Bool.and_eq_true, ne_eq]; omega
def nmd (s before : Tx) (first : Bool) : Int := if !nm s then 8 else if !first then (if le s before then 10 else 0) else 0
theorem M93_eq (F : Nat) (s b : Tx) (f : Bool) (h : s.length ≤ maxLen) : M93 F s b f = some (nmd s b f) := by
 unfold M93 nmd
 rw [M120_eq F s h, Option.bind_some, jn_def]
 cases nm s
 ·simp
 ·cases f
  ·simp [le]; split <;> rfl
  ·simp
def nme (s : Tx) (p : Option Tx) : Int := if !nm s then 8 else match p with | some b => if le s b then 10 else 0 | none => 0
theorem nmd_first (s b : Tx) : nmd s b true = nme s none := by unfold nmd nme; cases nm s <;> rfl
theorem nmd_next (s b : Tx) : nmd s b false = nme s (some b) := by unfold nmd nme; cases nm s <;> rfl
theorem nme_zero {s : Tx} {p : Option Tx} (h : nme s p = 0) : nm s = true ∧ ∀ b, p = some b → Op.bytesLess b s = true := by
 unfold nme at h
 cases hn : nm s
 ·simp [hn] at h
 ·refine ⟨rfl, fun b hb => ?_⟩
  subst hb
  simp only [hn, Bool.not_true, Bool.false_eq_true, if_false] at h
  split at h
  ·simp at h
  ·rename_i hl; exact le_iff.1 (by simpa using hl)
end Go.Proofs.Ytpbkggamiipdmaa
