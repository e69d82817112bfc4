/- Part of the proof: XR, E3Ord, K, E3O, QA, QB. -/
import Derived.Test.YtcbkgdagiccfmaaEPvX
import Derived.Test.YtcbkgdagiccfmaaELP
import Derived.Test.YtcbkgdagiccfmaaEPvU
import Derived.WideKeyArgs
import Derived.Deep.Slices
import Derived.ProofKit
import Derived.OpenShut
import Derived.JoinedCond
import Derived.Test.YtcbkgdagiccfmaaEE3T
import Derived.KernelRfl
namespace Go.Pv
open Go
set_option linter.unusedVariables false
set_option linter.unusedSimpArgs false
theorem leT_refl (a : List UInt8) : leT a a = true := by simp [leT, bl_irrefl]
theorem leT_total (a b : List UInt8) : (leT a b || leT b a) = true := by
 unfold leT
 rcases bl_tri a b with h | h | h
 ·simp [bl_asymm h]
 ·subst h; simp [bl_irrefl]
 ·simp [bl_asymm h]
theorem leT_anti {a b : List UInt8} (h : leT a b = true) (h' : leT b a = true) : a = b := by
 unfold leT at h h'
 rcases bl_tri a b with g | g | g
 ·simp [g] at h'
 ·exact g
 ·simp [g] at h
theorem leT_trans (a b c : List UInt8) (h : leT a b = true) (h' : leT b c = true) : leT a c = true := by
 unfold leT at *
 rcases bl_tri a b with g | g | g
 ·rcases bl_tri b c with k | k | k
  ·simp [bl_asymm (bl_trans g k)]
  ·subst k; simp [bl_asymm g]
  ·simp [k] at h'
 ·subst g; exact h'
 ·simp [g] at h
theorem lt_of_leT {a b : List UInt8} (h : leT a b = true) (hne : a ≠ b) : Op.bytesLess a b = true := by
 rcases bl_tri a b with g | g | g
 ·exact g
 ·exact absurd g hne
 ·simp [leT, g] at h
abbrev leK {α : Type} (a b : List UInt8 × α) : Bool := leT a.1 b.1
def atK {α : Type} (l : List (List UInt8 × α)) (k : List UInt8) : List (List UInt8 × α) := l.filter fun p => decide (p.1 = k)
theorem atK_canon {α : Type} (l : List (List UInt8 × α)) (k : List UInt8) : atK (canonM l) k = atK l k := by
 have hs : (atK l k).Sublist (canonM l) := List.sublist_mergeSort (le := leK) (fun a b c => leT_trans a.1 b.1 c.1) (fun a b => leT_total a.1 b.1) (by
  refine List.Pairwise.imp_of_mem (R := fun _ _ => True) ?_ (List.pairwise_of_forall (by simp))
  intro a b ha hb _
  have h1 := (List.mem_filter.1 ha).2
  have h2 := (List.mem_filter.1 hb).2
  simp only [decide_eq_true_eq] at h1 h2
  show leT a.1 b.1 = true
  rw [h1, h2]; exact leT_refl _) List.filter_sublist
 have h2 := hs.filter fun p => decide (p.1 = k)
 have e : (atK l k).filter (fun p => decide (p.1 = k)) = atK l k := by unfold atK; rw [List.filter_filter]; simp
 rw [e] at h2
 exact (h2.eq_of_length (by
  have := ((canonM_perm l).filter fun p => decide (p.1 = k)).length_eq
  exact this.symm)).symm
theorem sorted_ext {α : Type} : ∀ (l1 l2 : List (List UInt8 × α)), l1.Pairwise (fun a b => leT a.1 b.1 = true) → l2.Pairwise (fun a b => leT a.1 b.1 = true) → (∀ k, atK l1 k = atK l2 k) → l1 = l2
 | [], l2, _, _, h => by
  cases l2 with
  | nil => rfl
  | cons y l2 => have := h y.1; simp [atK] at this
 | x :: l1, l2, h1, h2, h => by
  cases l2 with
  | nil => have := h x.1; simp [atK] at this
  | cons y l2 =>
   have hx : x ∈ y :: l2 := by
    have : x ∈ atK (x :: l1) x.1 := by simp [atK]
    rw [h] at this
    exact (List.mem_filter.1 this).1
   have hy : y ∈ x :: l1 := by
    have : y ∈ atK (y :: l2) y.1 := by simp [atK]
    rw [← h] at this
    exact (List.mem_filter.1 this).1
   have a1 : leT y.1 x.1 = true := by
    rcases List.mem_cons.1 hx with e | e
    ·rw [e]; exact leT_refl _
    ·exact (List.pairwise_cons.1 h2).1 x e
   have a2 : leT x.1 y.1 = true := by
    rcases List.mem_cons.1 hy with e | e
    ·rw [e]; exact leT_refl _
    ·exact (List.pairwise_cons.1 h1).1 y e
   have hk : x.1 = y.1 := leT_anti a2 a1
   have h0 := h x.1
   simp only [atK, List.filter_cons, hk, decide_true, if_true] at h0
   obtain ⟨e1, e2⟩ := List.cons.inj h0
   subst e1
   rw [sorted_ext l1 l2 (List.pairwise_cons.1 h1).2 (List.pairwise_cons.1 h2).2 (fun k => by
    by_cases hkk : x.1 = k
    ·subst hkk; exact e2
    ·have := h k
     simpa [atK, List.filter_cons, hkk] using this)]
theorem canonM_sorted {α : Type} (l : List (List UInt8 × α)) : (canonM l).Pairwise (fun a b => leT a.1 b.1 = true) :=
 List.pairwise_mergeSort (le := leK) (fun a b c => leT_trans a.1 b.1 c.1) (fun a b => leT_total a.1 b.1) l
theorem canon_ext {α : Type} {l1 l2 : List (List UInt8 × α)} (h : ∀ k, atK l1 k = atK l2 k) : canonM l1 = canonM l2 :=
 sorted_ext _ _ (canonM_sorted _) (canonM_sorted _) (fun k => by rw [atK_canon, atK_canon]; exact h k)
theorem atK_mput {α : Type} (x k : List UInt8) (v : α) : ∀ m : List (List UInt8 × α), atK (mput m x v) k = if x = k then mput (atK m k) x v else atK m k
 | [] => by
  by_cases h : x = k
  ·subst h; simp [atK, mput]
  ·simp [atK, mput, h]
 | p :: m => by
  have ih := atK_mput x k v m
  simp only [mput]
  by_cases hp : p.1 = x
  ·rw [if_pos hp]
   by_cases h : x = k
   ·subst h; simp [atK, hp, mput]
   ·simp [atK, hp, h]
  ·rw [if_neg hp]
   simp only [atK, List.filter_cons] at ih ⊢
   by_cases hk : p.1 = k
   ·have hxk : x ≠ k := fun e => hp (hk.trans e.symm)
    rw [if_neg hxk] at ih ⊢
    simp [hk, ih]
   ·simp only [hk, decide_false, Bool.false_eq_true, if_false]; exact ih
def insC {α : Type} (m : List (List UInt8 × α)) (x : List UInt8) (v : α) : List (List UInt8 × α) := canonM (mput m x v)
theorem insC_comm {α : Type} (m : List (List UInt8 × α)) (x y : List UInt8) (v u : α) (h : x ≠ y ∨ v = u) : insC (insC m x v) y u = insC (insC m y u) x v := by
 refine canon_ext fun k => ?_
 rw [atK_mput, atK_mput]
 unfold insC
 rw [atK_canon, atK_canon, atK_mput, atK_mput]
 by_cases hy : y = k
 ·by_cases hx : x = k
  ·subst hy hx
   rcases h with h | h
   ·exact absurd rfl h
   ·subst h; rfl
  ·rw [if_pos hy, if_neg hx, if_neg hx, if_pos hy]
 ·by_cases hx : x = k
  ·rw [if_neg hy, if_pos hx, if_pos hx, if_neg hy]
  ·rw [if_neg hy, if_neg hx, if_neg hx, if_neg hy]
def insAll (m : List (List UInt8 × Bool)) : List (List UInt8) → List (List UInt8 × Bool)
 | [] => m
 | x :: l => insAll (canonM (mput m x true)) l
theorem insAll_append (m : List (List UInt8 × Bool)) : ∀ l l' : List (List UInt8), insAll m (l ++ l') = insAll (insAll m l) l'
 | [], _ => rfl
 | x :: l, l' => insAll_append _ l l'
theorem insAll_perm {l l' : List (List UInt8)} (h : l.Perm l') : ∀ m, insAll m l = insAll m l' := by
 induction h with
 | nil => exact fun _ => rfl
 | cons _ _ ih => exact fun m => ih _
 | swap x y l => exact fun m => congrArg (fun q => insAll q l) (insC_comm m y x true true (.inr rfl))
 | trans _ _ h1 h2 => exact fun m => (h1 m).trans (h2 m)
structure SetOk (m : List (List UInt8 × Bool)) : Prop where
 srt : (m.map (·.1)).Pairwise (fun a b => Op.bytesLess a b = true)
 all : ∀ p, p ∈ m → p.2 = true
theorem SetOk.nil : SetOk [] := ⟨by simp, by simp⟩
theorem nodup_lt {l : List (List UInt8)} (h : l.Pairwise (fun a b => Op.bytesLess a b = true)) : l.Nodup := h.imp bl_ne
theorem lt_of_sorted {l : List (List UInt8)} (h : l.Pairwise (fun a b => leT a b = true)) (hn : l.Nodup) : l.Pairwise (fun a b => Op.bytesLess a b = true) := by
 induction l with
 | nil => exact .nil
 | cons x l ih =>
  rw [List.pairwise_cons] at h ⊢
  rw [List.nodup_cons] at hn
  exact ⟨fun y hy => lt_of_leT (h.1 y hy) (fun e => hn.1 (by rw [e]; exact hy)), ih h.2 hn.2⟩
theorem mput_keys {α : Type} (x : List UInt8) (v : α) : ∀ m : List (List UInt8 × α), ((mput m x v).map (·.1)) = if x ∈ m.map (·.1) then m.map (·.1) else m.map (·.1) ++ [x]
 | [] => by simp [mput]
 | p :: m => by
  simp only [mput]
  by_cases h : p.1 = x
  ·rw [if_pos h]; simp [h]
  ·rw [if_neg h, List.map_cons, mput_keys x v m]
   by_cases hx : x ∈ m.map (·.1)
   ·rw [if_pos hx, if_pos (by simp at hx ⊢; exact .inr hx)]; rfl
   ·rw [if_neg hx, if_neg (by simp at hx ⊢; exact ⟨fun e => h e.symm, hx⟩)]; rfl
theorem mput_all {α : Type} (x : List UInt8) (v : α) : ∀ (m : List (List UInt8 × α)) (p : List UInt8 × α), p ∈ mput m x v → p = (x, v) ∨ p ∈ m
 | [], p, h => by simp [mput] at h; exact .inl h
 | q :: m, p, h => by
  simp only [mput] at h
  split at h
  ·rcases List.mem_cons.1 h with h | h
   ·exact .inl h
   ·exact .inr (List.mem_cons_of_mem _ h)
  ·rcases List.mem_cons.1 h with h | h
   ·exact .inr (by rw [h]; exact List.mem_cons_self)
   ·rcases mput_all x v m p h with h | h
    ·exact .inl h
    ·exact .inr (List.mem_cons_of_mem _ h)
theorem ins_keys {α : Type} (m : List (List UInt8 × α)) (x : List UInt8) (v : α) (y : List UInt8) : y ∈ (canonM (mput m x v)).map (·.1) ↔ y = x ∨ y ∈ m.map (·.1) := by
 rw [((canonM_perm (mput m x v)).map (·.1)).mem_iff, mput_keys]
 split
 ·rename_i h
  refine ⟨.inr, fun hh => ?_⟩
  rcases hh with e | e
  ·rw [e]; exact h
  ·exact e
 ·rw [List.mem_append]; simp [or_comm]
theorem ins_srt {α : Type} {m : List (List UInt8 × α)} (x : List UInt8) (v : α) (h : (m.map (·.1)).Pairwise (fun a b => Op.bytesLess a b = true)) : ((canonM (mput m x v)).map (·.1)).Pairwise (fun a b => Op.bytesLess a b = true) := by
 refine lt_of_sorted ?_ ?_
 ·rw [List.pairwise_map]; exact canonM_sorted _
 ·refine ((canonM_perm (mput m x v)).map (·.1)).nodup_iff.2 ?_
  rw [mput_keys]
  split
  ·exact nodup_lt h
  ·rename_i hx
   rw [List.nodup_append]
   exact ⟨nodup_lt h, by simp, fun a ha b hb e => hx (by simp at hb; rw [← hb, ← e]; exact ha)⟩
theorem SetOk.ins {m : List (List UInt8 × Bool)} (h : SetOk m) (x : List UInt8) : SetOk (canonM (mput m x true)) := by
 refine ⟨ins_srt x true h.srt, fun p hp => ?_⟩
 rcases mput_all x true m p ((canonM_perm _).mem_iff.1 hp) with e | e
 ·rw [e]
 ·exact h.all p e
theorem SetOk.insAll {m : List (List UInt8 × Bool)} (h : SetOk m) : ∀ l, SetOk (insAll m l)
 | [] => h
 | x :: l => SetOk.insAll (h.ins x) l
theorem insAll_keys (y : List UInt8) : ∀ (l : List (List UInt8)) (m : List (List UInt8 × Bool)), y ∈ (insAll m l).map (·.1) ↔ y ∈ l ∨ y ∈ m.map (·.1)
 | [], m => by simp [insAll]
 | x :: l, m => by rw [insAll, insAll_keys y l, ins_keys, List.mem_cons]; exact ⟨fun h => h.elim (fun h => .inl (.inr h)) (fun h => h.elim (fun h => .inl (.inl h)) .inr), fun h => h.elim (fun h => h.elim (fun h => .inr (.inl h)) .inl) (fun h => .inr (.inr h))⟩
theorem mget_mem {α : Type} : ∀ (m : List (List UInt8 × α)) (x : List UInt8), (mget m x).isSome = true ↔ x ∈ m.map (·.1)
 | [], x => by simp [mget]
 | p :: m, x => by
  simp only [mget, List.map_cons, List.mem_cons]
  by_cases h : p.1 = x
  ·simp [h]
  ·rw [if_neg h, mget_mem m x]
   exact ⟨.inr, fun q => q.elim (fun e => absurd e.symm h) (fun h => h)⟩
theorem mget_in {α : Type} : ∀ (m : List (List UInt8 × α)) (x : List UInt8) (v : α), mget m x = some v → (x, v) ∈ m
 | [], x, v, h => by simp [mget] at h
 | p :: m, x, v, h => by
  simp only [mget] at h
  split at h
  ·rename_i e; simp at h; subst e; subst h; exact List.mem_cons_self
  ·exact List.mem_cons_of_mem _ (mget_in m x v h)
theorem SetOk.get {m : List (List UInt8 × Bool)} (h : SetOk m) (x : List UInt8) : (mget m x).getD false = true ↔ x ∈ m.map (·.1) := by
 rw [← mget_mem]
 cases hg : mget m x with
 | none => simp
 | some v => simp; exact h.all _ (mget_in m x v hg)
end Go.Pv
namespace Go.Proofs.Ytcbkgdagiccfmaa
open Go Go.Pv
set_option linter.unusedVariables false
def cntA (how : Int) (s : Tprovenderref6_sets) (x : Tprovenderref6_aim) : Bool := (how == 1) || (x.typ == ([] : List UInt8)) || (mget s.made x.typ).getD false
def tosL (how : Int) (s : Tprovenderref6_sets) (ls : List Tprovenderref6_link) : List (List UInt8) := ls.flatMap fun l => (l.aims.filter (cntA how s)).map (·.to)
def linksN (n : Tprovenderref6_net) (x : List UInt8) : List Tprovenderref6_link := (mget n.links x).getD []
def funcN (n : Tprovenderref6_net) (x : List UInt8) : TFunc := (mget n.funcs x).getD (TFunc.mk [] [] [] [])
theorem M39_L5_eq (F : Nat) (a2 : Int) (a3 : Tprovenderref6_sets) (k : List ((List UInt8) × Bool) → Option Tprovenderref6_sets) : ∀ (l : List Tprovenderref6_aim) (m : List ((List UInt8) × Bool)), M39_L5 F a2 a3 k l m = k (insAll m ((l.filter (cntA a2 a3)).map (·.to)))
 | [], m => rfl
 | x :: l, m => by
  rw [M39_L5, jn_def]
  simp only [jn_def]
  by_cases h1 : (a2 == 1) = true
  ·rw [if_pos h1, M39_L5_eq F a2 a3 k l, List.filter_cons, if_pos (by simp [cntA, h1])]; rfl
  ·rw [if_neg h1]
   by_cases h2 : (x.typ == ([] : List UInt8)) = true
   ·rw [if_pos h2, M39_L5_eq F a2 a3 k l, List.filter_cons, if_pos (by simp [cntA, h2])]; rfl
   ·rw [if_neg h2]
    by_cases h3 : (mget a3.made x.typ).getD false = true
    ·rw [if_pos h3, M39_L5_eq F a2 a3 k l, List.filter_cons, if_pos (by simp [cntA, h3])]; rfl
    ·rw [if_neg h3, M39_L5_eq F a2 a3 k l, List.filter_cons, if_neg (by simp only [cntA, Bool.or_eq_true]; rintro ((h | h) | h); exact h1 h; exact h2 h; exact h3 h)]
theorem M39_L4_eq (F : Nat) (a2 : Int) (a3 : Tprovenderref6_sets) (k : List ((List UInt8) × Bool) → Option Tprovenderref6_sets) : ∀ (l : List Tprovenderref6_link) (m : List ((List UInt8) × Bool)), M39_L4 F a2 a3 k l m = k (insAll m (tosL a2 a3 l))
 | [], m => rfl
 | x :: l, m => by
  rw [M39_L4, jn_def]
  simp only [jn_def]
  rw [M39_L5_eq, M39_L4_eq F a2 a3 k l, ← insAll_append]; rfl
theorem M39_L3_eq (F : Nat) (k : List ((List UInt8) × Bool) → Option Tprovenderref6_sets) : ∀ (l : List (List UInt8)) (m : List ((List UInt8) × Bool)), M39_L3 F k l m = k (insAll m l)
 | [], m => rfl
 | x :: l, m => by rw [M39_L3, M39_L3_eq F k l]; rfl
theorem M39_L2_eq (F : Nat) (a1 : Tprovenderref6_net) (a2 : Int) (a3 : Tprovenderref6_sets) : ∀ (l : List ((List UInt8) × Bool)) (m1 m2 : List ((List UInt8) × Bool)),
  M39_L2 F a1 a2 a3 l m1 m2 = some (Tprovenderref6_sets.mk (insAll m1 (l.flatMap fun e => e.1 :: tosL a2 a3 (linksN a1 e.1))) (insAll m2 (l.flatMap fun e => (funcN a1 e.1).Makes)))
 | [], m1, m2 => rfl
 | e :: l, m1, m2 => by
  rw [M39_L2, jn_def]
  simp only [jn_def]
  rw [M39_L3_eq, M39_L4_eq, M39_L2_eq F a1 a2 a3 l]
  simp only [List.flatMap_cons, insAll_append]
  rfl
theorem ord_M39_L2 {F : Nat} {a1 : Tprovenderref6_net} {a2 : Int} {a3 : Tprovenderref6_sets} {l l' : List ((List UInt8) × Bool)} {m1 m2 : List ((List UInt8) × Bool)} {r : Tprovenderref6_sets} (hp : l.Perm l')
  (h : M39_L2 F a1 a2 a3 l m1 m2 = some r) : M39_L2 F a1 a2 a3 l' m1 m2 = some r := by
 rw [← h, M39_L2_eq, M39_L2_eq, insAll_perm (hp.flatMap_right _), insAll_perm (hp.flatMap_right _)]
def hlf (n : Nat) : Int := w64 (Int.tdiv ((n : Nat) : Int) 2)
end Go.Proofs.Ytcbkgdagiccfmaa
namespace Go.Pv
open Go Go.ChangeShapes Go.WideShapes
mutual
def bulk {H : Type} : DataW H → Nat
 | .lit (.string bytes) => bytes.length + 1
 | .lit _ => 1
 | .nil => 1
 | .ptr d => bulk d + 1
 | .slice elems spare => bulkAll elems + bulkAll spare + 1
 | .agg parts => bulkAll parts + 1
 | .iface _ d => bulk d + 1
 | .map entries => bulkEnts entries + 1
 | .held _ => 1
def bulkAll {H : Type} : List (DataW H) → Nat
 | [] => 0
 | d :: r => bulk d + bulkAll r
def bulkEnts {H : Type} : List (Lit × DataW H) → Nat
 | [] => 0
 | x :: r => bulkEnt x + bulkEnts r
def bulkEnt {H : Type} : Lit × DataW H → Nat
 | (.string bytes, d) => bytes.length + bulk d + 1
 | (_, d) => bulk d + 1
end
def memOf (w : World) : Mem := fun b => w.heap[b]?
def IRelL (m : Mem) (ds : List V) (cs : List Value) : Prop :=
 ds.length = cs.length ∧ ∀ (i : Nat) (c : V) (v : Value), ds[i]? = some c → cs[i]? = some v → IRel m c v
theorem IRelL.one {m : Mem} {d : V} {c : Value} (h : IRel m d c) : IRelL m [d] [c] :=
 ⟨rfl, fun i d' c' hd hc => by
  match i with
  | 0 => simp at hd hc; subst hd; subst hc; exact h
  | _ + 1 => simp at hd⟩
theorem IRelL.app {m : Mem} {a b : List V} {x y : List Value} (h : IRelL m a x) (h' : IRelL m b y) : IRelL m (a ++ b) (x ++ y) := by
 refine ⟨by simp [h.1, h'.1], fun i c v hc hv => ?_⟩
 by_cases hi : i < a.length
 ·rw [List.getElem?_append_left hi] at hc
  rw [List.getElem?_append_left (by rw [← h.1]; exact hi)] at hv
  exact h.2 i c v hc hv
 ·rw [List.getElem?_append_right (by omega)] at hc
  rw [List.getElem?_append_right (by rw [← h.1]; omega), ← h.1] at hv
  exact h'.2 _ c v hc hv
section
variable {P : Program} {t e : TypeId} {α β : Type}
def wOk {H : Type} (P : Program) (t : TypeId) (d : DataW H) : Prop := (d.weights P t).all (· ≤ reachBytes) = true
def wOks {H : Type} (P : Program) (ts : List TypeId) (ds : List (DataW H)) : Prop := (DataW.weightsEach P ts ds).all (· ≤ reachBytes) = true
theorem wOks_cons {H : Type} {P : Program} {t : TypeId} {ts : List TypeId} {d : DataW H} {ds : List (DataW H)} (h : wOks P (t :: ts) (d :: ds)) : wOk P t d ∧ wOks P ts ds := by
 unfold wOks wOk at *
 rw [DataW.weightsEach, List.all_append, Bool.and_eq_true] at h
 exact h
theorem wAll {H : Type} {P : Program} {e : TypeId} : ∀ (l : List (DataW H)), (DataW.weightsAll P e l).all (· ≤ reachBytes) = true → ∀ d, d ∈ l → wOk P e d
 | [], _, d, hd => by simp at hd
 | x :: l, h, d, hd => by
  rw [DataW.weightsAll, List.all_append, Bool.and_eq_true] at h
  rcases List.mem_cons.1 hd with rfl | hd
  ·exact h.1
  ·exact wAll l h.2 d hd
def Opens (P : Program) (t : TypeId) (e : α → List V) (sz : α → Nat) (ok : α → Prop) : Prop :=
 ∀ {H : Type} (enc : TypeId × Value → H) (w : World) (fuel : Nat) (cs : List Value) (x : DataW H × List MemPlace),
  DataW.trod enc P w 0 (fun _ => true) true fuel t cs = some x → wOk P t x.1 → ∃ a : α, IRelL (memOf w) (e a) cs ∧ sz a ≤ bulk x.1 ∧ ok a
theorem opens_int {k : IntKind} (ht : P.underlying t = some (.int k)) : Opens P t (fun n : Int => [V.con (.int k n)]) (fun _ => 1) (fun n => k.min ≤ n ∧ n ≤ k.max) := by
 intro H enc w fuel cs x h hw
 obtain ⟨n, rfl, rfl, hw'⟩ := DataW.trod_int ht h
 simp only [Lit.wf, Bool.and_eq_true, decide_eq_true_eq] at hw'
 exact ⟨n, IRelL.one (.con _), by simp [bulk], hw'⟩
theorem opens_string (ht : P.underlying t = some .string) : Opens P t (fun s : List UInt8 => [sV s]) (fun s => s.length + 1) (fun s => s.length ≤ maxLen) := by
 intro H enc w fuel cs x h hw
 obtain ⟨s, rfl, rfl, hs⟩ := DataW.trod_string ht h
 refine ⟨s.data.toList, IRelL.one ?_, by simp [bulk], by simpa using hs⟩
 have : str s.data.toList = .string s := by simp [str]
 unfold sV
 rw [this]
 exact .con _
theorem list_of {p : Nat → α → Prop} : ∀ {n : Nat}, (∀ i, i < n → ∃ a, p i a) → ∃ l : List α, l.length = n ∧ ∀ i a, l[i]? = some a → p i a
 | 0, _ => ⟨[], rfl, by simp⟩
 | n + 1, h => by
  obtain ⟨l, hl, hp⟩ := list_of (n := n) fun i hi => h i (by omega)
  obtain ⟨a, ha⟩ := h n (by omega)
  refine ⟨l ++ [a], by simp [hl], fun i b hb => ?_⟩
  by_cases hi : i < l.length
  ·rw [List.getElem?_append_left hi] at hb; exact hp i b hb
  ·rw [List.getElem?_append_right (by omega)] at hb
   have : i - l.length = 0 := by
    have := (List.getElem?_eq_some_iff.1 hb).1
    simp at this; omega
   rw [this] at hb
   simp at hb
   subst hb
   rw [show i = n by omega]; exact ha
theorem bulkAll_map {H : Type} {n : Nat} (D : Nat → DataW H) : bulkAll ((List.range n).map D) = ((List.range n).map fun i => bulk (D i)).sum := by
 generalize List.range n = l
 induction l with
 | nil => rfl
 | cons a l ih => simp [bulkAll, ih]
theorem sum_le {l : List α} {sz : α → Nat} {g : Nat → Nat} (h : ∀ i a, l[i]? = some a → sz a ≤ g i) : (l.map sz).sum ≤ ((List.range l.length).map g).sum := by
 induction l generalizing g with
 | nil => simp
 | cons a l ih =>
  rw [List.length_cons, List.range_succ_eq_map]
  simp only [List.map_cons, List.sum_cons, List.map_map]
  have h0 := h 0 a rfl
  have h1 := ih (g := g ∘ Nat.succ) fun i b hb => h (i + 1) b (by simpa using hb)
  exact Nat.add_le_add h0 h1
theorem opens_slice {k : Nat} {ee : α → List V} {sz : α → Nat} {ok : α → Prop} (ht : P.underlying t = some (.slice e)) (hk : P.cellsOf e = k) (h0 : 0 < k) (he : Opens P e ee sz ok) :
  Opens P t (fun l : List α => [V.lst k (l.map ee)]) (fun l => (l.map sz).sum + 1) (fun l => (∀ a, a ∈ l → ok a) ∧ l.length ≤ maxLen) := by
 intro H enc w fuel cs x h hw
 rcases Deep.open_slice ht h with ⟨rfl, rfl⟩ | ⟨a, len, cap, m, n, D, Pl, rfl, _, hlc, hcm, hm, rfl, hel⟩
 ·exact ⟨[], IRelL.one (.nil _ _ _), by simp [bulk], by simp⟩
 ·simp only [if_true] at hm
  subst hm
  obtain ⟨l, hl, hp⟩ := list_of (n := len) (p := fun i (b : α) => sz b ≤ bulk (D i) ∧ ok b ∧ ∃ cs', w.cells? 0 (a.add (i * P.cellsOf e)) (P.cellsOf e) = some cs' ∧ IRelL (memOf w) (ee b) cs') (by
   intro i hi
   obtain ⟨cs', hc, hd⟩ := hel i (by omega)
   obtain ⟨b, h1, h2, h3⟩ := he _ _ _ _ _ hd (by
    unfold wOk at hw
    rw [DataW.weights] at hw
    simp only [ht, List.all_cons, List.all_append, Bool.and_eq_true] at hw
    exact wAll _ hw.2.1 _ (List.mem_map.2 ⟨i, List.mem_range.2 hi, rfl⟩))
   exact ⟨b, h2, h3, cs', hc, h1⟩)
  refine ⟨l, IRelL.one ?_, ?_, fun b hb => ?_, by omega⟩
  ·by_cases hz : len = 0
   ·subst hz
    have : l = [] := List.length_eq_zero_iff.1 hl
    subst this
    exact .nil _ _ _
   ·have hcell : ∀ i j b, l[i]? = some b → j < k → ∃ v, w.cell? ((a.add (i * k)).add j) = some v ∧ (∃ c, (ee b)[j]? = some c) ∧ ∀ c, (ee b)[j]? = some c → IRel (memOf w) c v := by
     intro i j b hb hj
     obtain ⟨_, _, cs', hc, hr⟩ := hp i b hb
     rw [hk] at hc
     obtain ⟨_, hn, hcs⟩ := World.cells?_some hc
     have hj' : j < cs'.length := by omega
     have hv : cs'[j]? = some cs'[j] := List.getElem?_eq_getElem hj'
     have hj2 : j < (ee b).length := by rw [hr.1]; exact hj'
     exact ⟨cs'[j], (hcs j hj).trans hv, ⟨(ee b)[j], List.getElem?_eq_getElem hj2⟩, fun c hcc => hr.2 j c _ hcc hv⟩
    have hlen : ∀ b, b ∈ l → (ee b).length = k := by
     intro b hb
     obtain ⟨i, hi⟩ := List.mem_iff_getElem?.1 hb
     obtain ⟨_, _, cs', hc, hr⟩ := hp i b hi
     rw [hk] at hc
     rw [hr.1, (World.cells?_some hc).2.1]
    have hb0 : ∃ b, l[0]? = some b := ⟨l[0]'(by omega), List.getElem?_eq_getElem _⟩
    obtain ⟨b0, hb0⟩ := hb0
    obtain ⟨v0, hv0, _⟩ := hcell 0 0 b0 hb0 h0
    have hadd0 : (a.add (0 * k)).add 0 = a := by simp [Addr.add]
    rw [hadd0] at hv0
    unfold World.cell? at hv0
    split at hv0
    case h_2 => simp at hv0
    rename_i arr T fr hblk
    have hsp : a.spot = none := by
     cases hs : a.spot with
     | none => rfl
     | some s => simp [hs] at hv0
    have hget : ∀ i j b, l[i]? = some b → j < k → ∃ v, arr[a.off + (i * k + j)]? = some v ∧ (∃ c, (ee b)[j]? = some c) ∧ ∀ c, (ee b)[j]? = some c → IRel (memOf w) c v := by
     intro i j b hb hj
     obtain ⟨v, hv, hc⟩ := hcell i j b hb hj
     rw [Deep.add_add] at hv
     unfold World.cell? at hv
     have hbk : (a.add (i * k + j)).block = a.block := by unfold Addr.add; split <;> rfl
     have hso : (a.add (i * k + j)).spot = none := by unfold Addr.add; split <;> simp [hsp]
     have hof : (a.add (i * k + j)).off = a.off + (i * k + j) := by unfold Addr.add; split <;> simp [*]
     rw [hbk, hblk] at hv
     simp only [hso, hof] at hv
     exact ⟨v, by simpa using hv, hc⟩
    refine IRel.lst (arr := arr) (T := T) (fr := fr) (fun i => (arr[a.off + i]?).getD undef) hblk hsp (by simpa using hl) hlc (by omega) ?_ ?_ ?_
    ·intro row hrow
     obtain ⟨b, hb, rfl⟩ := List.mem_map.1 hrow
     exact hlen b hb
    ·intro i hi
     rw [List.length_map] at hi
     have hq : i / k < l.length := Nat.div_lt_of_lt_mul (by rw [Nat.mul_comm]; exact hi)
     obtain ⟨v, hv, _⟩ := hget (i / k) (i % k) l[i / k] (List.getElem?_eq_getElem hq) (Nat.mod_lt _ h0)
     have : i / k * k + i % k = i := by rw [Nat.mul_comm]; exact Nat.div_add_mod i k
     rw [this] at hv
     simp [hv]
    ·intro i j row c hrow hc
     rw [List.getElem?_map, Option.map_eq_some_iff] at hrow
     obtain ⟨b, hb, rfl⟩ := hrow
     have hj : j < k := by
      have := (List.getElem?_eq_some_iff.1 hc).1
      rw [hlen b (List.mem_iff_getElem?.2 ⟨i, hb⟩)] at this
      exact this
     obtain ⟨v, hv, _, hcr⟩ := hget i j b hb hj
     simp only [hv, Option.getD_some]
     exact hcr c hc
  ·simp only [bulk]
   rw [bulkAll_map]
   have := sum_le (l := l) (sz := sz) (g := fun i => bulk (D i)) fun i b hb => (hp i b hb).1
   rw [hl] at this
   omega
  ·obtain ⟨i, hi⟩ := List.mem_iff_getElem?.1 hb
   exact (hp i b hi).2.1
def FOpens (P : Program) (N : Nat) (fs : List (TypeId × Nat × Nat)) (off : Nat) (e : α → List V) (sz : α → Nat) (ok : α → Prop) : Prop :=
 ∀ {H : Type} (enc : TypeId × Value → H) (w : World) (n : Nat) (cs : List Value) (xs : List (DataW H × List MemPlace)), cs.length = N → xs.length = fs.length →
  (∀ (i : Nat) (f : TypeId × Nat × Nat), fs[i]? = some f → DataW.trod enc P w 0 (fun _ => true) true n f.1 ((cs.drop f.2.1).take f.2.2) = xs[i]?) →
  wOks P (fs.map (·.1)) (xs.map (·.1)) → ∃ a : α, IRelL (memOf w) (e a) (cs.drop off) ∧ sz a ≤ bulkAll (xs.map (·.1)) ∧ ok a
theorem fopens_nil {N : Nat} : FOpens P N [] N (fun _ : Unit => []) (fun _ => 0) (fun _ => True) := by
 intro H enc w n cs xs hN hx _ _
 refine ⟨(), ?_, by simp, trivial⟩
 rw [← hN]
 simp [IRelL]
theorem fopens_cons {N k off : Nat} {ft : TypeId} {fs : List (TypeId × Nat × Nat)} {ea : α → List V} {eb : β → List V} {sa : α → Nat} {sb : β → Nat} {oa : α → Prop} {ob : β → Prop}
  (h : Opens P ft ea sa oa) (hr : FOpens P N fs (off + k) eb sb ob) : FOpens P N ((ft, off, k) :: fs) off (fun p : α × β => ea p.1 ++ eb p.2) (fun p => sa p.1 + sb p.2) (fun p => oa p.1 ∧ ob p.2) := by
 intro H enc w n cs xs hN hx hf hw
 match xs, hx with
 | x :: xs, hx =>
  have h1 := hf 0 _ rfl
  simp only [List.getElem?_cons_zero] at h1
  have hw' := wOks_cons hw
  obtain ⟨a, ha, hs, ho⟩ := h enc w n _ x h1 hw'.1
  have hb' := hr enc w n cs xs hN (by simpa using hx) fun i f hi => by
   have := hf (i + 1) f (by simpa using hi)
   simpa using this
  obtain ⟨b, hb, hs', ho'⟩ := hb' hw'.2
  refine ⟨(a, b), ?_, by simp only [List.map_cons, bulkAll]; omega, ho, ho'⟩
  have := ha.app hb
  rw [show (cs.drop off).take k ++ cs.drop (off + k) = cs.drop off by rw [← List.drop_drop]; exact List.take_append_drop _ _] at this
  exact this
def fieldsOf (P : Program) (t : TypeId) : Option (List (TypeId × Nat × Nat)) :=
 match P.underlying t with
 | some (.struct fs) => some (fs.toList.map fun f => (f.type, f.offset, P.cellsOf f.type))
 | _ => none
theorem opens_struct {N : Nat} {fs : List (TypeId × Nat × Nat)} {e : α → List V} {sz : α → Nat} {ok : α → Prop} (ht : fieldsOf P t = some fs) (hN : P.cellsOf t = N) (h : FOpens P N fs 0 e sz ok) :
  Opens P t e (fun a => sz a + 1) ok := by
 intro H enc w fuel cs x hx hw
 unfold fieldsOf at ht
 split at ht
 case h_2 => simp at ht
 rename_i gs hu
 simp only [Option.some.injEq] at ht
 subst ht
 obtain ⟨xs, n, _, rfl, hl, hxl, hf⟩ := DataW.trod_struct hu hx
 have ha' := h enc w n cs xs (hl.trans hN) (by simpa using hxl) fun i f hi => by
  rw [List.getElem?_map, Option.map_eq_some_iff] at hi
  obtain ⟨g, hg, rfl⟩ := hi
  exact hf i g (by simpa using hg)
 obtain ⟨a, h1, h2, h3⟩ := ha' (by
  unfold wOk at hw
  rw [DataW.weights] at hw
  simp only [hu] at hw
  unfold wOks
  rw [List.map_map]
  exact hw)
 exact ⟨a, by simpa using h1, by simp only [bulk]; omega, h3⟩
theorem opens_map {ea : α → List V} {eb : β → List V} {sa : α → Nat} {sb : β → Nat} {oa : α → Prop} {ob : β → Prop} (h : Opens P t ea sa oa) (g : α → β)
  (he : ∀ a, eb (g a) = ea a) (hs : ∀ a, sb (g a) = sa a) (ho : ∀ a, oa a → ob (g a)) : Opens P t eb sb ob := by
 intro H enc w fuel cs x hx hw
 obtain ⟨a, h1, h2, h3⟩ := h enc w fuel cs x hx hw
 exact ⟨g a, by rw [he]; exact h1, by rw [hs]; exact h2, ho a h3⟩
def OpensV (P : Program) (t : TypeId) (e : α → V) (sz : α → Nat) (ok : α → Prop) : Prop :=
 ∀ {H : Type} (enc : TypeId × Value → H) (w : World) (base : Nat) (v : Value) (d : DataW H) (p : List MemPlace),
  Value.okWide P w .any base t v → DataW.Trod enc P w 0 (fun _ => true) true t v d p → wOk P t d → ∃ a : α, IRel (memOf w) (e a) v ∧ sz a ≤ bulk d ∧ ok a
theorem opensV_agg {fs : List (TypeId × Nat × Nat)} {e : α → List V} {sz : α → Nat} {ok : α → Prop} (ht : fieldsOf P t = some fs) (h : Opens P t e sz ok) : OpensV P t (fun a => .agg (e a)) sz ok := by
 intro H enc w base v d p hv ⟨n, hd⟩ hw
 unfold fieldsOf at ht
 split at ht
 case h_2 => simp at ht
 rename_i gs hu
 obtain ⟨cs, rfl, _⟩ := okWide_struct hu hv
 obtain ⟨a, h1, h2, h3⟩ := h enc w n _ _ hd hw
 exact ⟨a, .agg (by simpa [Value.cells] using h1.1) (fun i c v' hc hv' => h1.2 i c v' hc (by simpa [Value.cells] using hv')), h2, h3⟩
def cellKind (P : Program) (t : TypeId) : Bool :=
 match P.underlying t with
 | some (.int _) | some .bool | some .string | some (.slice _) => true
 | _ => false
theorem opensV_cell {e : α → V} {sz : α → Nat} {ok : α → Prop} (ht : cellKind P t = true) (h : Opens P t (fun a => [e a]) sz ok) : OpensV P t e sz ok := by
 intro H enc w base v d p hv ⟨n, hd⟩ hw
 obtain ⟨a, h1, h2, h3⟩ := h enc w n _ _ hd hw
 have hna : ∀ cs, v ≠ .agg cs := by
  rintro cs rfl
  unfold cellKind at ht
  unfold Value.okWide at hv
  split at ht <;> rename_i hu <;> first | exact absurd ht (by decide) | (simp only [hu, Cell.okWide, Cell.ok] at hv)
 have hc : v.cells.toList = [v] := by cases v <;> first | rfl | exact absurd rfl (hna _)
 rw [hc] at h1
 exact ⟨a, h1.2 0 _ _ rfl rfl, h2, h3⟩
theorem sameAt_of {w w' : World} (h : ∀ b, b < w.heap.size → w'.heap[b]? = w.heap[b]?) {p : MemPlace} (hp : p.block < w.heap.size) : w.sameAt w' p := by
 cases p with
 | cell b o => simp only [World.sameAt, World.cell?]; rw [h b hp]
 | map b => exact h b hp
theorem trodAll_stays {H : Type} {enc : TypeId × Value → H} (hl : laidOutB P = true) {w w' : World} {sp : Nat → Bool} (hh : ∀ b, b < w.heap.size → w'.heap[b]? = w.heap[b]?)
  (hs : ∀ b, b < w.heap.size → sp b = true) : ∀ {ts : List TypeId} {vs : List Value} {ds : List (DataW H)} {ps : List MemPlace},
  (ts.all fun t => P.readableRec t && decide (t < P.types.size)) = true → DataW.TrodAll enc P w 0 (fun _ => true) true ts vs ds ps → (∀ p ∈ ps, p.block < w.heap.size) → DataW.TrodAll enc P w' 0 sp true ts vs ds ps
 | [], [], [], _, _, h, _ => h
 | t :: ts, v :: vs, d :: ds, _, hr, ⟨p, q, h1, h2, e⟩, hlt => by
  subst e
  simp only [List.all_cons, Bool.and_eq_true, decide_eq_true_eq] at hr
  exact ⟨p, q, WideElems.Trod_stays hl hr.1.1 hr.1.2 h1 (fun x hx => sameAt_of hh (hlt x (List.mem_append_left _ hx))) (fun x hx => hs _ (hlt x (List.mem_append_left _ hx))),
   trodAll_stays hl hh hs (by simpa using hr.2) h2 (fun x hx => hlt x (List.mem_append_right _ hx)), rfl⟩
theorem kept_of {w w' : World} (hs : Same w w') (hh : ∀ b, b < w.heap.size → w'.heap[b]? = w.heap[b]?) (may : MemPlace → Prop) : w.keptBut w' may := by
 refine ⟨hs.os, hs.output, fun i hi => ?_⟩
 rw [hh i hi]
 split <;> first | exact ⟨rfl, rfl, rfl, fun _ _ => rfl⟩ | exact .inr ⟨rfl, rfl⟩ | rfl | skip
 all_goals simp_all
theorem law_post {H : Type} {enc : TypeId × Value → H} {f : Func} {s : ChangeSpec} {apart fresh handsOn : Bool} {w w' : World} {args : Array Value} {v : Value} {ds gs : List (DataW H)} {before : List MemPlace} {m m' : Mem} {tb : TypeId}
  (hl : laidOutB P = true) (hts : (f.params.toList.all fun t => P.readableRec t && decide (t < P.types.size)) = true) (hv : s.vars = []) (hfn : ∀ gs', gs' = [] → s.fn H (ds ++ gs') = { results := [.lit (.bool true)], args := ds })
  (hres : f.resultTypes = #[tb]) (hb : P.underlying tb = some .bool) (hW : DataW.Whole enc P f.params.toList s.vars apart w args.toList ds gs before) (h : IRel m' (bV true) v) (hg : Grew m m' w w') :
  s.post enc P f apart fresh handsOn false w args v w' := by
 have hW0 := hW
 obtain ⟨p, q, hA, hV, rfl, hfz, hnd⟩ := hW0
 cases h
 rw [hv] at hV
 cases gs with
 | cons _ _ => simp [DataW.TrodVars] at hV
 | nil =>
 have hq : q = [] := hV
 subst hq
 refine ⟨ds, [], p ++ [], [], p, [], hW, ?_, ?_, ?_, kept_of hg.same hg.heap _, fun h => by simp at h⟩
 ·rw [hfn _ rfl, hres]
  exact trodAll_cons_mk (RowKit.shut_bool hb _) trodAll_mk0
 ·rw [hfn _ rfl]
  exact trodAll_stays hl hg.heap (fun b hb => by simpa using hb) hts hA (DataW.TrodAll.lt hA)
 ·rw [hv, hfn _ rfl]
  rfl
theorem args_nil {H : Type} {enc : TypeId × Value → H} {w : World} {args : Array Value} {f : Func} {s : ChangeSpec} {apart : Bool} {ds gs : List (DataW H)} {before : List MemPlace}
  (hW : DataW.Whole enc P f.params.toList s.vars apart w args.toList ds gs before) : ∃ p, DataW.TrodAll enc P w 0 (fun _ => true) true f.params.toList args.toList ds p := by
 obtain ⟨p, q, hA, _⟩ := hW
 exact ⟨p, hA⟩
end
def factsA (P : Program) (f : FuncId) (fn : Func) (s : ChangeSpec) (c : OpenClaim) : Bool :=
 c.wf (OpenSpec.ofChange s) && laidOutB P && mapsRowed P &&
 fn.params.all (P.readableRec ·) && namedTie P c.named s.vars &&
 (c.stops == []) && (P.stops == []) && (c.knobs == []) && (P.stopKnobs == []) &&
 (c.inPlace == P.inPlace f) && (c.unfollowed == P.unfollowed f) && (c.recurses == P.recurses f) && (c.named == P.varsNamed f) &&
 (c.maps == (fn.params.toList ++ s.plain.varTypes P).any (P.mapsRec ·)) && (c.ifaces == (fn.params.toList ++ s.plain.varTypes P).any (P.ifacesRec ·)) && (c.mapsOut == P.mapsAmong fn.resultTypes.toList) &&
 (c.loops == (fn.params.toList ++ s.plain.varTypes P).any (P.loopsFrom ·)) && (c.wideKeys == (fn.params.toList ++ s.plain.varTypes P ++ fn.resultTypes.toList).any (P.wideKeysFrom ·)) &&
 s.vars.all (P.varReadable ·) && fn.resultTypes.all (fun t => P.readableRec t && decide (t < P.types.size)) && (c.ifacesOut == fn.resultTypes.toList.any (P.ifacesRec ·)) && (c.loopsOut == fn.resultTypes.toList.any (P.loopsFrom ·)) && (c.plainKeys == P.plainKeys) && c.shortTexts.isNone && P.stopsHeard
def factsB (P : Program) (c : OpenClaim) : Bool := P.mayEnter && (c.lifted == P.liftsFinal) && (P.make == some c.make)
def factsC (P : Program) (fn : Func) (s : ChangeSpec) (c : OpenClaim) : Bool :=
 (c.kinds == (if c.domain.isEmpty then [] else fn.params.toList.map fun t => match P.underlying t with | some (.int k) => some k | _ => none)) && (c.pinned == c.pinnedBy) &&
 (c.veiled == (fn.params.toList ++ s.plain.varTypes P ++ fn.resultTypes.toList).any (P.veiledRec ·)) && c.veiledFits P fn.params.toList (fn.params.toList ++ s.plain.varTypes P ++ fn.resultTypes.toList)
theorem facts_join {P : Program} {f : FuncId} {fn : Func} {s : ChangeSpec} {c : OpenClaim} (h1 : factsA P f fn s c = true) (h2 : factsB P c = true) (h3 : factsC P fn s c = true) : joinedFacts P f fn s c = true := by
 unfold factsA at h1
 unfold factsB at h2
 unfold factsC at h3
 have e : ∀ a b c d b1 b2 b3 c1 c2 c3 : Bool, a = true → (b1 && b2 && b3) = true → (b && c && d && c1) = true → (a && b1 && b2 && b3 && b && c && d && c1) = true := by
  intro a b c d b1 b2 b3 c1 c2 c3 h h' h''
  simp only [Bool.and_eq_true] at *
  simp_all
 exact e _ _ _ _ _ _ _ _ true true h1 h2 h3
end Go.Pv
namespace Go.Proofs.Ytcbkgdagiccfmaa
open Go Go.Pv
set_option linter.unusedVariables false
set_option maxRecDepth 100000
theorem opens_9 : Opens Try.prog 9 (fun x => [sV x]) (fun x : (List UInt8) => (x.length + 1)) (fun x : (List UInt8) => (x.length ≤ maxLen)) := opens_string (show Try.prog.underlying 9 = some (.string) by kernel_rfl)
theorem opens_25 : Opens Try.prog 25 (fun l => [V.lst 1 (l.map encS)]) (fun x : (List (List UInt8)) => ((x.map (fun x : (List UInt8) => (x.length + 1))).sum + 1)) (fun x : (List (List UInt8)) => ((∀ a, a ∈ x → (fun x : (List UInt8) => (x.length ≤ maxLen)) a) ∧ x.length ≤ maxLen)) := opens_slice (show Try.prog.underlying 25 = some (.slice 9) by kernel_rfl) (by kernel_rfl) (by decide) opens_9
def szTIface (x : TIface) : Nat := (x.Name.length + 1) + (((x.Methods.map (fun x : (List UInt8) => (x.length + 1))).sum + 1) + 0) + 1
def okTIface (x : TIface) : Prop := (x.Name.length ≤ maxLen) ∧ (((∀ a, a ∈ x.Methods → (fun x : (List UInt8) => (x.length ≤ maxLen)) a) ∧ x.Methods.length ≤ maxLen) ∧ True)
theorem opens_114 : Opens Try.prog 114 encTIface szTIface okTIface := opens_map (opens_struct (fs := [(9, 0, 1), (25, 1, 1)]) (by kernel_rfl) (by kernel_rfl) (fopens_cons opens_9 (fopens_cons opens_25 fopens_nil))) (fun p => TIface.mk p.1 p.2.1) (fun _ => rfl) (fun _ => rfl) (fun _ h => h)
theorem opens_22 : Opens Try.prog 22 (fun l => [V.lst 2 (l.map encTIface)]) (fun x : (List TIface) => ((x.map (fun x : TIface => (szTIface x))).sum + 1)) (fun x : (List TIface) => ((∀ a, a ∈ x → (fun x : TIface => (okTIface x)) a) ∧ x.length ≤ maxLen)) := opens_slice (show Try.prog.underlying 22 = some (.slice 114) by kernel_rfl) (by kernel_rfl) (by decide) opens_114
def szTMethod (x : TMethod) : Nat := (x.Name.length + 1) + ((x.Func.length + 1) + 0) + 1
def okTMethod (x : TMethod) : Prop := (x.Name.length ≤ maxLen) ∧ ((x.Func.length ≤ maxLen) ∧ True)
theorem opens_129 : Opens Try.prog 129 encTMethod szTMethod okTMethod := opens_map (opens_struct (fs := [(9, 0, 1), (9, 1, 1)]) (by kernel_rfl) (by kernel_rfl) (fopens_cons opens_9 (fopens_cons opens_9 fopens_nil))) (fun p => TMethod.mk p.1 p.2.1) (fun _ => rfl) (fun _ => rfl) (fun _ h => h)
theorem opens_110 : Opens Try.prog 110 (fun l => [V.lst 2 (l.map encTMethod)]) (fun x : (List TMethod) => ((x.map (fun x : TMethod => (szTMethod x))).sum + 1)) (fun x : (List TMethod) => ((∀ a, a ∈ x → (fun x : TMethod => (okTMethod x)) a) ∧ x.length ≤ maxLen)) := opens_slice (show Try.prog.underlying 110 = some (.slice 129) by kernel_rfl) (by kernel_rfl) (by decide) opens_129
def szTType (x : TType) : Nat := (x.Name.length + 1) + (((x.Methods.map (fun x : TMethod => (szTMethod x))).sum + 1) + 0) + 1
def okTType (x : TType) : Prop := (x.Name.length ≤ maxLen) ∧ (((∀ a, a ∈ x.Methods → (fun x : TMethod => (okTMethod x)) a) ∧ x.Methods.length ≤ maxLen) ∧ True)
theorem opens_112 : Opens Try.prog 112 encTType szTType okTType := opens_map (opens_struct (fs := [(9, 0, 1), (110, 1, 1)]) (by kernel_rfl) (by kernel_rfl) (fopens_cons opens_9 (fopens_cons opens_110 fopens_nil))) (fun p => TType.mk p.1 p.2.1) (fun _ => rfl) (fun _ => rfl) (fun _ h => h)
theorem opens_23 : Opens Try.prog 23 (fun l => [V.lst 2 (l.map encTType)]) (fun x : (List TType) => ((x.map (fun x : TType => (szTType x))).sum + 1)) (fun x : (List TType) => ((∀ a, a ∈ x → (fun x : TType => (okTType x)) a) ∧ x.length ≤ maxLen)) := opens_slice (show Try.prog.underlying 23 = some (.slice 112) by kernel_rfl) (by kernel_rfl) (by decide) opens_112
theorem opens_3 : Opens Try.prog 3 (fun x => [V.con (.int .i64 x)]) (fun x : Int => 1) (fun x : Int => ((IntKind.i64).min ≤ x ∧ x ≤ (IntKind.i64).max)) := opens_int (show Try.prog.underlying 3 = some (.int .i64) by kernel_rfl)
def szTCall (x : TCall) : Nat := 1 + ((x.Target.length + 1) + ((x.Method.length + 1) + ((x.Feature.length + 1) + 0))) + 1
def okTCall (x : TCall) : Prop := ((IntKind.i64).min ≤ x.Kind ∧ x.Kind ≤ (IntKind.i64).max) ∧ ((x.Target.length ≤ maxLen) ∧ ((x.Method.length ≤ maxLen) ∧ ((x.Feature.length ≤ maxLen) ∧ True)))
theorem opens_59 : Opens Try.prog 59 encTCall szTCall okTCall := opens_map (opens_struct (fs := [(3, 0, 1), (9, 1, 1), (9, 2, 1), (9, 3, 1)]) (by kernel_rfl) (by kernel_rfl) (fopens_cons opens_3 (fopens_cons opens_9 (fopens_cons opens_9 (fopens_cons opens_9 fopens_nil))))) (fun p => TCall.mk p.1 p.2.1 p.2.2.1 p.2.2.2.1) (fun _ => rfl) (fun _ => rfl) (fun _ h => h)
theorem opens_60 : Opens Try.prog 60 (fun l => [V.lst 4 (l.map encTCall)]) (fun x : (List TCall) => ((x.map (fun x : TCall => (szTCall x))).sum + 1)) (fun x : (List TCall) => ((∀ a, a ∈ x → (fun x : TCall => (okTCall x)) a) ∧ x.length ≤ maxLen)) := opens_slice (show Try.prog.underlying 60 = some (.slice 59) by kernel_rfl) (by kernel_rfl) (by decide) opens_59
def szTFunc (x : TFunc) : Nat := (x.Name.length + 1) + ((x.Component.length + 1) + (((x.Calls.map (fun x : TCall => (szTCall x))).sum + 1) + (((x.Makes.map (fun x : (List UInt8) => (x.length + 1))).sum + 1) + 0))) + 1
def okTFunc (x : TFunc) : Prop := (x.Name.length ≤ maxLen) ∧ ((x.Component.length ≤ maxLen) ∧ (((∀ a, a ∈ x.Calls → (fun x : TCall => (okTCall x)) a) ∧ x.Calls.length ≤ maxLen) ∧ (((∀ a, a ∈ x.Makes → (fun x : (List UInt8) => (x.length ≤ maxLen)) a) ∧ x.Makes.length ≤ maxLen) ∧ True)))
theorem opens_62 : Opens Try.prog 62 encTFunc szTFunc okTFunc := opens_map (opens_struct (fs := [(9, 0, 1), (9, 1, 1), (60, 2, 1), (25, 3, 1)]) (by kernel_rfl) (by kernel_rfl) (fopens_cons opens_9 (fopens_cons opens_9 (fopens_cons opens_60 (fopens_cons opens_25 fopens_nil))))) (fun p => TFunc.mk p.1 p.2.1 p.2.2.1 p.2.2.2.1) (fun _ => rfl) (fun _ => rfl) (fun _ h => h)
theorem opens_24 : Opens Try.prog 24 (fun l => [V.lst 4 (l.map encTFunc)]) (fun x : (List TFunc) => ((x.map (fun x : TFunc => (szTFunc x))).sum + 1)) (fun x : (List TFunc) => ((∀ a, a ∈ x → (fun x : TFunc => (okTFunc x)) a) ∧ x.length ≤ maxLen)) := opens_slice (show Try.prog.underlying 24 = some (.slice 62) by kernel_rfl) (by kernel_rfl) (by decide) opens_62
def szTGraph (x : TGraph) : Nat := ((x.Ifaces.map (fun x : TIface => (szTIface x))).sum + 1) + (((x.Types.map (fun x : TType => (szTType x))).sum + 1) + (((x.Funcs.map (fun x : TFunc => (szTFunc x))).sum + 1) + (((x.Entries.map (fun x : (List UInt8) => (x.length + 1))).sum + 1) + 0))) + 1
def okTGraph (x : TGraph) : Prop := ((∀ a, a ∈ x.Ifaces → (fun x : TIface => (okTIface x)) a) ∧ x.Ifaces.length ≤ maxLen) ∧ (((∀ a, a ∈ x.Types → (fun x : TType => (okTType x)) a) ∧ x.Types.length ≤ maxLen) ∧ (((∀ a, a ∈ x.Funcs → (fun x : TFunc => (okTFunc x)) a) ∧ x.Funcs.length ≤ maxLen) ∧ (((∀ a, a ∈ x.Entries → (fun x : (List UInt8) => (x.length ≤ maxLen)) a) ∧ x.Entries.length ≤ maxLen) ∧ True)))
theorem opens_27 : Opens Try.prog 27 encTGraph szTGraph okTGraph := opens_map (opens_struct (fs := [(22, 0, 1), (23, 1, 1), (24, 2, 1), (25, 3, 1)]) (by kernel_rfl) (by kernel_rfl) (fopens_cons opens_22 (fopens_cons opens_23 (fopens_cons opens_24 (fopens_cons opens_25 fopens_nil))))) (fun p => TGraph.mk p.1 p.2.1 p.2.2.1 p.2.2.2.1) (fun _ => rfl) (fun _ => rfl) (fun _ h => h)
theorem opensV_27 : OpensV Try.prog 27 (fun x => V.agg (encTGraph x)) szTGraph okTGraph := opensV_agg (fs := [(22, 0, 1), (23, 1, 1), (24, 2, 1), (25, 3, 1)]) (by kernel_rfl) opens_27
theorem opensV_3 : OpensV Try.prog 3 (fun x => V.con (.int .i64 x)) (fun x : Int => 1) (fun x : Int => ((IntKind.i64).min ≤ x ∧ x ≤ (IntKind.i64).max)) := opensV_cell (by kernel_rfl) opens_3
theorem opensV_25 : OpensV Try.prog 25 (fun l => V.lst 1 (l.map encS)) (fun x : (List (List UInt8)) => ((x.map (fun x : (List UInt8) => (x.length + 1))).sum + 1)) (fun x : (List (List UInt8)) => ((∀ a, a ∈ x → (fun x : (List UInt8) => (x.length ≤ maxLen)) a) ∧ x.length ≤ maxLen)) := opensV_cell (by kernel_rfl) opens_25
theorem opensV_9 : OpensV Try.prog 9 (fun x => sV x) (fun x : (List UInt8) => (x.length + 1)) (fun x : (List UInt8) => (x.length ≤ maxLen)) := opensV_cell (by kernel_rfl) opens_9
set_option linter.unusedSimpArgs false
abbrev Tx := List UInt8
def vis (c : UInt8) : Bool := decide (33 ≤ c.toNat) && decide (c.toNat ≤ 126) && !decide (c.toNat = 35)
def nm (s : Tx) : Bool := s.all vis && decide (1 ≤ s.length) && decide (s.length ≤ 100)
def le (a b : Tx) : Bool := Op.bytesLess a b || a == b
theorem le_nil {s : Tx} (h : nm s = true) : le s [] = false := by
 cases s with
 | nil => simp [nm] at h
 | cons c s => simp [le, Op.bytesLess]
theorem le_iff {a b : Tx} : le a b = false ↔ Op.bytesLess b a = true := by
 unfold le
 rcases bl_tri a b with h | h | h
 ·simp [h, bl_asymm h]
 ·subst h; simp [bl_irrefl]
 ·simp [h, bl_asymm h, (bl_ne h).symm]
theorem M56_eq (F : Nat) (s : Tx) (h : s.length ≤ maxLen) : M56 F s = some (nm s) := by
 have h' : (s.length : Int) ≤ 9223372036854775807 := by have : s.length ≤ 9223372036854775807 := h; omega
 unfold M56
 rw [jn_def, if_pos h', Int.toNat_natCast]
 generalize hk : (if (!(s == [])) = true then some (decide ((s.length : Int) ≤ 100)) else some false) = k
 have := bytesL (g := M56_L1 F s k) (k := k) (f := false) s vis (fun _ => rfl) (fun m n => by
  rw [M56_L1]
  cases hi : idx s n with
  | none => rfl
  | some c =>
   simp only [Option.bind_some]
   by_cases h1 : c.toNat < 33
   ·rw [if_t (by omega)]; simp [vis]; omega
   ·rw [if_f (by omega)]
    by_cases h2 : c.toNat > 126
    ·rw [if_t (by omega)]; simp [vis]; omega
    ·rw [if_f (by omega)]
     by_cases h3 : c.toNat = 35
     ·rw [if_pos (by simp [h3])]; simp [vis, h3]
     ·rw [if_neg (by simp; omega), if_pos]; simp [vis]; omega) s.length 0 (by omega)
 rw [show ((0 : Nat) : Int) = 0 from rfl] at this
 rw [this, List.drop_zero, ← hk]
 unfold nm
 cases s.all vis
 ·simp
 ·cases s with
  | nil => simp
  | cons c s => simp only [if_true, Bool.true_and]; rw [if_pos (by simp)]; congr 1; rw [Bool.eq_iff_iff]; simp only [decide_eq_true_eq, Bool.and_eq_true, List.length_cons]; omega
theorem M36_eq (F : Nat) (s : Tx) (h : s.length ≤ maxLen) : M36 F s = some (nm s) := by
 have h' : (s.length : Int) ≤ 9223372036854775807 := by have : s.length ≤ 9223372036854775807 := h; omega
 unfold M36
 rw [jn_def, if_pos h', Int.toNat_natCast]
 generalize hk : (if decide ((s.length : Int) ≥ 1) = true then some (decide ((s.length : Int) ≤ 100)) else some false) = k
 have := bytesL (g := M36_L1 F s k) (k := k) (f := false) s vis (fun _ => rfl) (fun m n => by
  rw [M36_L1]
  cases hi : idx s n with
  | none => rfl
  | some c =>
   simp only [Option.bind_some]
   by_cases h1 : c.toNat < 33
   ·rw [if_t (by omega)]; simp [vis]; omega
   ·rw [if_f (by omega)]
    by_cases h2 : c.toNat > 126
    ·rw [if_t (by omega)]; simp [vis]; omega
    ·rw [if_f (by omega)]
     by_cases h3 : c.toNat = 35
     ·rw [if_pos (by simp [h3])]; simp [vis, h3]
     ·rw [if_neg (by simp; omega), if_pos]; simp [vis]; omega) s.length 0 (by omega)
 rw [show ((0 : Nat) : Int) = 0 from rfl] at this
 rw [this, List.drop_zero, ← hk]
 unfold nm
 cases s.all vis
 ·simp
 ·simp only [if_true, Bool.true_and]
  by_cases h1 : 1 ≤ s.length
  ·rw [if_t (by omega)]; congr 1; rw [Bool.eq_iff_iff]; simp only [decide_eq_true_eq, Bool.and_eq_true]; omega
  ·rw [if_f (by omega)]; congr 1; symm; rw [Bool.eq_false_iff]; simp only [decide_eq_true_eq, Bool.and_eq_true, ne_eq]; omega
def nmd (s before : Tx) (first : Bool) : Int := if !nm s then 8 else if !first then (if le s before then 10 else 0) else 0
theorem M42_eq (F : Nat) (s b : Tx) (f : Bool) (h : s.length ≤ maxLen) : M42 F s b f = some (nmd s b f) := by
 unfold M42 nmd
 rw [M56_eq F s h, Option.bind_some, jn_def]
 cases nm s
 ·simp
 ·cases f
  ·simp [le]; split <;> rfl
  ·simp
def nme (s : Tx) (p : Option Tx) : Int := if !nm s then 8 else match p with | some b => if le s b then 10 else 0 | none => 0
theorem nmd_first (s b : Tx) : nmd s b true = nme s none := by unfold nmd nme; cases nm s <;> rfl
theorem nmd_next (s b : Tx) : nmd s b false = nme s (some b) := by unfold nmd nme; cases nm s <;> rfl
theorem nme_zero {s : Tx} {p : Option Tx} (h : nme s p = 0) : nm s = true ∧ ∀ b, p = some b → Op.bytesLess b s = true := by
 unfold nme at h
 cases hn : nm s
 ·simp [hn] at h
 ·refine ⟨rfl, fun b hb => ?_⟩
  subst hb
  simp only [hn, Bool.not_true, Bool.false_eq_true, if_false] at h
  split at h
  ·simp at h
  ·rename_i hl; exact le_iff.1 (by simpa using hl)
abbrev SetM := List (Tx × Bool)
def sset (m : SetM) : List Tx → SetM
 | [] => m
 | x :: l => sset (mput m x true) l
def has (m : SetM) (x : Tx) : Bool := (mget m x).getD false
theorem has_sset (x : Tx) : ∀ (l : List Tx) (m : SetM), has (sset m l) x = (has m x || l.contains x)
 | [], m => by simp [sset]
 | y :: l, m => by
  rw [sset, has_sset x l, List.contains_cons]
  unfold has
  rw [mget_mput]
  by_cases h : y = x
  ·subst h; simp
  ·rw [if_neg h]
   have : (x == y) = false := by simpa using fun e => h e.symm
   rw [this, Bool.false_or]
theorem has_set (x : Tx) (l : List Tx) : has (sset [] l) x = l.contains x := by rw [has_sset]; simp [has, mget]
def methE : Option Tx → List Tx → Int
 | _, [] => 0
 | p, s :: l => if nme s p ≠ 0 then nme s p else methE (some s) l
def ifE : Option Tx → List TIface → Int
 | _, [] => 0
 | p, x :: l => if nme x.Name p ≠ 0 then nme x.Name p else if x.Methods = [] then 13 else if 200 < x.Methods.length then 3 else if methE none x.Methods ≠ 0 then methE none x.Methods else ifE (some x.Name) l
def mtE (fs : Tx → Bool) (lo : Bool) : Option Tx → List TMethod → Int
 | _, [] => 0
 | p, m :: l => if nme m.Name p ≠ 0 then nme m.Name p else if (!lo && !fs m.Func) = true then 4 else mtE fs lo (some m.Name) l
def tyE (fs : Tx → Bool) (lo : Bool) : Option Tx → List TType → Int
 | _, [] => 0
 | p, x :: l => if nme x.Name p ≠ 0 then nme x.Name p else if 200 < x.Methods.length then 3 else if mtE fs lo none x.Methods ≠ 0 then mtE fs lo none x.Methods else tyE fs lo (some x.Name) l
def clE (fs : Tx → Bool) (is : Tx → Option (List Tx)) (lo : Bool) (c : TCall) : Int :=
 if c.Kind = 1 then (if (!lo && !fs c.Target) = true then 4 else if c.Method ≠ [] then 2 else if c.Feature ≠ [] ∧ nm c.Feature = false then 8 else 0)
 else if c.Kind = 2 then (if (!lo && !((is c.Target).elim false fun l => l.contains c.Method)) = true then 4 else if c.Feature ≠ [] ∧ nm c.Feature = false then 8 else 0) else 7
def csE (fs : Tx → Bool) (is : Tx → Option (List Tx)) (lo : Bool) : List TCall → Int
 | [] => 0
 | c :: l => if clE fs is lo c ≠ 0 then clE fs is lo c else csE fs is lo l
def lsE (there : Tx → Bool) (lo : Bool) : Option Tx → List Tx → Int
 | _, [] => 0
 | p, s :: l => if (!lo && !there s) = true then 4 else if (p.elim false fun b => le s b) = true then 10 else lsE there lo (some s) l
def fnE (fs ts : Tx → Bool) (is : Tx → Option (List Tx)) (lo : Bool) : Option Tx → List TFunc → Int
 | _, [] => 0
 | p, x :: l => if nme x.Name p ≠ 0 then nme x.Name p else if nm x.Component = false then 8 else if 200 < x.Calls.length then 3 else if csE fs is lo x.Calls ≠ 0 then csE fs is lo x.Calls else if lsE ts lo none x.Makes ≠ 0 then lsE ts lo none x.Makes else fnE fs ts is lo (some x.Name) l
def ifm (m : List (Tx × TIface)) : List TIface → List (Tx × TIface)
 | [] => m
 | x :: l => ifm (mput m x.Name x) l
def fsOf (g : TGraph) : Tx → Bool := fun x => (g.Funcs.map (·.Name)).contains x
def tsOf (g : TGraph) : Tx → Bool := fun x => (g.Types.map (·.Name)).contains x
def isOf (g : TGraph) : Tx → Option (List Tx) := fun x => (mget (ifm [] g.Ifaces) x).map (·.Methods)
def chk (lo : Bool) (g : TGraph) : Int :=
 if 200 < g.Ifaces.length then 3 else if 500 < g.Types.length then 3 else if 3000 < g.Funcs.length then 3
 else if ifE none g.Ifaces ≠ 0 then ifE none g.Ifaces
 else if tyE (fsOf g) lo none g.Types ≠ 0 then tyE (fsOf g) lo none g.Types
 else if fnE (fsOf g) (tsOf g) (isOf g) lo none g.Funcs ≠ 0 then fnE (fsOf g) (tsOf g) (isOf g) lo none g.Funcs
 else lsE (fsOf g) lo none g.Entries
theorem M40_L3_eq {F : Nat} (k : SetM → Option Treach_checker) : ∀ (l : List TFunc) (m : SetM), M40_L3 F k l m = k (sset m (l.map (·.Name)))
 | [], m => rfl
 | x :: l, m => by rw [M40_L3, M40_L3_eq k l]; rfl
theorem M40_L2_eq {F : Nat} (k : SetM → Option Treach_checker) : ∀ (l : List TType) (m : SetM), M40_L2 F k l m = k (sset m (l.map (·.Name)))
 | [], m => rfl
 | x :: l, m => by rw [M40_L2, M40_L2_eq k l]; rfl
theorem M40_L1_eq {F : Nat} (k : List (Tx × TIface) → Option Treach_checker) : ∀ (l : List TIface) (m : List (Tx × TIface)), M40_L1 F k l m = k (ifm m l)
 | [], m => rfl
 | x :: l, m => by rw [M40_L1, M40_L1_eq k l]; rfl
def kOf (g : TGraph) (lo : Bool) : Treach_checker := Treach_checker.mk lo (ifm [] g.Ifaces) (sset [] (g.Types.map (·.Name))) (sset [] (g.Funcs.map (·.Name)))
theorem M40_eq (F : Nat) (g : TGraph) (lo : Bool) : M40 F g lo = some (kOf g lo) := by
 unfold M40
 simp only [jn_def, M40_L1_eq, M40_L2_eq, M40_L3_eq]
 rfl
def pz (n : Int) (p : Option Tx) (s : Tx) : Prop := match p with | none => n = 0 | some b => n > 0 ∧ s = b
theorem nmd_pz {n : Int} {p : Option Tx} {s x : Tx} (h : pz n p s) : nmd x s (n == 0) = nme x p := by
 cases p with
 | none => have h : n = 0 := h; subst h; exact nmd_first x s
 | some b =>
  obtain ⟨h1, h2⟩ := h
  subst h2
  rw [show (n == 0) = false by simp; omega]; exact nmd_next x s
theorem M52_L2_eq (F : Nat) (k : Option Int) : ∀ (l : List Tx) (n : Int) (s : Tx) (p : Option Tx), (∀ x, x ∈ l → x.length ≤ maxLen) → 0 ≤ n → pz n p s → M52_L2 F k l n s = if methE p l ≠ 0 then some (methE p l) else k
 | [], n, s, p, _, _, _ => by simp [M52_L2, methE]
 | x :: l, n, s, p, hx, hn, hp => by
  rw [M52_L2, M42_eq F x s _ (hx x (by simp)), Option.bind_some, nmd_pz hp, methE]
  by_cases h : nme x p = 0
  ·simp only [h, bne_self_eq_false, Bool.false_eq_true, ne_eq, not_true_eq_false, if_false]
   exact M52_L2_eq F k l (n + 1) x (some x) (fun y hy => hx y (List.mem_cons_of_mem _ hy)) (by omega) ⟨by omega, rfl⟩
  ·rw [if_pos (by simpa using h), if_pos h, if_pos h]
theorem M52_L1_eq (F : Nat) (k : Option Int) : ∀ (l : List TIface) (n : Int) (s : Tx) (p : Option Tx), (∀ x, x ∈ l → okTIface x) → 0 ≤ n → pz n p s → M52_L1 F k l n s = if ifE p l ≠ 0 then some (ifE p l) else k
 | [], n, s, p, _, _, _ => by simp [M52_L1, ifE]
 | x :: l, n, s, p, hx, hn, hp => by
  obtain ⟨o1, ⟨o2, _⟩, _⟩ := hx x (by simp)
  rw [M52_L1]
  simp only [jn_def]
  rw [M42_eq F x.Name s _ o1, Option.bind_some, nmd_pz hp, ifE]
  by_cases h : nme x.Name p = 0
  ·simp only [h, bne_self_eq_false, Bool.false_eq_true, ne_eq, not_true_eq_false, if_false]
   by_cases h1 : x.Methods = []
   ·rw [if_pos (by simp [h1]), if_pos h1]; simp
   ·rw [if_neg (by simpa using h1), if_neg h1]
    by_cases h2 : 200 < x.Methods.length
    ·rw [if_t (by omega), if_pos h2]; simp
    ·rw [if_f (by omega), if_neg h2, M52_L2_eq F _ _ 0 [] none o2 (by omega) rfl]
     by_cases h3 : methE none x.Methods = 0
     ·simp only [h3, bne_self_eq_false, Bool.false_eq_true, ne_eq, not_true_eq_false, if_false]
      exact M52_L1_eq F k l (n + 1) x.Name (some x.Name) (fun y hy => hx y (List.mem_cons_of_mem _ hy)) (by omega) ⟨by omega, rfl⟩
     ·rw [if_pos h3, if_pos h3, if_pos h3]
  ·rw [if_pos (by simpa using h), if_pos h, if_pos h]
theorem M53_L2_eq (F : Nat) (a : Treach_checker) (fs : Tx → Bool) (hf : ∀ x, (mget a.funcs x).getD false = fs x) (k : Option Int) : ∀ (l : List TMethod) (n : Int) (s : Tx) (p : Option Tx), (∀ x, x ∈ l → x.Name.length ≤ maxLen) → 0 ≤ n → pz n p s → M53_L2 F a k l n s = if mtE fs a.loose p l ≠ 0 then some (mtE fs a.loose p l) else k
 | [], n, s, p, _, _, _ => by simp [M53_L2, mtE]
 | x :: l, n, s, p, hx, hn, hp => by
  have ih := M53_L2_eq F a fs hf k l (n + 1) x.Name (some x.Name) (fun y hy => hx y (List.mem_cons_of_mem _ hy)) (by omega) ⟨by omega, rfl⟩
  rw [M53_L2]
  simp only [jn_def]
  rw [M42_eq F x.Name s _ (hx x (by simp)), Option.bind_some, nmd_pz hp, mtE, ih, hf]
  by_cases h : nme x.Name p = 0
  ·simp only [h, bne_self_eq_false, Bool.false_eq_true, ne_eq, not_true_eq_false, if_false]
   cases a.loose <;> cases fs x.Func <;> simp
  ·rw [if_pos (by simpa using h), if_pos h, if_pos h]
theorem M53_L1_eq (F : Nat) (a : Treach_checker) (fs : Tx → Bool) (hf : ∀ x, (mget a.funcs x).getD false = fs x) (k : Option Int) : ∀ (l : List TType) (n : Int) (s : Tx) (p : Option Tx), (∀ x, x ∈ l → okTType x) → 0 ≤ n → pz n p s → M53_L1 F a k l n s = if tyE fs a.loose p l ≠ 0 then some (tyE fs a.loose p l) else k
 | [], n, s, p, _, _, _ => by simp [M53_L1, tyE]
 | x :: l, n, s, p, hx, hn, hp => by
  obtain ⟨o1, ⟨o2, _⟩, _⟩ := hx x (by simp)
  rw [M53_L1]
  simp only [jn_def]
  rw [M42_eq F x.Name s _ o1, Option.bind_some, nmd_pz hp, tyE]
  by_cases h : nme x.Name p = 0
  ·simp only [h, bne_self_eq_false, Bool.false_eq_true, ne_eq, not_true_eq_false, if_false]
   by_cases h2 : 200 < x.Methods.length
   ·rw [if_t (by omega), if_pos h2]; simp
   ·rw [if_f (by omega), if_neg h2, M53_L2_eq F a fs hf _ _ 0 [] none (fun y hy => (o2 y hy).1) (by omega) rfl]
    by_cases h3 : mtE fs a.loose none x.Methods = 0
    ·simp only [h3, bne_self_eq_false, Bool.false_eq_true, ne_eq, not_true_eq_false, if_false]
     exact M53_L1_eq F a fs hf k l (n + 1) x.Name (some x.Name) (fun y hy => hx y (List.mem_cons_of_mem _ hy)) (by omega) ⟨by omega, rfl⟩
    ·rw [if_pos h3, if_pos h3, if_pos h3]
  ·rw [if_pos (by simpa using h), if_pos h, if_pos h]
theorem M9_eq (F : Nat) (l : List Tx) (x : Tx) : M9 F l x = some (l.contains x) := by
 unfold M9 M19
 rw [jn_def]
 have := idxL (g := M19_L1 F x (some (-1))) (fun y : Tx => x == y) (fun _ => rfl) (fun y l n => by rw [M19_L1]) l 0
 rw [show ((0 : Nat) : Int) = 0 from rfl] at this
 rw [this]
 have e : (l.any fun y => x == y) = l.contains x := by rw [List.contains_eq_any_beq]
 rw [e]
 cases l.contains x
 ·rfl
 ·simp
theorem M61_eq (F : Nat) (a : Treach_checker) (fs : Tx → Bool) (is : Tx → Option (List Tx)) (hf : ∀ x, (mget a.funcs x).getD false = fs x) (hi : ∀ x, (mget a.ifaces x).map (·.Methods) = is x) (c : TCall) (hc : c.Feature.length ≤ maxLen) : M61 F a c = some (clE fs is a.loose c) := by
 unfold M61 clE
 rw [jn_def, M56_eq F _ hc, ← hi, hf]
 simp only [Option.bind_some, M9_eq]
 have tail : (if (!(c.Feature == ([] : Tx))) = true then if (!nm c.Feature) = true then some (8 : Int) else some 0 else some 0) = some (if c.Feature ≠ [] ∧ nm c.Feature = false then 8 else 0) := by
  by_cases h1 : c.Feature = [] <;> cases h2 : nm c.Feature <;> simp [h1]
 rw [tail]
 by_cases k1 : c.Kind = 1
 ·rw [if_pos (by simp [k1]), if_pos k1]
  by_cases k3 : c.Method = [] <;> cases a.loose <;> cases fs c.Target <;> simp [k3]
 ·rw [if_neg (by simpa using k1), if_neg k1]
  by_cases k2 : c.Kind = 2
  ·rw [if_pos (by simp [k2]), if_pos k2]
   cases hm : mget a.ifaces c.Target with
   | none => cases a.loose <;> simp
   | some x =>
    cases a.loose
    ·cases hcc : x.Methods.contains c.Method <;> simp [hcc] <;> simp_all
    ·simp
  ·rw [if_neg (by simpa using k2), if_neg k2]
theorem M54_L2_eq (F : Nat) (a : Treach_checker) (fs : Tx → Bool) (is : Tx → Option (List Tx)) (hf : ∀ x, (mget a.funcs x).getD false = fs x) (hi : ∀ x, (mget a.ifaces x).map (·.Methods) = is x) (k : Option Int) : ∀ (l : List TCall), (∀ c, c ∈ l → c.Feature.length ≤ maxLen) → M54_L2 F a k l = if csE fs is a.loose l ≠ 0 then some (csE fs is a.loose l) else k
 | [], _ => by simp [M54_L2, csE]
 | c :: l, h => by
  rw [M54_L2, M61_eq F a fs is hf hi c (h c (by simp)), Option.bind_some, csE, M54_L2_eq F a fs is hf hi k l (fun c hc => h c (List.mem_cons_of_mem _ hc))]
  by_cases h1 : clE fs is a.loose c = 0
  ·simp only [h1, bne_self_eq_false, Bool.false_eq_true, ne_eq, not_true_eq_false, if_false]
  ·rw [if_pos (by simpa using h1), if_pos h1, if_pos h1]
theorem drop_at {α : Type} {a l : List α} {x : α} {n : Nat} (h : a.drop n = x :: l) : ∃ hn : n < a.length, a[n] = x ∧ a.drop (n + 1) = l := by
 have hn : n < a.length := by
  rcases Nat.lt_or_ge n a.length with h2 | h2
  ·exact h2
  ·rw [List.drop_eq_nil_of_le h2] at h; simp at h
 rw [List.drop_eq_getElem_cons hn] at h
 simp only [List.cons.injEq] at h
 exact ⟨hn, h.1, h.2⟩
theorem prev_idx {α : Type} {a : List α} {n : Nat} (hn : n < a.length) (h0 : n ≠ 0) (hb : a.length ≤ maxLen) : ∃ h : n - 1 < a.length, idx a (w64 ((n : Int) - 1)) = some a[n - 1] := by
 have hb' : a.length ≤ 9223372036854775807 := hb
 refine ⟨by omega, ?_⟩
 rw [w64_id (by omega) (by omega), show (n : Int) - 1 = ((n - 1 : Nat) : Int) by omega]
 exact idx_nat _
def prv (a : List Tx) (n : Nat) : Option Tx := if n = 0 then none else a[n - 1]?
theorem prv_zero (a : List Tx) : prv a 0 = none := rfl
theorem prv_next {a : List Tx} {x : Tx} {n : Nat} (hn : n < a.length) (hx : a[n] = x) : prv a (n + 1) = some x := by
 unfold prv
 rw [if_neg (by omega), Nat.add_sub_cancel, List.getElem?_eq_getElem hn, hx]
theorem prv_some {a : List Tx} {n : Nat} (hn : n < a.length) (h0 : n ≠ 0) : ∃ h : n - 1 < a.length, prv a n = some a[n - 1] := by
 refine ⟨by omega, ?_⟩
 unfold prv
 rw [if_neg h0, List.getElem?_eq_getElem (by omega)]
theorem M55_L1_eq (F : Nat) (a : Treach_checker) (a2 : List Tx) (a3 : SetM) (ha : a2.length ≤ maxLen) (k : Option Int) : ∀ (l : List Tx) (n : Nat), a2.drop n = l → M55_L1 F a a2 a3 k l n = if lsE (has a3) a.loose (prv a2 n) l ≠ 0 then some (lsE (has a3) a.loose (prv a2 n) l) else k
 | [], n, _ => by simp [M55_L1, lsE]
 | x :: l, n, hd => by
  obtain ⟨hn, hx, hl⟩ := drop_at hd
  have ih := M55_L1_eq F a a2 a3 ha k l (n + 1) hl
  rw [prv_next hn hx, show ((n + 1 : Nat) : Int) = (n : Int) + 1 from rfl] at ih
  rw [M55_L1]
  simp only [jn_def]
  rw [ih, lsE]
  have e : (mget a3 x).getD false = has a3 x := rfl
  rw [e]
  by_cases h0 : n = 0
  ·subst h0
   rw [prv_zero]
   cases a.loose <;> cases has a3 x <;> simp
  ·obtain ⟨_, e1⟩ := prev_idx hn h0 ha
   obtain ⟨_, e2⟩ := prv_some hn h0
   rw [if_t (show (n : Int) > 0 by omega), e1, e2]
   simp only [Option.bind_some, Option.elim_some]
   have e3 : (Op.bytesLess x a2[n - 1] || x == a2[n - 1]) = le x a2[n - 1] := rfl
   rw [e3]
   cases a.loose <;> cases has a3 x <;> by_cases hc : le x a2[n - 1] = true <;> simp [hc]
theorem M55_eq (F : Nat) (a : Treach_checker) (a2 : List Tx) (a3 : SetM) (ha : a2.length ≤ maxLen) : M55 F a a2 a3 = some (lsE (has a3) a.loose none a2) := by
 unfold M55
 rw [jn_def]
 have := M55_L1_eq F a a2 a3 ha (some 0) a2 0 rfl
 rw [show ((0 : Nat) : Int) = 0 from rfl, prv_zero] at this
 rw [this]
 split
 ·rfl
 ·rename_i h; simp only [ne_eq, Decidable.not_not] at h; rw [h]
theorem M54_L1_eq (F : Nat) (a : Treach_checker) (fs ts : Tx → Bool) (is : Tx → Option (List Tx)) (hf : ∀ x, (mget a.funcs x).getD false = fs x) (hi : ∀ x, (mget a.ifaces x).map (·.Methods) = is x) (ht : has a.types = ts) (k : Option Int) :
  ∀ (l : List TFunc) (n : Int) (s : Tx) (p : Option Tx), (∀ x, x ∈ l → okTFunc x) → 0 ≤ n → pz n p s → M54_L1 F a k l n s = if fnE fs ts is a.loose p l ≠ 0 then some (fnE fs ts is a.loose p l) else k
 | [], n, s, p, _, _, _ => by simp [M54_L1, fnE]
 | x :: l, n, s, p, hx, hn, hp => by
  obtain ⟨o1, o2, ⟨o3, _⟩, ⟨_, o4⟩, _⟩ := hx x (by simp)
  rw [M54_L1]
  simp only [jn_def]
  rw [M42_eq F x.Name s _ o1, Option.bind_some, nmd_pz hp, fnE]
  by_cases h : nme x.Name p = 0
  ·simp only [h, bne_self_eq_false, Bool.false_eq_true, ne_eq, not_true_eq_false, if_false]
   rw [M56_eq F _ o2, Option.bind_some]
   by_cases h1 : nm x.Component = false
   ·rw [if_pos (by simp [h1]), if_pos h1]; simp
   ·rw [if_neg (by simpa using h1), if_neg h1]
    by_cases h2 : 200 < x.Calls.length
    ·rw [if_t (by omega), if_pos h2]; simp
    ·rw [if_f (by omega), if_neg h2, M54_L2_eq F a fs is hf hi _ _ (fun c hc => (o3 c hc).2.2.2.1)]
     by_cases h3 : csE fs is a.loose x.Calls = 0
     ·simp only [h3, bne_self_eq_false, Bool.false_eq_true, ne_eq, not_true_eq_false, if_false]
      rw [M55_eq F a _ _ o4, Option.bind_some, ht]
      by_cases h4 : lsE ts a.loose none x.Makes = 0
      ·simp only [h4, bne_self_eq_false, Bool.false_eq_true, ne_eq, not_true_eq_false, if_false]
       exact M54_L1_eq F a fs ts is hf hi ht k l (n + 1) x.Name (some x.Name) (fun y hy => hx y (List.mem_cons_of_mem _ hy)) (by omega) ⟨by omega, rfl⟩
      ·rw [if_pos (by simpa using h4), if_pos h4, if_pos h4]
     ·rw [if_pos h3, if_pos h3, if_pos h3]
  ·rw [if_pos (by simpa using h), if_pos h, if_pos h]
theorem orz {n : Int} : (if n ≠ 0 then some n else some 0) = some n := by split <;> simp_all
theorem M41_eq (F : Nat) (g : TGraph) (lo : Bool) (h : okTGraph g) : M41 F (kOf g lo) g = some (chk lo g) := by
 obtain ⟨⟨o1, _⟩, ⟨o2, _⟩, ⟨o3, _⟩, ⟨_, o4⟩, _⟩ := h
 have hf : ∀ x, (mget (kOf g lo).funcs x).getD false = fsOf g x := fun x => has_set x _
 have ht : has (kOf g lo).types = tsOf g := funext fun x => has_set x _
 have hi : ∀ x, (mget (kOf g lo).ifaces x).map (·.Methods) = isOf g x := fun x => rfl
 have hf' : has (kOf g lo).funcs = fsOf g := funext fun x => has_set x _
 unfold M41 chk M52 M53 M54
 simp only [jn_def]
 rw [M52_L1_eq F _ _ 0 [] none o1 (by omega) rfl, M53_L1_eq F _ _ hf _ _ 0 [] none o2 (by omega) rfl, M54_L1_eq F _ _ _ _ hf hi ht _ _ 0 [] none o3 (by omega) rfl, orz, orz, orz, M55_eq F _ _ _ o4, hf', show (kOf g lo).loose = lo from rfl]
 simp only [Option.bind_some]
 by_cases h1 : 200 < g.Ifaces.length
 ·rw [if_t (by omega), if_pos h1]
 rw [if_f (by omega), if_neg h1]
 by_cases h2 : 500 < g.Types.length
 ·rw [if_t (by omega), if_pos h2]
 rw [if_f (by omega), if_neg h2]
 by_cases h3 : 3000 < g.Funcs.length
 ·rw [if_t (by omega), if_pos h3]
 rw [if_f (by omega), if_neg h3]
 refine ite2 ne0 (fun _ => rfl) (fun _ => ite2 ne0 (fun _ => rfl) (fun _ => ite2 ne0 (fun _ => rfl) (fun _ => rfl)))
theorem M29_eq (F : Nat) (g : TGraph) (h : okTGraph g) : M29 F g = some (chk false g) := by
 unfold M29
 rw [M40_eq, Option.bind_some, M41_eq F g false h]; rfl
end Go.Proofs.Ytcbkgdagiccfmaa
