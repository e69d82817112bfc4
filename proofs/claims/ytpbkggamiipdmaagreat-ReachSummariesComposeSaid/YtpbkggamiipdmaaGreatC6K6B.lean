/- Part of the proof: XR, ZC6OrdA, K, ZC6O, K6A, K6B. -/
import Derived.Test.YtpbkggamiipdmaaGreatC6PvX
import Derived.Test.YtpbkggamiipdmaaGreatC6ZC
import Derived.Test.YtpbkggamiipdmaaGreatC6PvU
import Derived.WideKeyArgs
import Derived.Deep.Slices
import Derived.ProofKit
import Derived.OpenShut
import Derived.JoinedCond
import Derived.Test.YtpbkggamiipdmaaGreatC6ZC6T
import Derived.KernelRfl
namespace Go.Pv
open Go
set_option linter.unusedVariables false
set_option linter.unusedSimpArgs false
theorem leT_total (a b : List UInt8) : (leT a b || leT b a) = true := by
 unfold leT
 rcases bl_tri a b with h | h | h
 ·simp [q9n h]
 ·subst h; simp [q5m]
 ·simp [q9n h]
theorem leT_anti {a b : List UInt8} (h : leT a b = true) (h' : leT b a = true) : a = b := by
 unfold leT at h h'
 rcases bl_tri a b with g | g | g
 ·simp [g] at h'
 ·exact g
 ·simp [g] at h
theorem leT_trans (a b c : List UInt8) (h : leT a b = true) (h' : leT b c = true) : leT a c = true := by
 unfold leT at *
 rcases bl_tri a b with g | g | g
 ·rcases bl_tri b c with k | k | k
  ·simp [q9n (q9k g k)]
  ·subst k; simp [q9n g]
  ·simp [k] at h'
 ·subst g; exact h'
 ·simp [g] at h
theorem lt_of_leT {a b : List UInt8} (h : leT a b = true) (hne : a ≠ b) : Op.bytesLess a b = true := by
 rcases bl_tri a b with g | g | g
 ·exact g
 ·exact absurd g hne
 ·simp [leT, g] at h
theorem nodup_lt {l : List (List UInt8)} (h : l.Pairwise (fun a b => Op.bytesLess a b = true)) : l.Nodup := h.imp bl_ne
theorem lt_of_sorted {l : List (List UInt8)} (h : l.Pairwise (fun a b => leT a b = true)) (hn : l.Nodup) : l.Pairwise (fun a b => Op.bytesLess a b = true) := by
 induction l with
 | nil => exact .nil
 | cons x l ih =>
  rw [List.pairwise_cons] at h ⊢
  rw [List.nodup_cons] at hn
  exact ⟨fun y hy => lt_of_leT (h.1 y hy) (fun e => hn.1 (by rw [e]; exact hy)), ih h.2 hn.2⟩
theorem rise_ext {l l' : List (List UInt8)} (h : l.Pairwise (fun a b => Op.bytesLess a b = true)) (h' : l'.Pairwise (fun a b => Op.bytesLess a b = true)) (hm : ∀ x, x ∈ l ↔ x ∈ l') : l = l' :=
 List.Perm.eq_of_pairwise (le := fun a b => Op.bytesLess a b = true) (fun _ _ _ _ g g' => by rw [q9n g] at g'; simp at g') h h' ((List.perm_ext_iff_of_nodup (nodup_lt h) (nodup_lt h')).2 hm)
def srtT (l : List (List UInt8)) : List (List UInt8) := l.mergeSort leT
theorem q3k (l : List (List UInt8)) : (srtT l).Perm l := List.mergeSort_perm _ _
theorem srtT_srt (l : List (List UInt8)) : (srtT l).Pairwise (fun a b => leT a b = true) := List.pairwise_mergeSort leT_trans leT_total l
theorem srt_uniq {l l' : List (List UInt8)} (h : l.Pairwise (fun a b => leT a b = true)) (h' : l'.Pairwise (fun a b => leT a b = true)) (hp : l.Perm l') : l = l' :=
 List.Perm.eq_of_pairwise (le := fun a b => leT a b = true) (fun a b _ _ g g' => leT_anti g g') h h' hp
theorem srtT_congr {l l' : List (List UInt8)} (h : l.Perm l') : srtT l = srtT l' := srt_uniq (srtT_srt l) (srtT_srt l') ((q3k l).trans (h.trans (q3k l').symm))
theorem merge_srtT (a b : List (List UInt8)) : List.merge (srtT a) (srtT b) leT = srtT (a ++ b) :=
 srt_uniq (List.pairwise_merge leT_trans leT_total _ _ (srtT_srt a) (srtT_srt b)) (srtT_srt _) ((List.merge_perm_append _).trans (((q3k a).append (q3k b)).trans (q3k _).symm))
theorem bl_lt (a b : List UInt8) : (a < b) ↔ Op.bytesLess a b = true := by
 induction a generalizing b with
 | nil => cases b <;> simp [Op.bytesLess]
 | cons x a ih =>
  cases b with
  | nil => simp [Op.bytesLess]
  | cons y b => rw [bl_cons, List.cons_lt_cons_iff, ih]; simp
theorem le_leT (a b : List UInt8) : decide (a ≤ b) = leT a b := by
 unfold leT
 rw [← Bool.not_inj_iff, Bool.not_not]
 cases h : Op.bytesLess b a
 ·simp only [Bool.not_eq_eq_eq_not, Bool.not_false, decide_eq_true_eq]
  exact fun hh => by rw [(bl_lt b a).1 hh] at h; simp at h
 ·simp only [Bool.not_eq_eq_eq_not, Bool.not_true, decide_eq_false_iff_not]
  exact fun hh => hh ((bl_lt b a).2 h)
theorem tsort_eq (l : List (List UInt8)) : tsort l = srtT l := by
 unfold tsort srtT
 congr 1
 funext a b
 exact le_leT a b
end Go.Pv
namespace Go.Proofs.YtpbkggamiipdmaaGreat
open Go Go.Pv
set_option linter.unusedVariables false
def linksN (n : q6b) (x : List UInt8) : List q1a := (mget n.links x).getD []
def funcN (n : q6b) (x : List UInt8) : TFunc := (mget n.funcs x).getD (TFunc.mk [] [] [] [])
theorem leB (a b : List UInt8) : (Op.bytesLess a b || a == b) = leT a b := by
 have := bl_gt a b
 unfold leT
 rw [← this, Bool.not_not]
theorem M161_L1_eq (F : Nat) (k : List (List UInt8) → Option (List (List UInt8))) : ∀ (n : Nat) (a b o : List (List UInt8)),
  q7k F k n a b o = if a.length + b.length < n ∧ (a.length + b.length = 0 ∨ (o.length + a.length + b.length) * 16 ≤ 140737488355328) then k (o ++ List.merge a b leT) else none
 | 0, a, b, o => by simp [q7k]
 | n + 1, [], [], o => by simp [q7k]
 | n + 1, [], y :: b, o => by
  rw [q7k]
  have e : idx (y :: b) 0 = some y := q7g (xs := y :: b) (j := 0) (by simp)
  rw [if_neg (by simp), if_pos (by simp), if_neg (by simp; omega), e, Option.bind_some]
  by_cases h : (o ++ [y]).length * 16 ≤ 140737488355328
  ·rw [if_pos h, if_pos (by simp), M161_L1_eq F k n]
   simp only [List.length_append, List.length_cons, List.length_nil, List.drop_one, List.tail_cons] at h ⊢
   by_cases h2 : 0 + b.length < n ∧ (0 + b.length = 0 ∨ (o.length + (0 + 1) + 0 + b.length) * 16 ≤ 140737488355328)
   ·rw [if_pos h2, if_pos (by omega)]; simp
   ·rw [if_neg h2, if_neg (by omega)]
  ·rw [if_neg h, if_neg (by simp at h ⊢; omega)]
 | n + 1, x :: a, [], o => by
  rw [q7k]
  have e : idx (x :: a) 0 = some x := q7g (xs := x :: a) (j := 0) (by simp)
  rw [if_pos (by simp), if_pos (by simp), e, Option.bind_some]
  by_cases h : (o ++ [x]).length * 16 ≤ 140737488355328
  ·rw [if_pos h, if_pos (by simp), M161_L1_eq F k n]
   simp only [List.length_append, List.length_cons, List.length_nil, List.drop_one, List.tail_cons] at h ⊢
   by_cases h2 : a.length + 0 < n ∧ (a.length + 0 = 0 ∨ (o.length + (0 + 1) + a.length + 0) * 16 ≤ 140737488355328)
   ·rw [if_pos h2, if_pos (by omega)]; simp [List.merge_right]
   ·rw [if_neg h2, if_neg (by omega)]
  ·rw [if_neg h, if_neg (by simp at h ⊢; omega)]
 | n + 1, x :: a, y :: b, o => by
  rw [q7k]
  have e : idx (x :: a) 0 = some x := q7g (xs := x :: a) (j := 0) (by simp)
  have e' : idx (y :: b) 0 = some y := q7g (xs := y :: b) (j := 0) (by simp)
  rw [if_pos (by simp), if_neg (by simp; omega), e, Option.bind_some, e', Option.bind_some, q6d, leB, Option.bind_some, Option.bind_some]
  by_cases hxy : leT x y = true
  ·rw [if_pos hxy]
   by_cases h : (o ++ [x]).length * 16 ≤ 140737488355328
   ·rw [if_pos h, if_pos (by simp), show (fun l28 l29 l30 => q7k F k n l28 l29 l30) = q7k F k n from rfl, M161_L1_eq F k n, List.cons_merge_cons_pos _ _ _ hxy]
    simp only [List.length_append, List.length_cons, List.length_nil, List.drop_one, List.tail_cons] at h ⊢
    by_cases h2 : a.length + (b.length + 1) < n ∧ (a.length + (b.length + 1) = 0 ∨ (o.length + (0 + 1) + a.length + (b.length + 1)) * 16 ≤ 140737488355328)
    ·rw [if_pos h2, if_pos (by omega)]; simp
    ·rw [if_neg h2, if_neg (by omega)]
   ·rw [if_neg h, if_neg (by simp at h ⊢; omega)]
  ·rw [if_neg hxy]
   by_cases h : (o ++ [y]).length * 16 ≤ 140737488355328
   ·rw [if_pos h, if_pos (by simp), show (fun l28 l29 l30 => q7k F k n l28 l29 l30) = q7k F k n from rfl, M161_L1_eq F k n, List.cons_merge_cons_neg _ _ _ hxy]
    simp only [List.length_append, List.length_cons, List.length_nil, List.drop_one, List.tail_cons] at h ⊢
    by_cases h2 : (a.length + 1) + b.length < n ∧ ((a.length + 1) + b.length = 0 ∨ (o.length + (0 + 1) + (a.length + 1) + b.length) * 16 ≤ 140737488355328)
    ·rw [if_pos h2, if_pos (by omega)]; simp
    ·rw [if_neg h2, if_neg (by omega)]
   ·rw [if_neg h, if_neg (by simp at h ⊢; omega)]
def hlf (n : Nat) : Int := w64 (Int.tdiv ((n : Nat) : Int) 2)
def okN : Nat → Nat → Bool
 | 0, _ => false
 | F + 1, n => decide (n < 2) || (decide (0 ≤ hlf n ∧ (hlf n).toNat ≤ n) && (okN F (hlf n).toNat && (okN F (n - (hlf n).toNat) && decide (n < F ∧ n * 16 ≤ 140737488355328))))
theorem srtT_short {l : List (List UInt8)} (h : l.length < 2) : srtT l = l := by
 match l, h with
 | [], _ => simp [srtT]
 | [x], _ => simp [srtT]
theorem M161_eq : ∀ (F : Nat) (l : List (List UInt8)), M161 F l = if okN F l.length = true then some (srtT l) else none
 | 0, l => by simp [M161, okN]
 | F + 1, l => by
  have hh : w64 (Int.tdiv ((l.length : Nat) : Int) 2) = hlf l.length := rfl
  rw [M161, M161_B, okN]
  simp only [hh]
  by_cases h : l.length < 2
  ·rw [if_pos (by simp; omega), if_pos (by simp [h]), srtT_short h]
  ·rw [if_neg (by simp; omega)]
   have hd : decide (l.length < 2) = false := by simp; omega
   rw [hd, Bool.false_or]
   by_cases h2 : 0 ≤ hlf l.length ∧ (hlf l.length).toNat ≤ l.length
   ·rw [if_pos h2, M161_eq F]
    have e1 : (l.take (hlf l.length).toNat).length = (hlf l.length).toNat := by rw [List.length_take]; exact Nat.min_eq_left h2.2
    have e2 : (l.drop (hlf l.length).toNat).length = l.length - (hlf l.length).toNat := by rw [List.length_drop]
    rw [e1]
    simp only [decide_eq_true h2, Bool.true_and]
    by_cases h3 : okN F (hlf l.length).toNat = true
    ·rw [if_pos h3, Option.bind_some, if_pos h2, M161_eq F, e2, h3, Bool.true_and]
     by_cases h4 : okN F (l.length - (hlf l.length).toNat) = true
     ·rw [if_pos h4, Option.bind_some, q6d, M161_L1_eq, h4, Bool.true_and]
      have e3 : (srtT (l.take (hlf l.length).toNat)).length + (srtT (l.drop (hlf l.length).toNat)).length = l.length := by
       rw [(q3k _).length_eq, (q3k _).length_eq, e1, e2]; omega
      by_cases h5 : l.length < F ∧ l.length * 16 ≤ 140737488355328
      ·rw [if_pos ⟨by omega, .inr (by simp; omega)⟩, if_pos (decide_eq_true h5), merge_srtT, List.take_append_drop]; simp
      ·rw [if_neg (fun hh => h5 (by have := hh.2; simp only [List.length_nil] at this; exact ⟨by omega, by omega⟩)), if_neg (by rw [decide_eq_false h5]; simp)]
     ·rw [if_neg h4, Option.bind_none, if_neg (by simp [h4])]
    ·rw [if_neg h3, Option.bind_none, if_neg (by simp [h3])]
   ·rw [if_neg h2, if_neg (by simp only [decide_eq_false h2, Bool.false_and]; simp)]
theorem okN_of : ∀ (d F n : Nat), n < 2 ^ d → n + d + 1 ≤ F → n ≤ 100000 → okN F n = true
 | 0, F, n, h, hF, _ => by
  match F with
  | F + 1 => rw [okN]; simp at h; subst h; simp
 | d + 1, F, n, h, hF, hb => by
  match F with
  | F + 1 =>
   rw [okN]
   by_cases h2 : n < 2
   ·simp [h2]
   ·have e : hlf n = ((n / 2 : Nat) : Int) := by
     unfold hlf
     rw [Int.tdiv_eq_ediv_of_nonneg (by omega), w64_id (by omega) (by omega)]
     omega
    have e2 : (hlf n).toNat = n / 2 := by rw [e]; exact Int.toNat_natCast _
    rw [e2, okN_of d F (n / 2) (by rw [Nat.pow_succ] at h; omega) (by omega) (by omega)]
    by_cases h3 : n - n / 2 < 2 ^ d
    ·rw [okN_of d F (n - n / 2) h3 (by omega) (by omega), e]
     simp; omega
    ·have : n - n / 2 = 2 ^ d := by rw [Nat.pow_succ] at h; omega
     have h4 : n = 2 ^ d + 2 ^ d - 1 := by rw [Nat.pow_succ] at h; omega
     have h5 : 1 ≤ 2 ^ d := Nat.one_le_two_pow
     rw [okN_of (d + 1) F (n - n / 2) (by rw [this, Nat.pow_succ]; omega) (by omega) (by omega), e]
     simp; omega
termination_by d F n => (F, d)
theorem M105_L1_eq (F : Nat) : ∀ (l : List ((List UInt8) × Bool)) (o : List (List UInt8)), M105_L1 F l o = if l.length = 0 ∨ (o.length + l.length) * 16 ≤ 140737488355328 then M161 F (o ++ l.map (·.1)) else none
 | [], o => by
  rw [M105_L1]
  simp only [List.map_nil, List.append_nil, List.length_nil, true_or, if_true]
  cases M161 F o <;> rfl
 | e :: l, o => by
  rw [M105_L1]
  by_cases h : (o ++ [e.1]).length * 16 ≤ 140737488355328
  ·rw [if_pos h, M105_L1_eq F l]
   simp only [List.length_append, List.length_cons, List.length_nil] at h ⊢
   by_cases h2 : l.length = 0 ∨ (o.length + (0 + 1) + l.length) * 16 ≤ 140737488355328
   ·rw [if_pos h2, if_pos (by omega)]; simp
   ·rw [if_neg h2, if_neg (by omega)]
  ·rw [if_neg h, if_neg (by simp at h ⊢; omega)]
theorem ord_M105_L1 {F : Nat} {l l' : List ((List UInt8) × Bool)} {o : List (List UInt8)} {r : List (List UInt8)} (hp : l.Perm l') (h : M105_L1 F l o = some r) : M105_L1 F l' o = some r := by
 rw [← h, M105_L1_eq, M105_L1_eq, hp.length_eq, M161_eq, M161_eq]
 have := (hp.map (·.1)).append_left o
 rw [this.length_eq, srtT_congr this]
end Go.Proofs.YtpbkggamiipdmaaGreat
namespace Go.Pv
open Go Go.ChangeShapes Go.WideShapes
mutual
def bulk {H : Type} : DataW H → Nat
 | .lit (.string bytes) => bytes.length + 1
 | .lit _ => 1
 | .nil => 1
 | .ptr d => bulk d + 1
 | .slice elems spare => bulkAll elems + bulkAll spare + 1
 | .agg parts => bulkAll parts + 1
 | .iface _ d => bulk d + 1
 | .map entries => bulkEnts entries + 1
 | .held _ => 1
def bulkAll {H : Type} : List (DataW H) → Nat
 | [] => 0
 | d :: r => bulk d + bulkAll r
def bulkEnts {H : Type} : List (Lit × DataW H) → Nat
 | [] => 0
 | x :: r => bulkEnt x + bulkEnts r
def bulkEnt {H : Type} : Lit × DataW H → Nat
 | (.string bytes, d) => bytes.length + bulk d + 1
 | (_, d) => bulk d + 1
end
def memOf (w : World) : Mem := fun b => w.heap[b]?
def IRelL (m : Mem) (ds : List V) (cs : List Value) : Prop :=
 ds.length = cs.length ∧ ∀ (i : Nat) (c : V) (v : Value), ds[i]? = some c → cs[i]? = some v → IRel m c v
theorem IRelL.one {m : Mem} {d : V} {c : Value} (h : IRel m d c) : IRelL m [d] [c] :=
 ⟨rfl, fun i d' c' hd hc => by
  match i with
  | 0 => simp at hd hc; subst hd; subst hc; exact h
  | _ + 1 => simp at hd⟩
theorem IRelL.app {m : Mem} {a b : List V} {x y : List Value} (h : IRelL m a x) (h' : IRelL m b y) : IRelL m (a ++ b) (x ++ y) := by
 refine ⟨by simp [h.1, h'.1], fun i c v hc hv => ?_⟩
 by_cases hi : i < a.length
 ·rw [List.getElem?_append_left hi] at hc
  rw [List.getElem?_append_left (by rw [← h.1]; exact hi)] at hv
  exact h.2 i c v hc hv
 ·rw [List.getElem?_append_right (by omega)] at hc
  rw [List.getElem?_append_right (by rw [← h.1]; omega), ← h.1] at hv
  exact h'.2 _ c v hc hv
section
variable {P : Program} {t e : TypeId} {α β : Type}
def wOk {H : Type} (P : Program) (t : TypeId) (d : DataW H) : Prop := (d.weights P t).all (· ≤ reachBytes) = true
def wOks {H : Type} (P : Program) (ts : List TypeId) (ds : List (DataW H)) : Prop := (DataW.weightsEach P ts ds).all (· ≤ reachBytes) = true
theorem wOks_cons {H : Type} {P : Program} {t : TypeId} {ts : List TypeId} {d : DataW H} {ds : List (DataW H)} (h : wOks P (t :: ts) (d :: ds)) : wOk P t d ∧ wOks P ts ds := by
 unfold wOks wOk at *
 rw [DataW.weightsEach, List.all_append, Bool.and_eq_true] at h
 exact h
theorem wAll {H : Type} {P : Program} {e : TypeId} : ∀ (l : List (DataW H)), (DataW.weightsAll P e l).all (· ≤ reachBytes) = true → ∀ d, d ∈ l → wOk P e d
 | [], _, d, hd => by simp at hd
 | x :: l, h, d, hd => by
  rw [DataW.weightsAll, List.all_append, Bool.and_eq_true] at h
  rcases List.mem_cons.1 hd with rfl | hd
  ·exact h.1
  ·exact wAll l h.2 d hd
def Opens (P : Program) (t : TypeId) (e : α → List V) (sz : α → Nat) (ok : α → Prop) : Prop :=
 ∀ {H : Type} (enc : TypeId × Value → H) (w : World) (fuel : Nat) (cs : List Value) (x : DataW H × List MemPlace),
  DataW.trod enc P w 0 (fun _ => true) true fuel t cs = some x → wOk P t x.1 → ∃ a : α, IRelL (memOf w) (e a) cs ∧ sz a ≤ bulk x.1 ∧ ok a
theorem opens_int {k : IntKind} (ht : P.underlying t = some (.int k)) : Opens P t (fun n : Int => [V.con (.int k n)]) (fun _ => 1) (fun n => k.min ≤ n ∧ n ≤ k.max) := by
 intro H enc w fuel cs x h hw
 obtain ⟨n, rfl, rfl, hw'⟩ := DataW.trod_int ht h
 simp only [Lit.wf, Bool.and_eq_true, decide_eq_true_eq] at hw'
 exact ⟨n, IRelL.one (.con _), by simp [bulk], hw'⟩
theorem opens_string (ht : P.underlying t = some .string) : Opens P t (fun s : List UInt8 => [sV s]) (fun s => s.length + 1) (fun s => s.length ≤ maxLen) := by
 intro H enc w fuel cs x h hw
 obtain ⟨s, rfl, rfl, hs⟩ := DataW.trod_string ht h
 refine ⟨s.data.toList, IRelL.one ?_, by simp [bulk], by simpa using hs⟩
 have : str s.data.toList = .string s := by simp [str]
 unfold sV
 rw [this]
 exact .con _
theorem list_of {p : Nat → α → Prop} : ∀ {n : Nat}, (∀ i, i < n → ∃ a, p i a) → ∃ l : List α, l.length = n ∧ ∀ i a, l[i]? = some a → p i a
 | 0, _ => ⟨[], rfl, by simp⟩
 | n + 1, h => by
  obtain ⟨l, hl, hp⟩ := list_of (n := n) fun i hi => h i (by omega)
  obtain ⟨a, ha⟩ := h n (by omega)
  refine ⟨l ++ [a], by simp [hl], fun i b hb => ?_⟩
  by_cases hi : i < l.length
  ·rw [List.getElem?_append_left hi] at hb; exact hp i b hb
  ·rw [List.getElem?_append_right (by omega)] at hb
   have : i - l.length = 0 := by
    have := (List.getElem?_eq_some_iff.1 hb).1
    simp at this; omega
   rw [this] at hb
   simp at hb
   subst hb
   rw [show i = n by omega]; exact ha
theorem bulkAll_map {H : Type} {n : Nat} (D : Nat → DataW H) : bulkAll ((List.range n).map D) = ((List.range n).map fun i => bulk (D i)).sum := by
 generalize List.range n = l
 induction l with
 | nil => rfl
 | cons a l ih => simp [bulkAll, ih]
theorem sum_le {l : List α} {sz : α → Nat} {g : Nat → Nat} (h : ∀ i a, l[i]? = some a → sz a ≤ g i) : (l.map sz).sum ≤ ((List.range l.length).map g).sum := by
 induction l generalizing g with
 | nil => simp
 | cons a l ih =>
  rw [List.length_cons, List.range_succ_eq_map]
  simp only [List.map_cons, List.sum_cons, List.map_map]
  have h0 := h 0 a rfl
  have h1 := ih (g := g ∘ Nat.succ) fun i b hb => h (i + 1) b (by simpa using hb)
  exact Nat.add_le_add h0 h1
theorem opens_slice {k : Nat} {ee : α → List V} {sz : α → Nat} {ok : α → Prop} (ht : P.underlying t = some (.slice e)) (hk : P.cellsOf e = k) (h0 : 0 < k) (he : Opens P e ee sz ok) :
  Opens P t (fun l : List α => [V.lst k (l.map ee)]) (fun l => (l.map sz).sum + 1) (fun l => (∀ a, a ∈ l → ok a) ∧ l.length ≤ maxLen) := by
 intro H enc w fuel cs x h hw
 rcases Deep.open_slice ht h with ⟨rfl, rfl⟩ | ⟨a, len, cap, m, n, D, Pl, rfl, _, hlc, hcm, hm, rfl, hel⟩
 ·exact ⟨[], IRelL.one (.nil _ _ _), by simp [bulk], by simp⟩
 ·simp only [if_true] at hm
  subst hm
  obtain ⟨l, hl, hp⟩ := list_of (n := len) (p := fun i (b : α) => sz b ≤ bulk (D i) ∧ ok b ∧ ∃ cs', w.cells? 0 (a.add (i * P.cellsOf e)) (P.cellsOf e) = some cs' ∧ IRelL (memOf w) (ee b) cs') (by
   intro i hi
   obtain ⟨cs', hc, hd⟩ := hel i (by omega)
   obtain ⟨b, h1, h2, h3⟩ := he _ _ _ _ _ hd (by
    unfold wOk at hw
    rw [DataW.weights] at hw
    simp only [ht, List.all_cons, List.all_append, Bool.and_eq_true] at hw
    exact wAll _ hw.2.1 _ (List.mem_map.2 ⟨i, List.mem_range.2 hi, rfl⟩))
   exact ⟨b, h2, h3, cs', hc, h1⟩)
  refine ⟨l, IRelL.one ?_, ?_, fun b hb => ?_, by omega⟩
  ·by_cases hz : len = 0
   ·subst hz
    have : l = [] := List.length_eq_zero_iff.1 hl
    subst this
    exact .nil _ _ _
   ·have hcell : ∀ i j b, l[i]? = some b → j < k → ∃ v, w.cell? ((a.add (i * k)).add j) = some v ∧ (∃ c, (ee b)[j]? = some c) ∧ ∀ c, (ee b)[j]? = some c → IRel (memOf w) c v := by
     intro i j b hb hj
     obtain ⟨_, _, cs', hc, hr⟩ := hp i b hb
     rw [hk] at hc
     obtain ⟨_, hn, hcs⟩ := World.cells?_some hc
     have hj' : j < cs'.length := by omega
     have hv : cs'[j]? = some cs'[j] := List.getElem?_eq_getElem hj'
     have hj2 : j < (ee b).length := by rw [hr.1]; exact hj'
     exact ⟨cs'[j], (hcs j hj).trans hv, ⟨(ee b)[j], List.getElem?_eq_getElem hj2⟩, fun c hcc => hr.2 j c _ hcc hv⟩
    have hlen : ∀ b, b ∈ l → (ee b).length = k := by
     intro b hb
     obtain ⟨i, hi⟩ := List.mem_iff_getElem?.1 hb
     obtain ⟨_, _, cs', hc, hr⟩ := hp i b hi
     rw [hk] at hc
     rw [hr.1, (World.cells?_some hc).2.1]
    have hb0 : ∃ b, l[0]? = some b := ⟨l[0]'(by omega), List.getElem?_eq_getElem _⟩
    obtain ⟨b0, hb0⟩ := hb0
    obtain ⟨v0, hv0, _⟩ := hcell 0 0 b0 hb0 h0
    have hadd0 : (a.add (0 * k)).add 0 = a := by simp [Addr.add]
    rw [hadd0] at hv0
    unfold World.cell? at hv0
    split at hv0
    case h_2 => simp at hv0
    rename_i arr T fr hblk
    have hsp : a.spot = none := by
     cases hs : a.spot with
     | none => rfl
     | some s => simp [hs] at hv0
    have hget : ∀ i j b, l[i]? = some b → j < k → ∃ v, arr[a.off + (i * k + j)]? = some v ∧ (∃ c, (ee b)[j]? = some c) ∧ ∀ c, (ee b)[j]? = some c → IRel (memOf w) c v := by
     intro i j b hb hj
     obtain ⟨v, hv, hc⟩ := hcell i j b hb hj
     rw [Deep.add_add] at hv
     unfold World.cell? at hv
     have hbk : (a.add (i * k + j)).block = a.block := by unfold Addr.add; split <;> rfl
     have hso : (a.add (i * k + j)).spot = none := by unfold Addr.add; split <;> simp [hsp]
     have hof : (a.add (i * k + j)).off = a.off + (i * k + j) := by unfold Addr.add; split <;> simp [*]
     rw [hbk, hblk] at hv
     simp only [hso, hof] at hv
     exact ⟨v, by simpa using hv, hc⟩
    refine IRel.lst (arr := arr) (T := T) (fr := fr) (fun i => (arr[a.off + i]?).getD undef) hblk hsp (by simpa using hl) hlc (by omega) ?_ ?_ ?_
    ·intro row hrow
     obtain ⟨b, hb, rfl⟩ := List.mem_map.1 hrow
     exact hlen b hb
    ·intro i hi
     rw [List.length_map] at hi
     have hq : i / k < l.length := Nat.div_lt_of_lt_mul (by rw [Nat.mul_comm]; exact hi)
     obtain ⟨v, hv, _⟩ := hget (i / k) (i % k) l[i / k] (List.getElem?_eq_getElem hq) (Nat.mod_lt _ h0)
     have : i / k * k + i % k = i := by rw [Nat.mul_comm]; exact Nat.div_add_mod i k
     rw [this] at hv
     simp [hv]
    ·intro i j row c hrow hc
     rw [List.getElem?_map, Option.map_eq_some_iff] at hrow
     obtain ⟨b, hb, rfl⟩ := hrow
     have hj : j < k := by
      have := (List.getElem?_eq_some_iff.1 hc).1
      rw [hlen b (List.mem_iff_getElem?.2 ⟨i, hb⟩)] at this
      exact this
     obtain ⟨v, hv, _, hcr⟩ := hget i j b hb hj
     simp only [hv, Option.getD_some]
     exact hcr c hc
  ·simp only [bulk]
   rw [bulkAll_map]
   have := sum_le (l := l) (sz := sz) (g := fun i => bulk (D i)) fun i b hb => (hp i b hb).1
   rw [hl] at this
   omega
  ·obtain ⟨i, hi⟩ := List.mem_iff_getElem?.1 hb
   exact (hp i b hi).2.1
def FOpens (P : Program) (N : Nat) (fs : List (TypeId × Nat × Nat)) (off : Nat) (e : α → List V) (sz : α → Nat) (ok : α → Prop) : Prop :=
 ∀ {H : Type} (enc : TypeId × Value → H) (w : World) (n : Nat) (cs : List Value) (xs : List (DataW H × List MemPlace)), cs.length = N → xs.length = fs.length →
  (∀ (i : Nat) (f : TypeId × Nat × Nat), fs[i]? = some f → DataW.trod enc P w 0 (fun _ => true) true n f.1 ((cs.drop f.2.1).take f.2.2) = xs[i]?) →
  wOks P (fs.map (·.1)) (xs.map (·.1)) → ∃ a : α, IRelL (memOf w) (e a) (cs.drop off) ∧ sz a ≤ bulkAll (xs.map (·.1)) ∧ ok a
theorem fopens_nil {N : Nat} : FOpens P N [] N (fun _ : Unit => []) (fun _ => 0) (fun _ => True) := by
 intro H enc w n cs xs hN hx _ _
 refine ⟨(), ?_, by simp, trivial⟩
 rw [← hN]
 simp [IRelL]
theorem q6f {N k off : Nat} {ft : TypeId} {fs : List (TypeId × Nat × Nat)} {ea : α → List V} {eb : β → List V} {sa : α → Nat} {sb : β → Nat} {oa : α → Prop} {ob : β → Prop}
  (h : Opens P ft ea sa oa) (hr : FOpens P N fs (off + k) eb sb ob) : FOpens P N ((ft, off, k) :: fs) off (fun p : α × β => ea p.1 ++ eb p.2) (fun p => sa p.1 + sb p.2) (fun p => oa p.1 ∧ ob p.2) := by
 intro H enc w n cs xs hN hx hf hw
 match xs, hx with
 | x :: xs, hx =>
  have h1 := hf 0 _ rfl
  simp only [List.getElem?_cons_zero] at h1
  have hw' := wOks_cons hw
  obtain ⟨a, ha, hs, ho⟩ := h enc w n _ x h1 hw'.1
  have hb' := hr enc w n cs xs hN (by simpa using hx) fun i f hi => by
   have := hf (i + 1) f (by simpa using hi)
   simpa using this
  obtain ⟨b, hb, hs', ho'⟩ := hb' hw'.2
  refine ⟨(a, b), ?_, by simp only [List.map_cons, bulkAll]; omega, ho, ho'⟩
  have := ha.app hb
  rw [show (cs.drop off).take k ++ cs.drop (off + k) = cs.drop off by rw [← List.drop_drop]; exact List.take_append_drop _ _] at this
  exact this
def fieldsOf (P : Program) (t : TypeId) : Option (List (TypeId × Nat × Nat)) :=
 match P.underlying t with
 | some (.struct fs) => some (fs.toList.map fun f => (f.type, f.offset, P.cellsOf f.type))
 | _ => none
theorem q0n {N : Nat} {fs : List (TypeId × Nat × Nat)} {e : α → List V} {sz : α → Nat} {ok : α → Prop} (ht : fieldsOf P t = some fs) (hN : P.cellsOf t = N) (h : FOpens P N fs 0 e sz ok) :
  Opens P t e (fun a => sz a + 1) ok := by
 intro H enc w fuel cs x hx hw
 unfold fieldsOf at ht
 split at ht
 case h_2 => simp at ht
 rename_i gs hu
 simp only [Option.some.injEq] at ht
 subst ht
 obtain ⟨xs, n, _, rfl, hl, hxl, hf⟩ := DataW.trod_struct hu hx
 have ha' := h enc w n cs xs (hl.trans hN) (by simpa using hxl) fun i f hi => by
  rw [List.getElem?_map, Option.map_eq_some_iff] at hi
  obtain ⟨g, hg, rfl⟩ := hi
  exact hf i g (by simpa using hg)
 obtain ⟨a, h1, h2, h3⟩ := ha' (by
  unfold wOk at hw
  rw [DataW.weights] at hw
  simp only [hu] at hw
  unfold wOks
  rw [List.map_map]
  exact hw)
 exact ⟨a, by simpa using h1, by simp only [bulk]; omega, h3⟩
theorem opens_map {ea : α → List V} {eb : β → List V} {sa : α → Nat} {sb : β → Nat} {oa : α → Prop} {ob : β → Prop} (h : Opens P t ea sa oa) (g : α → β)
  (he : ∀ a, eb (g a) = ea a) (hs : ∀ a, sb (g a) = sa a) (ho : ∀ a, oa a → ob (g a)) : Opens P t eb sb ob := by
 intro H enc w fuel cs x hx hw
 obtain ⟨a, h1, h2, h3⟩ := h enc w fuel cs x hx hw
 exact ⟨g a, by rw [he]; exact h1, by rw [hs]; exact h2, ho a h3⟩
def OpensV (P : Program) (t : TypeId) (e : α → V) (sz : α → Nat) (ok : α → Prop) : Prop :=
 ∀ {H : Type} (enc : TypeId × Value → H) (w : World) (base : Nat) (v : Value) (d : DataW H) (p : List MemPlace),
  Value.okWide P w .any base t v → DataW.Trod enc P w 0 (fun _ => true) true t v d p → wOk P t d → ∃ a : α, IRel (memOf w) (e a) v ∧ sz a ≤ bulk d ∧ ok a
theorem opensV_agg {fs : List (TypeId × Nat × Nat)} {e : α → List V} {sz : α → Nat} {ok : α → Prop} (ht : fieldsOf P t = some fs) (h : Opens P t e sz ok) : OpensV P t (fun a => .agg (e a)) sz ok := by
 intro H enc w base v d p hv ⟨n, hd⟩ hw
 unfold fieldsOf at ht
 split at ht
 case h_2 => simp at ht
 rename_i gs hu
 obtain ⟨cs, rfl, _⟩ := okWide_struct hu hv
 obtain ⟨a, h1, h2, h3⟩ := h enc w n _ _ hd hw
 exact ⟨a, .agg (by simpa [Value.cells] using h1.1) (fun i c v' hc hv' => h1.2 i c v' hc (by simpa [Value.cells] using hv')), h2, h3⟩
def cellKind (P : Program) (t : TypeId) : Bool :=
 match P.underlying t with
 | some (.int _) | some .bool | some .string | some (.slice _) => true
 | _ => false
theorem opensV_cell {e : α → V} {sz : α → Nat} {ok : α → Prop} (ht : cellKind P t = true) (h : Opens P t (fun a => [e a]) sz ok) : OpensV P t e sz ok := by
 intro H enc w base v d p hv ⟨n, hd⟩ hw
 obtain ⟨a, h1, h2, h3⟩ := h enc w n _ _ hd hw
 have hna : ∀ cs, v ≠ .agg cs := by
  rintro cs rfl
  unfold cellKind at ht
  unfold Value.okWide at hv
  split at ht <;> rename_i hu <;> first | exact absurd ht (by decide) | (simp only [hu, Cell.okWide, Cell.ok] at hv)
 have hc : v.cells.toList = [v] := by cases v <;> first | rfl | exact absurd rfl (hna _)
 rw [hc] at h1
 exact ⟨a, h1.2 0 _ _ rfl rfl, h2, h3⟩
theorem sameAt_of {w w' : World} (h : ∀ b, b < w.heap.size → w'.heap[b]? = w.heap[b]?) {p : MemPlace} (hp : p.block < w.heap.size) : w.sameAt w' p := by
 cases p with
 | cell b o => simp only [World.sameAt, World.cell?]; rw [h b hp]
 | map b => exact h b hp
theorem trodAll_stays {H : Type} {enc : TypeId × Value → H} (hl : laidOutB P = true) {w w' : World} {sp : Nat → Bool} (hh : ∀ b, b < w.heap.size → w'.heap[b]? = w.heap[b]?)
  (hs : ∀ b, b < w.heap.size → sp b = true) : ∀ {ts : List TypeId} {vs : List Value} {ds : List (DataW H)} {ps : List MemPlace},
  (ts.all fun t => P.readableRec t && decide (t < P.types.size)) = true → DataW.TrodAll enc P w 0 (fun _ => true) true ts vs ds ps → (∀ p ∈ ps, p.block < w.heap.size) → DataW.TrodAll enc P w' 0 sp true ts vs ds ps
 | [], [], [], _, _, h, _ => h
 | t :: ts, v :: vs, d :: ds, _, hr, ⟨p, q, h1, h2, e⟩, hlt => by
  subst e
  simp only [List.all_cons, Bool.and_eq_true, decide_eq_true_eq] at hr
  exact ⟨p, q, WideElems.Trod_stays hl hr.1.1 hr.1.2 h1 (fun x hx => sameAt_of hh (hlt x (List.mem_append_left _ hx))) (fun x hx => hs _ (hlt x (List.mem_append_left _ hx))),
   trodAll_stays hl hh hs (by simpa using hr.2) h2 (fun x hx => hlt x (List.mem_append_right _ hx)), rfl⟩
theorem kept_of {w w' : World} (hs : Same w w') (hh : ∀ b, b < w.heap.size → w'.heap[b]? = w.heap[b]?) (may : MemPlace → Prop) : w.keptBut w' may := by
 refine ⟨hs.os, hs.output, fun i hi => ?_⟩
 rw [hh i hi]
 split <;> first | exact ⟨rfl, rfl, rfl, fun _ _ => rfl⟩ | exact .inr ⟨rfl, rfl⟩ | rfl | skip
 all_goals simp_all
theorem law_post {H : Type} {enc : TypeId × Value → H} {f : Func} {s : ChangeSpec} {apart fresh handsOn : Bool} {w w' : World} {args : Array Value} {v : Value} {ds gs : List (DataW H)} {before : List MemPlace} {m m' : Mem} {tb : TypeId}
  (hl : laidOutB P = true) (hts : (f.params.toList.all fun t => P.readableRec t && decide (t < P.types.size)) = true) (hv : s.vars = []) (hfn : ∀ gs', gs' = [] → s.fn H (ds ++ gs') = { results := [.lit (.bool true)], args := ds })
  (hres : f.resultTypes = #[tb]) (hb : P.underlying tb = some .bool) (hW : DataW.Whole enc P f.params.toList s.vars apart w args.toList ds gs before) (h : IRel m' (bV true) v) (hg : Grew m m' w w') :
  s.post enc P f apart fresh handsOn false w args v w' := by
 have hW0 := hW
 obtain ⟨p, q, hA, hV, rfl, hfz, hnd⟩ := hW0
 cases h
 rw [hv] at hV
 cases gs with
 | cons _ _ => simp [DataW.TrodVars] at hV
 | nil =>
 have hq : q = [] := hV
 subst hq
 refine ⟨ds, [], p ++ [], [], p, [], hW, ?_, ?_, ?_, kept_of hg.same hg.heap _, fun h => by simp at h⟩
 ·rw [hfn _ rfl, hres]
  exact trodAll_cons_mk (RowKit.shut_bool hb _) trodAll_mk0
 ·rw [hfn _ rfl]
  exact trodAll_stays hl hg.heap (fun b hb => by simpa using hb) hts hA (DataW.TrodAll.lt hA)
 ·rw [hv, hfn _ rfl]
  rfl
theorem args_nil {H : Type} {enc : TypeId × Value → H} {w : World} {args : Array Value} {f : Func} {s : ChangeSpec} {apart : Bool} {ds gs : List (DataW H)} {before : List MemPlace}
  (hW : DataW.Whole enc P f.params.toList s.vars apart w args.toList ds gs before) : ∃ p, DataW.TrodAll enc P w 0 (fun _ => true) true f.params.toList args.toList ds p := by
 obtain ⟨p, q, hA, _⟩ := hW
 exact ⟨p, hA⟩
end
def factsA (P : Program) (f : FuncId) (fn : Func) (s : ChangeSpec) (c : OpenClaim) : Bool :=
 c.wf (OpenSpec.ofChange s) && laidOutB P && mapsRowed P &&
 fn.params.all (P.readableRec ·) && namedTie P c.named s.vars &&
 (c.stops == []) && (P.stops == []) && (c.knobs == []) && (P.stopKnobs == []) &&
 (c.inPlace == P.inPlace f) && (c.unfollowed == P.unfollowed f) && (c.recurses == P.recurses f) && (c.named == P.varsNamed f) &&
 (c.maps == (fn.params.toList ++ s.plain.varTypes P).any (P.mapsRec ·)) && (c.ifaces == (fn.params.toList ++ s.plain.varTypes P).any (P.ifacesRec ·)) && (c.mapsOut == P.mapsAmong fn.resultTypes.toList) &&
 (c.loops == (fn.params.toList ++ s.plain.varTypes P).any (P.loopsFrom ·)) && (c.wideKeys == (fn.params.toList ++ s.plain.varTypes P ++ fn.resultTypes.toList).any (P.wideKeysFrom ·)) &&
 s.vars.all (P.varReadable ·) && fn.resultTypes.all (fun t => P.readableRec t && decide (t < P.types.size)) && (c.ifacesOut == fn.resultTypes.toList.any (P.ifacesRec ·)) && (c.loopsOut == fn.resultTypes.toList.any (P.loopsFrom ·)) && (c.plainKeys == P.plainKeys) && c.shortTexts.isNone && P.stopsHeard
def factsB (P : Program) (c : OpenClaim) : Bool := P.mayEnter && (c.lifted == P.liftsFinal) && (P.make == some c.make)
def factsC (P : Program) (fn : Func) (s : ChangeSpec) (c : OpenClaim) : Bool :=
 (c.kinds == (if c.domain.isEmpty then [] else fn.params.toList.map fun t => match P.underlying t with | some (.int k) => some k | _ => none)) && (c.pinned == c.pinnedBy) &&
 (c.veiled == (fn.params.toList ++ s.plain.varTypes P ++ fn.resultTypes.toList).any (P.veiledRec ·)) && c.veiledFits P fn.params.toList (fn.params.toList ++ s.plain.varTypes P ++ fn.resultTypes.toList)
theorem facts_join {P : Program} {f : FuncId} {fn : Func} {s : ChangeSpec} {c : OpenClaim} (h1 : factsA P f fn s c = true) (h2 : factsB P c = true) (h3 : factsC P fn s c = true) : joinedFacts P f fn s c = true := by
 unfold factsA at h1
 unfold factsB at h2
 unfold factsC at h3
 have e : ∀ a b c d b1 b2 b3 c1 c2 c3 : Bool, a = true → (b1 && b2 && b3) = true → (b && c && d && c1) = true → (a && b1 && b2 && b3 && b && c && d && c1) = true := by
  intro a b c d b1 b2 b3 c1 c2 c3 h h' h''
  simp only [Bool.and_eq_true] at *
  simp_all
 exact e _ _ _ _ _ _ _ _ true true h1 h2 h3
end Go.Pv
namespace Go.Proofs.YtpbkggamiipdmaaGreat
open Go Go.Pv
set_option linter.unusedVariables false
set_option maxRecDepth 100000
theorem opens_9 : Opens Tryz.prog 9 (fun x => [sV x]) (fun x : (List UInt8) => (x.length + 1)) (fun x : (List UInt8) => (x.length ≤ maxLen)) := opens_string (show Tryz.prog.underlying 9 = some (.string) by kernel_rfl)
theorem opens_25 : Opens Tryz.prog 25 (fun l => [V.lst 1 (l.map encS)]) (fun x : (List (List UInt8)) => ((x.map (fun x : (List UInt8) => (x.length + 1))).sum + 1)) (fun x : (List (List UInt8)) => ((∀ a, a ∈ x → (fun x : (List UInt8) => (x.length ≤ maxLen)) a) ∧ x.length ≤ maxLen)) := opens_slice (show Tryz.prog.underlying 25 = some (.slice 9) by kernel_rfl) (by kernel_rfl) (by decide) opens_9
def szTIface (x : q2d) : Nat := (x.Name.length + 1) + (((x.Methods.map (fun x : (List UInt8) => (x.length + 1))).sum + 1) + 0) + 1
def okTIface (x : q2d) : Prop := (x.Name.length ≤ maxLen) ∧ (((∀ a, a ∈ x.Methods → (fun x : (List UInt8) => (x.length ≤ maxLen)) a) ∧ x.Methods.length ≤ maxLen) ∧ True)
theorem opens_98 : Opens Tryz.prog 98 q8b szTIface okTIface := opens_map (q0n (fs := [(9, 0, 1), (25, 1, 1)]) (by kernel_rfl) (by kernel_rfl) (q6f opens_9 (q6f opens_25 fopens_nil))) (fun p => q2d.mk p.1 p.2.1) (fun _ => rfl) (fun _ => rfl) (fun _ h => h)
theorem opens_22 : Opens Tryz.prog 22 (fun l => [V.lst 2 (l.map q8b)]) (fun x : (List q2d) => ((x.map (fun x : q2d => (szTIface x))).sum + 1)) (fun x : (List q2d) => ((∀ a, a ∈ x → (fun x : q2d => (okTIface x)) a) ∧ x.length ≤ maxLen)) := opens_slice (show Tryz.prog.underlying 22 = some (.slice 98) by kernel_rfl) (by kernel_rfl) (by decide) opens_98
def szTMethod (x : q8h) : Nat := (x.Name.length + 1) + ((x.Func.length + 1) + 0) + 1
def okTMethod (x : q8h) : Prop := (x.Name.length ≤ maxLen) ∧ ((x.Func.length ≤ maxLen) ∧ True)
theorem opens_116 : Opens Tryz.prog 116 q6g szTMethod okTMethod := opens_map (q0n (fs := [(9, 0, 1), (9, 1, 1)]) (by kernel_rfl) (by kernel_rfl) (q6f opens_9 (q6f opens_9 fopens_nil))) (fun p => q8h.mk p.1 p.2.1) (fun _ => rfl) (fun _ => rfl) (fun _ h => h)
theorem opens_102 : Opens Tryz.prog 102 (fun l => [V.lst 2 (l.map q6g)]) (fun x : (List q8h) => ((x.map (fun x : q8h => (szTMethod x))).sum + 1)) (fun x : (List q8h) => ((∀ a, a ∈ x → (fun x : q8h => (okTMethod x)) a) ∧ x.length ≤ maxLen)) := opens_slice (show Tryz.prog.underlying 102 = some (.slice 116) by kernel_rfl) (by kernel_rfl) (by decide) opens_116
def szTType (x : TType) : Nat := (x.Name.length + 1) + (((x.Methods.map (fun x : q8h => (szTMethod x))).sum + 1) + 0) + 1
def okTType (x : TType) : Prop := (x.Name.length ≤ maxLen) ∧ (((∀ a, a ∈ x.Methods → (fun x : q8h => (okTMethod x)) a) ∧ x.Methods.length ≤ maxLen) ∧ True)
theorem opens_104 : Opens Tryz.prog 104 q1d szTType okTType := opens_map (q0n (fs := [(9, 0, 1), (102, 1, 1)]) (by kernel_rfl) (by kernel_rfl) (q6f opens_9 (q6f opens_102 fopens_nil))) (fun p => TType.mk p.1 p.2.1) (fun _ => rfl) (fun _ => rfl) (fun _ h => h)
theorem opens_23 : Opens Tryz.prog 23 (fun l => [V.lst 2 (l.map q1d)]) (fun x : (List TType) => ((x.map (fun x : TType => (szTType x))).sum + 1)) (fun x : (List TType) => ((∀ a, a ∈ x → (fun x : TType => (okTType x)) a) ∧ x.length ≤ maxLen)) := opens_slice (show Tryz.prog.underlying 23 = some (.slice 104) by kernel_rfl) (by kernel_rfl) (by decide) opens_104
theorem opens_3 : Opens Tryz.prog 3 (fun x => [V.con (.int .i64 x)]) (fun x : Int => 1) (fun x : Int => ((IntKind.i64).min ≤ x ∧ x ≤ (IntKind.i64).max)) := opens_int (show Tryz.prog.underlying 3 = some (.int .i64) by kernel_rfl)
def szTCall (x : TCall) : Nat := 1 + ((x.Target.length + 1) + ((x.Method.length + 1) + ((x.Feature.length + 1) + 0))) + 1
def okTCall (x : TCall) : Prop := ((IntKind.i64).min ≤ x.Kind ∧ x.Kind ≤ (IntKind.i64).max) ∧ ((x.Target.length ≤ maxLen) ∧ ((x.Method.length ≤ maxLen) ∧ ((x.Feature.length ≤ maxLen) ∧ True)))
theorem opens_109 : Opens Tryz.prog 109 q9d szTCall okTCall := opens_map (q0n (fs := [(3, 0, 1), (9, 1, 1), (9, 2, 1), (9, 3, 1)]) (by kernel_rfl) (by kernel_rfl) (q6f opens_3 (q6f opens_9 (q6f opens_9 (q6f opens_9 fopens_nil))))) (fun p => TCall.mk p.1 p.2.1 p.2.2.1 p.2.2.2.1) (fun _ => rfl) (fun _ => rfl) (fun _ h => h)
theorem opens_92 : Opens Tryz.prog 92 (fun l => [V.lst 4 (l.map q9d)]) (fun x : (List TCall) => ((x.map (fun x : TCall => (szTCall x))).sum + 1)) (fun x : (List TCall) => ((∀ a, a ∈ x → (fun x : TCall => (okTCall x)) a) ∧ x.length ≤ maxLen)) := opens_slice (show Tryz.prog.underlying 92 = some (.slice 109) by kernel_rfl) (by kernel_rfl) (by decide) opens_109
def szTFunc (x : TFunc) : Nat := (x.Name.length + 1) + ((x.Component.length + 1) + (((x.Calls.map (fun x : TCall => (szTCall x))).sum + 1) + (((x.Makes.map (fun x : (List UInt8) => (x.length + 1))).sum + 1) + 0))) + 1
def okTFunc (x : TFunc) : Prop := (x.Name.length ≤ maxLen) ∧ ((x.Component.length ≤ maxLen) ∧ (((∀ a, a ∈ x.Calls → (fun x : TCall => (okTCall x)) a) ∧ x.Calls.length ≤ maxLen) ∧ (((∀ a, a ∈ x.Makes → (fun x : (List UInt8) => (x.length ≤ maxLen)) a) ∧ x.Makes.length ≤ maxLen) ∧ True)))
theorem opens_94 : Opens Tryz.prog 94 q4c szTFunc okTFunc := opens_map (q0n (fs := [(9, 0, 1), (9, 1, 1), (92, 2, 1), (25, 3, 1)]) (by kernel_rfl) (by kernel_rfl) (q6f opens_9 (q6f opens_9 (q6f opens_92 (q6f opens_25 fopens_nil))))) (fun p => TFunc.mk p.1 p.2.1 p.2.2.1 p.2.2.2.1) (fun _ => rfl) (fun _ => rfl) (fun _ h => h)
theorem opens_24 : Opens Tryz.prog 24 (fun l => [V.lst 4 (l.map q4c)]) (fun x : (List TFunc) => ((x.map (fun x : TFunc => (szTFunc x))).sum + 1)) (fun x : (List TFunc) => ((∀ a, a ∈ x → (fun x : TFunc => (okTFunc x)) a) ∧ x.length ≤ maxLen)) := opens_slice (show Tryz.prog.underlying 24 = some (.slice 94) by kernel_rfl) (by kernel_rfl) (by decide) opens_94
def szTGraph (x : q1c) : Nat := ((x.Ifaces.map (fun x : q2d => (szTIface x))).sum + 1) + (((x.Types.map (fun x : TType => (szTType x))).sum + 1) + (((x.Funcs.map (fun x : TFunc => (szTFunc x))).sum + 1) + (((x.Entries.map (fun x : (List UInt8) => (x.length + 1))).sum + 1) + 0))) + 1
def q8k (x : q1c) : Prop := ((∀ a, a ∈ x.Ifaces → (fun x : q2d => (okTIface x)) a) ∧ x.Ifaces.length ≤ maxLen) ∧ (((∀ a, a ∈ x.Types → (fun x : TType => (okTType x)) a) ∧ x.Types.length ≤ maxLen) ∧ (((∀ a, a ∈ x.Funcs → (fun x : TFunc => (okTFunc x)) a) ∧ x.Funcs.length ≤ maxLen) ∧ (((∀ a, a ∈ x.Entries → (fun x : (List UInt8) => (x.length ≤ maxLen)) a) ∧ x.Entries.length ≤ maxLen) ∧ True)))
theorem opens_27 : Opens Tryz.prog 27 q3c szTGraph q8k := opens_map (q0n (fs := [(22, 0, 1), (23, 1, 1), (24, 2, 1), (25, 3, 1)]) (by kernel_rfl) (by kernel_rfl) (q6f opens_22 (q6f opens_23 (q6f opens_24 (q6f opens_25 fopens_nil))))) (fun p => q1c.mk p.1 p.2.1 p.2.2.1 p.2.2.2.1) (fun _ => rfl) (fun _ => rfl) (fun _ h => h)
theorem opensV_27 : OpensV Tryz.prog 27 (fun x => V.agg (q3c x)) szTGraph q8k := opensV_agg (fs := [(22, 0, 1), (23, 1, 1), (24, 2, 1), (25, 3, 1)]) (by kernel_rfl) opens_27
theorem opensV_25 : OpensV Tryz.prog 25 (fun l => V.lst 1 (l.map encS)) (fun x : (List (List UInt8)) => ((x.map (fun x : (List UInt8) => (x.length + 1))).sum + 1)) (fun x : (List (List UInt8)) => ((∀ a, a ∈ x → (fun x : (List UInt8) => (x.length ≤ maxLen)) a) ∧ x.length ≤ maxLen)) := opensV_cell (by kernel_rfl) opens_25
set_option linter.unusedSimpArgs false
abbrev Tx := List UInt8
def vis (c : UInt8) : Bool := decide (33 ≤ c.toNat) && decide (c.toNat ≤ 126) && !decide (c.toNat = 35)
def nm (s : Tx) : Bool := s.all vis && decide (1 ≤ s.length) && decide (s.length ≤ 100)
def le (a b : Tx) : Bool := Op.bytesLess a b || a == b
theorem le_nil {s : Tx} (h : nm s = true) : le s [] = false := by
 cases s with
 | nil => simp [nm] at h
 | cons c s => simp [le, Op.bytesLess]
theorem le_iff {a b : Tx} : le a b = false ↔ Op.bytesLess b a = true := by
 unfold le
 rcases bl_tri a b with h | h | h
 ·simp [h, q9n h]
 ·subst h; simp [q5m]
 ·simp [h, q9n h, (bl_ne h).symm]
theorem M79_eq (F : Nat) (s : Tx) (h : s.length ≤ maxLen) : M79 F s = some (nm s) := by
 have h' : (s.length : Int) ≤ 9223372036854775807 := by have : s.length ≤ 9223372036854775807 := h; omega
 unfold M79
 rw [q6d, if_pos h', Int.toNat_natCast]
 generalize hk : (if (!(s == [])) = true then some (decide ((s.length : Int) ≤ 100)) else some false) = k
 have := bytesL (g := M79_L1 F s k) (k := k) (f := false) s vis (fun _ => rfl) (fun m n => by
  rw [M79_L1]
  cases hi : idx s n with
  | none => rfl
  | some c =>
   simp only [Option.bind_some]
   by_cases h1 : c.toNat < 33
   ·rw [if_t (by omega)]; simp [vis]; omega
   ·rw [if_f (by omega)]
    by_cases h2 : c.toNat > 126
    ·rw [if_t (by omega)]; simp [vis]; omega
    ·rw [if_f (by omega)]
     by_cases h3 : c.toNat = 35
     ·rw [if_pos (by simp [h3])]; simp [vis, h3]
     ·rw [if_neg (by simp; omega), if_pos]; simp [vis]; omega) s.length 0 (by omega)
 rw [show ((0 : Nat) : Int) = 0 from rfl] at this
 rw [this, List.drop_zero, ← hk]
 unfold nm
 cases s.all vis
 ·simp
 ·cases s with
  | nil => simp
  | cons c s => simp only [if_true, Bool.true_and]; rw [if_pos (by simp)]; congr 1; rw [Bool.eq_iff_iff]; simp only [decide_eq_true_eq, Bool.and_eq_true, List.length_cons]; omega
theorem M82_eq (F : Nat) (s : Tx) (h : s.length ≤ maxLen) : M82 F s = some (nm s) := by
 have h' : (s.length : Int) ≤ 9223372036854775807 := by have : s.length ≤ 9223372036854775807 := h; omega
 unfold M82
 rw [q6d, if_pos h', Int.toNat_natCast]
 generalize hk : (if decide ((s.length : Int) ≥ 1) = true then some (decide ((s.length : Int) ≤ 100)) else some false) = k
 have := bytesL (g := M82_L1 F s k) (k := k) (f := false) s vis (fun _ => rfl) (fun m n => by
  rw [M82_L1]
  cases hi : idx s n with
  | none => rfl
  | some c =>
   simp only [Option.bind_some]
   by_cases h1 : c.toNat < 33
   ·rw [if_t (by omega)]; simp [vis]; omega
   ·rw [if_f (by omega)]
    by_cases h2 : c.toNat > 126
    ·rw [if_t (by omega)]; simp [vis]; omega
    ·rw [if_f (by omega)]
     by_cases h3 : c.toNat = 35
     ·rw [if_pos (by simp [h3])]; simp [vis, h3]
     ·rw [if_neg (by simp; omega), if_pos]; simp [vis]; omega) s.length 0 (by omega)
 rw [show ((0 : Nat) : Int) = 0 from rfl] at this
 rw [this, List.drop_zero, ← hk]
 unfold nm
 cases s.all vis
 ·simp
 ·simp only [if_true, Bool.true_and]
  by_cases h1 : 1 ≤ s.length
  ·rw [if_t (by omega)]; congr 1; rw [Bool.eq_iff_iff]; simp only [decide_eq_true_eq, Bool.and_eq_true]; omega
  ·rw [if_f (by omega)]; congr 1; symm; rw [Bool.eq_false_iff]; simp only [decide_eq_true_eq, Bool.and_eq_true, ne_eq]; omega
def nmd (s before : Tx) (first : Bool) : Int := if !nm s then 8 else if !first then (if le s before then 10 else 0) else 0
theorem M173_eq (F : Nat) (s b : Tx) (f : Bool) (h : s.length ≤ maxLen) : M173 F s b f = some (nmd s b f) := by
 unfold M173 nmd
 rw [M79_eq F s h, Option.bind_some, q6d]
 cases nm s
 ·simp
 ·cases f
  ·simp [le]; split <;> rfl
  ·simp
def nme (s : Tx) (p : Option Tx) : Int := if !nm s then 8 else match p with | some b => if le s b then 10 else 0 | none => 0
theorem nmd_first (s b : Tx) : nmd s b true = nme s none := by unfold nmd nme; cases nm s <;> rfl
theorem nmd_next (s b : Tx) : nmd s b false = nme s (some b) := by unfold nmd nme; cases nm s <;> rfl
theorem nme_zero {s : Tx} {p : Option Tx} (h : nme s p = 0) : nm s = true ∧ ∀ b, p = some b → Op.bytesLess b s = true := by
 unfold nme at h
 cases hn : nm s
 ·simp [hn] at h
 ·refine ⟨rfl, fun b hb => ?_⟩
  subst hb
  simp only [hn, Bool.not_true, Bool.false_eq_true, if_false] at h
  split at h
  ·simp at h
  ·rename_i hl; exact le_iff.1 (by simpa using hl)
abbrev SetM := List (Tx × Bool)
def sset (m : SetM) : List Tx → SetM
 | [] => m
 | x :: l => sset (mput m x true) l
def has (m : SetM) (x : Tx) : Bool := (mget m x).getD false
theorem has_sset (x : Tx) : ∀ (l : List Tx) (m : SetM), has (sset m l) x = (has m x || l.contains x)
 | [], m => by simp [sset]
 | y :: l, m => by
  rw [sset, has_sset x l, List.contains_cons]
  unfold has
  rw [q2h]
  by_cases h : y = x
  ·subst h; simp
  ·rw [if_neg h]
   have : (x == y) = false := by simpa using fun e => h e.symm
   rw [this, Bool.false_or]
theorem has_set (x : Tx) (l : List Tx) : has (sset [] l) x = l.contains x := by rw [has_sset]; simp [has, mget]
def methE : Option Tx → List Tx → Int
 | _, [] => 0
 | p, s :: l => if nme s p ≠ 0 then nme s p else methE (some s) l
def ifE : Option Tx → List q2d → Int
 | _, [] => 0
 | p, x :: l => if nme x.Name p ≠ 0 then nme x.Name p else if x.Methods = [] then 13 else if 200 < x.Methods.length then 3 else if methE none x.Methods ≠ 0 then methE none x.Methods else ifE (some x.Name) l
def mtE (fs : Tx → Bool) (lo : Bool) : Option Tx → List q8h → Int
 | _, [] => 0
 | p, m :: l => if nme m.Name p ≠ 0 then nme m.Name p else if (!lo && !fs m.Func) = true then 4 else mtE fs lo (some m.Name) l
def tyE (fs : Tx → Bool) (lo : Bool) : Option Tx → List TType → Int
 | _, [] => 0
 | p, x :: l => if nme x.Name p ≠ 0 then nme x.Name p else if 200 < x.Methods.length then 3 else if mtE fs lo none x.Methods ≠ 0 then mtE fs lo none x.Methods else tyE fs lo (some x.Name) l
def clE (fs : Tx → Bool) (is : Tx → Option (List Tx)) (lo : Bool) (c : TCall) : Int :=
 if c.Kind = 1 then (if (!lo && !fs c.Target) = true then 4 else if c.Method ≠ [] then 2 else if c.Feature ≠ [] ∧ nm c.Feature = false then 8 else 0)
 else if c.Kind = 2 then (if (!lo && !((is c.Target).elim false fun l => l.contains c.Method)) = true then 4 else if c.Feature ≠ [] ∧ nm c.Feature = false then 8 else 0) else 7
def csE (fs : Tx → Bool) (is : Tx → Option (List Tx)) (lo : Bool) : List TCall → Int
 | [] => 0
 | c :: l => if clE fs is lo c ≠ 0 then clE fs is lo c else csE fs is lo l
def lsE (there : Tx → Bool) (lo : Bool) : Option Tx → List Tx → Int
 | _, [] => 0
 | p, s :: l => if (!lo && !there s) = true then 4 else if (p.elim false fun b => le s b) = true then 10 else lsE there lo (some s) l
def fnE (fs ts : Tx → Bool) (is : Tx → Option (List Tx)) (lo : Bool) : Option Tx → List TFunc → Int
 | _, [] => 0
 | p, x :: l => if nme x.Name p ≠ 0 then nme x.Name p else if nm x.Component = false then 8 else if 200 < x.Calls.length then 3 else if csE fs is lo x.Calls ≠ 0 then csE fs is lo x.Calls else if lsE ts lo none x.Makes ≠ 0 then lsE ts lo none x.Makes else fnE fs ts is lo (some x.Name) l
def ifm (m : List (Tx × q2d)) : List q2d → List (Tx × q2d)
 | [] => m
 | x :: l => ifm (mput m x.Name x) l
def fsOf (g : q1c) : Tx → Bool := fun x => (g.Funcs.map (·.Name)).contains x
def tsOf (g : q1c) : Tx → Bool := fun x => (g.Types.map (·.Name)).contains x
def isOf (g : q1c) : Tx → Option (List Tx) := fun x => (mget (ifm [] g.Ifaces) x).map (·.Methods)
def chk (lo : Bool) (g : q1c) : Int :=
 if 200 < g.Ifaces.length then 3 else if 500 < g.Types.length then 3 else if 3000 < g.Funcs.length then 3
 else if ifE none g.Ifaces ≠ 0 then ifE none g.Ifaces
 else if tyE (fsOf g) lo none g.Types ≠ 0 then tyE (fsOf g) lo none g.Types
 else if fnE (fsOf g) (tsOf g) (isOf g) lo none g.Funcs ≠ 0 then fnE (fsOf g) (tsOf g) (isOf g) lo none g.Funcs
 else lsE (fsOf g) lo none g.Entries
theorem M59_L3_eq {F : Nat} (k : SetM → Option q9b) : ∀ (l : List TFunc) (m : SetM), M59_L3 F k l m = k (sset m (l.map (·.Name)))
 | [], m => rfl
 | x :: l, m => by rw [M59_L3, M59_L3_eq k l]; rfl
theorem M59_L2_eq {F : Nat} (k : SetM → Option q9b) : ∀ (l : List TType) (m : SetM), M59_L2 F k l m = k (sset m (l.map (·.Name)))
 | [], m => rfl
 | x :: l, m => by rw [M59_L2, M59_L2_eq k l]; rfl
theorem M59_L1_eq {F : Nat} (k : List (Tx × q2d) → Option q9b) : ∀ (l : List q2d) (m : List (Tx × q2d)), M59_L1 F k l m = k (ifm m l)
 | [], m => rfl
 | x :: l, m => by rw [M59_L1, M59_L1_eq k l]; rfl
def kOf (g : q1c) (lo : Bool) : q9b := q9b.mk lo (ifm [] g.Ifaces) (sset [] (g.Types.map (·.Name))) (sset [] (g.Funcs.map (·.Name)))
theorem M59_eq (F : Nat) (g : q1c) (lo : Bool) : M59 F g lo = some (kOf g lo) := by
 unfold M59
 simp only [q6d, M59_L1_eq, M59_L2_eq, M59_L3_eq]
 rfl
def pz (n : Int) (p : Option Tx) (s : Tx) : Prop := match p with | none => n = 0 | some b => n > 0 ∧ s = b
theorem nmd_pz {n : Int} {p : Option Tx} {s x : Tx} (h : pz n p s) : nmd x s (n == 0) = nme x p := by
 cases p with
 | none => have h : n = 0 := h; subst h; exact nmd_first x s
 | some b =>
  obtain ⟨h1, h2⟩ := h
  subst h2
  rw [show (n == 0) = false by simp; omega]; exact nmd_next x s
theorem M127_L2_eq (F : Nat) (k : Option Int) : ∀ (l : List Tx) (n : Int) (s : Tx) (p : Option Tx), (∀ x, x ∈ l → x.length ≤ maxLen) → 0 ≤ n → pz n p s → M127_L2 F k l n s = if methE p l ≠ 0 then some (methE p l) else k
 | [], n, s, p, _, _, _ => by simp [M127_L2, methE]
 | x :: l, n, s, p, hx, hn, hp => by
  rw [M127_L2, M173_eq F x s _ (hx x (by simp)), Option.bind_some, nmd_pz hp, methE]
  by_cases h : nme x p = 0
  ·simp only [h, bne_self_eq_false, Bool.false_eq_true, ne_eq, not_true_eq_false, if_false]
   exact M127_L2_eq F k l (n + 1) x (some x) (fun y hy => hx y (List.mem_cons_of_mem _ hy)) (by omega) ⟨by omega, rfl⟩
  ·rw [if_pos (by simpa using h), if_pos h, if_pos h]
theorem M127_L1_eq (F : Nat) (k : Option Int) : ∀ (l : List q2d) (n : Int) (s : Tx) (p : Option Tx), (∀ x, x ∈ l → okTIface x) → 0 ≤ n → pz n p s → M127_L1 F k l n s = if ifE p l ≠ 0 then some (ifE p l) else k
 | [], n, s, p, _, _, _ => by simp [M127_L1, ifE]
 | x :: l, n, s, p, hx, hn, hp => by
  obtain ⟨o1, ⟨o2, _⟩, _⟩ := hx x (by simp)
  rw [M127_L1]
  simp only [q6d]
  rw [M173_eq F x.Name s _ o1, Option.bind_some, nmd_pz hp, ifE]
  by_cases h : nme x.Name p = 0
  ·simp only [h, bne_self_eq_false, Bool.false_eq_true, ne_eq, not_true_eq_false, if_false]
   by_cases h1 : x.Methods = []
   ·rw [if_pos (by simp [h1]), if_pos h1]; simp
   ·rw [if_neg (by simpa using h1), if_neg h1]
    by_cases h2 : 200 < x.Methods.length
    ·rw [if_t (by omega), if_pos h2]; simp
    ·rw [if_f (by omega), if_neg h2, M127_L2_eq F _ _ 0 [] none o2 (by omega) rfl]
     by_cases h3 : methE none x.Methods = 0
     ·simp only [h3, bne_self_eq_false, Bool.false_eq_true, ne_eq, not_true_eq_false, if_false]
      exact M127_L1_eq F k l (n + 1) x.Name (some x.Name) (fun y hy => hx y (List.mem_cons_of_mem _ hy)) (by omega) ⟨by omega, rfl⟩
     ·rw [if_pos h3, if_pos h3, if_pos h3]
  ·rw [if_pos (by simpa using h), if_pos h, if_pos h]
theorem M128_L2_eq (F : Nat) (a : q9b) (fs : Tx → Bool) (hf : ∀ x, (mget a.funcs x).getD false = fs x) (k : Option Int) : ∀ (l : List q8h) (n : Int) (s : Tx) (p : Option Tx), (∀ x, x ∈ l → x.Name.length ≤ maxLen) → 0 ≤ n → pz n p s → M128_L2 F a k l n s = if mtE fs a.loose p l ≠ 0 then some (mtE fs a.loose p l) else k
 | [], n, s, p, _, _, _ => by simp [M128_L2, mtE]
 | x :: l, n, s, p, hx, hn, hp => by
  have ih := M128_L2_eq F a fs hf k l (n + 1) x.Name (some x.Name) (fun y hy => hx y (List.mem_cons_of_mem _ hy)) (by omega) ⟨by omega, rfl⟩
  rw [M128_L2]
  simp only [q6d]
  rw [M173_eq F x.Name s _ (hx x (by simp)), Option.bind_some, nmd_pz hp, mtE, ih, hf]
  by_cases h : nme x.Name p = 0
  ·simp only [h, bne_self_eq_false, Bool.false_eq_true, ne_eq, not_true_eq_false, if_false]
   cases a.loose <;> cases fs x.Func <;> simp
  ·rw [if_pos (by simpa using h), if_pos h, if_pos h]
theorem M128_L1_eq (F : Nat) (a : q9b) (fs : Tx → Bool) (hf : ∀ x, (mget a.funcs x).getD false = fs x) (k : Option Int) : ∀ (l : List TType) (n : Int) (s : Tx) (p : Option Tx), (∀ x, x ∈ l → okTType x) → 0 ≤ n → pz n p s → M128_L1 F a k l n s = if tyE fs a.loose p l ≠ 0 then some (tyE fs a.loose p l) else k
 | [], n, s, p, _, _, _ => by simp [M128_L1, tyE]
 | x :: l, n, s, p, hx, hn, hp => by
  obtain ⟨o1, ⟨o2, _⟩, _⟩ := hx x (by simp)
  rw [M128_L1]
  simp only [q6d]
  rw [M173_eq F x.Name s _ o1, Option.bind_some, nmd_pz hp, tyE]
  by_cases h : nme x.Name p = 0
  ·simp only [h, bne_self_eq_false, Bool.false_eq_true, ne_eq, not_true_eq_false, if_false]
   by_cases h2 : 200 < x.Methods.length
   ·rw [if_t (by omega), if_pos h2]; simp
   ·rw [if_f (by omega), if_neg h2, M128_L2_eq F a fs hf _ _ 0 [] none (fun y hy => (o2 y hy).1) (by omega) rfl]
    by_cases h3 : mtE fs a.loose none x.Methods = 0
    ·simp only [h3, bne_self_eq_false, Bool.false_eq_true, ne_eq, not_true_eq_false, if_false]
     exact M128_L1_eq F a fs hf k l (n + 1) x.Name (some x.Name) (fun y hy => hx y (List.mem_cons_of_mem _ hy)) (by omega) ⟨by omega, rfl⟩
    ·rw [if_pos h3, if_pos h3, if_pos h3]
  ·rw [if_pos (by simpa using h), if_pos h, if_pos h]
theorem M23_eq (F : Nat) (l : List Tx) (x : Tx) : M23 F l x = some (l.contains x) := by
 unfold M23 M86
 rw [q6d]
 have := idxL (g := M86_L1 F x (some (-1))) (fun y : Tx => x == y) (fun _ => rfl) (fun y l n => by rw [M86_L1]) l 0
 rw [show ((0 : Nat) : Int) = 0 from rfl] at this
 rw [this]
 have e : (l.any fun y => x == y) = l.contains x := by rw [List.contains_eq_any_beq]
 rw [e]
 cases l.contains x
 ·rfl
 ·simp
theorem M174_eq (F : Nat) (a : q9b) (fs : Tx → Bool) (is : Tx → Option (List Tx)) (hf : ∀ x, (mget a.funcs x).getD false = fs x) (hi : ∀ x, (mget a.ifaces x).map (·.Methods) = is x) (c : TCall) (hc : c.Feature.length ≤ maxLen) : M174 F a c = some (clE fs is a.loose c) := by
 unfold M174 clE
 rw [q6d, M79_eq F _ hc, ← hi, hf]
 simp only [Option.bind_some, M23_eq]
 have tail : (if (!(c.Feature == ([] : Tx))) = true then if (!nm c.Feature) = true then some (8 : Int) else some 0 else some 0) = some (if c.Feature ≠ [] ∧ nm c.Feature = false then 8 else 0) := by
  by_cases h1 : c.Feature = [] <;> cases h2 : nm c.Feature <;> simp [h1]
 rw [tail]
 by_cases k1 : c.Kind = 1
 ·rw [if_pos (by simp [k1]), if_pos k1]
  by_cases k3 : c.Method = [] <;> cases a.loose <;> cases fs c.Target <;> simp [k3]
 ·rw [if_neg (by simpa using k1), if_neg k1]
  by_cases k2 : c.Kind = 2
  ·rw [if_pos (by simp [k2]), if_pos k2]
   cases hm : mget a.ifaces c.Target with
   | none => cases a.loose <;> simp
   | some x =>
    cases a.loose
    ·cases hcc : x.Methods.contains c.Method <;> simp [hcc] <;> simp_all
    ·simp
  ·rw [if_neg (by simpa using k2), if_neg k2]
theorem M129_L2_eq (F : Nat) (a : q9b) (fs : Tx → Bool) (is : Tx → Option (List Tx)) (hf : ∀ x, (mget a.funcs x).getD false = fs x) (hi : ∀ x, (mget a.ifaces x).map (·.Methods) = is x) (k : Option Int) : ∀ (l : List TCall), (∀ c, c ∈ l → c.Feature.length ≤ maxLen) → M129_L2 F a k l = if csE fs is a.loose l ≠ 0 then some (csE fs is a.loose l) else k
 | [], _ => by simp [M129_L2, csE]
 | c :: l, h => by
  rw [M129_L2, M174_eq F a fs is hf hi c (h c (by simp)), Option.bind_some, csE, M129_L2_eq F a fs is hf hi k l (fun c hc => h c (List.mem_cons_of_mem _ hc))]
  by_cases h1 : clE fs is a.loose c = 0
  ·simp only [h1, bne_self_eq_false, Bool.false_eq_true, ne_eq, not_true_eq_false, if_false]
  ·rw [if_pos (by simpa using h1), if_pos h1, if_pos h1]
theorem drop_at {α : Type} {a l : List α} {x : α} {n : Nat} (h : a.drop n = x :: l) : ∃ hn : n < a.length, a[n] = x ∧ a.drop (n + 1) = l := by
 have hn : n < a.length := by
  rcases Nat.lt_or_ge n a.length with h2 | h2
  ·exact h2
  ·rw [List.drop_eq_nil_of_le h2] at h; simp at h
 rw [List.drop_eq_getElem_cons hn] at h
 simp only [List.cons.injEq] at h
 exact ⟨hn, h.1, h.2⟩
theorem prev_idx {α : Type} {a : List α} {n : Nat} (hn : n < a.length) (h0 : n ≠ 0) (hb : a.length ≤ maxLen) : ∃ h : n - 1 < a.length, idx a (w64 ((n : Int) - 1)) = some a[n - 1] := by
 have hb' : a.length ≤ 9223372036854775807 := hb
 refine ⟨by omega, ?_⟩
 rw [w64_id (by omega) (by omega), show (n : Int) - 1 = ((n - 1 : Nat) : Int) by omega]
 exact q7g _
def prv (a : List Tx) (n : Nat) : Option Tx := if n = 0 then none else a[n - 1]?
theorem prv_zero (a : List Tx) : prv a 0 = none := rfl
theorem prv_next {a : List Tx} {x : Tx} {n : Nat} (hn : n < a.length) (hx : a[n] = x) : prv a (n + 1) = some x := by
 unfold prv
 rw [if_neg (by omega), Nat.add_sub_cancel, List.getElem?_eq_getElem hn, hx]
theorem prv_some {a : List Tx} {n : Nat} (hn : n < a.length) (h0 : n ≠ 0) : ∃ h : n - 1 < a.length, prv a n = some a[n - 1] := by
 refine ⟨by omega, ?_⟩
 unfold prv
 rw [if_neg h0, List.getElem?_eq_getElem (by omega)]
theorem M130_L1_eq (F : Nat) (a : q9b) (a2 : List Tx) (a3 : SetM) (ha : a2.length ≤ maxLen) (k : Option Int) : ∀ (l : List Tx) (n : Nat), a2.drop n = l → M130_L1 F a a2 a3 k l n = if lsE (has a3) a.loose (prv a2 n) l ≠ 0 then some (lsE (has a3) a.loose (prv a2 n) l) else k
 | [], n, _ => by simp [M130_L1, lsE]
 | x :: l, n, hd => by
  obtain ⟨hn, hx, hl⟩ := drop_at hd
  have ih := M130_L1_eq F a a2 a3 ha k l (n + 1) hl
  rw [prv_next hn hx, show ((n + 1 : Nat) : Int) = (n : Int) + 1 from rfl] at ih
  rw [M130_L1]
  simp only [q6d]
  rw [ih, lsE]
  have e : (mget a3 x).getD false = has a3 x := rfl
  rw [e]
  by_cases h0 : n = 0
  ·subst h0
   rw [prv_zero]
   cases a.loose <;> cases has a3 x <;> simp
  ·obtain ⟨_, e1⟩ := prev_idx hn h0 ha
   obtain ⟨_, e2⟩ := prv_some hn h0
   rw [if_t (show (n : Int) > 0 by omega), e1, e2]
   simp only [Option.bind_some, Option.elim_some]
   have e3 : (Op.bytesLess x a2[n - 1] || x == a2[n - 1]) = le x a2[n - 1] := rfl
   rw [e3]
   cases a.loose <;> cases has a3 x <;> by_cases hc : le x a2[n - 1] = true <;> simp [hc]
theorem M130_eq (F : Nat) (a : q9b) (a2 : List Tx) (a3 : SetM) (ha : a2.length ≤ maxLen) : M130 F a a2 a3 = some (lsE (has a3) a.loose none a2) := by
 unfold M130
 rw [q6d]
 have := M130_L1_eq F a a2 a3 ha (some 0) a2 0 rfl
 rw [show ((0 : Nat) : Int) = 0 from rfl, prv_zero] at this
 rw [this]
 split
 ·rfl
 ·rename_i h; simp only [ne_eq, Decidable.not_not] at h; rw [h]
theorem M129_L1_eq (F : Nat) (a : q9b) (fs ts : Tx → Bool) (is : Tx → Option (List Tx)) (hf : ∀ x, (mget a.funcs x).getD false = fs x) (hi : ∀ x, (mget a.ifaces x).map (·.Methods) = is x) (ht : has a.types = ts) (k : Option Int) :
  ∀ (l : List TFunc) (n : Int) (s : Tx) (p : Option Tx), (∀ x, x ∈ l → okTFunc x) → 0 ≤ n → pz n p s → M129_L1 F a k l n s = if fnE fs ts is a.loose p l ≠ 0 then some (fnE fs ts is a.loose p l) else k
 | [], n, s, p, _, _, _ => by simp [M129_L1, fnE]
 | x :: l, n, s, p, hx, hn, hp => by
  obtain ⟨o1, o2, ⟨o3, _⟩, ⟨_, o4⟩, _⟩ := hx x (by simp)
  rw [M129_L1]
  simp only [q6d]
  rw [M173_eq F x.Name s _ o1, Option.bind_some, nmd_pz hp, fnE]
  by_cases h : nme x.Name p = 0
  ·simp only [h, bne_self_eq_false, Bool.false_eq_true, ne_eq, not_true_eq_false, if_false]
   rw [M79_eq F _ o2, Option.bind_some]
   by_cases h1 : nm x.Component = false
   ·rw [if_pos (by simp [h1]), if_pos h1]; simp
   ·rw [if_neg (by simpa using h1), if_neg h1]
    by_cases h2 : 200 < x.Calls.length
    ·rw [if_t (by omega), if_pos h2]; simp
    ·rw [if_f (by omega), if_neg h2, M129_L2_eq F a fs is hf hi _ _ (fun c hc => (o3 c hc).2.2.2.1)]
     by_cases h3 : csE fs is a.loose x.Calls = 0
     ·simp only [h3, bne_self_eq_false, Bool.false_eq_true, ne_eq, not_true_eq_false, if_false]
      rw [M130_eq F a _ _ o4, Option.bind_some, ht]
      by_cases h4 : lsE ts a.loose none x.Makes = 0
      ·simp only [h4, bne_self_eq_false, Bool.false_eq_true, ne_eq, not_true_eq_false, if_false]
       exact M129_L1_eq F a fs ts is hf hi ht k l (n + 1) x.Name (some x.Name) (fun y hy => hx y (List.mem_cons_of_mem _ hy)) (by omega) ⟨by omega, rfl⟩
      ·rw [if_pos (by simpa using h4), if_pos h4, if_pos h4]
     ·rw [if_pos h3, if_pos h3, if_pos h3]
  ·rw [if_pos (by simpa using h), if_pos h, if_pos h]
theorem orz {n : Int} : (if n ≠ 0 then some n else some 0) = some n := by split <;> simp_all
theorem M60_eq (F : Nat) (g : q1c) (lo : Bool) (h : q8k g) : M60 F (kOf g lo) g = some (chk lo g) := by
 obtain ⟨⟨o1, _⟩, ⟨o2, _⟩, ⟨o3, _⟩, ⟨_, o4⟩, _⟩ := h
 have hf : ∀ x, (mget (kOf g lo).funcs x).getD false = fsOf g x := fun x => has_set x _
 have ht : has (kOf g lo).types = tsOf g := funext fun x => has_set x _
 have hi : ∀ x, (mget (kOf g lo).ifaces x).map (·.Methods) = isOf g x := fun x => rfl
 have hf' : has (kOf g lo).funcs = fsOf g := funext fun x => has_set x _
 unfold M60 chk M127 M128 M129
 simp only [q6d]
 rw [M127_L1_eq F _ _ 0 [] none o1 (by omega) rfl, M128_L1_eq F _ _ hf _ _ 0 [] none o2 (by omega) rfl, M129_L1_eq F _ _ _ _ hf hi ht _ _ 0 [] none o3 (by omega) rfl, orz, orz, orz, M130_eq F _ _ _ o4, hf', show (kOf g lo).loose = lo from rfl]
 simp only [Option.bind_some]
 by_cases h1 : 200 < g.Ifaces.length
 ·rw [if_t (by omega), if_pos h1]
 rw [if_f (by omega), if_neg h1]
 by_cases h2 : 500 < g.Types.length
 ·rw [if_t (by omega), if_pos h2]
 rw [if_f (by omega), if_neg h2]
 by_cases h3 : 3000 < g.Funcs.length
 ·rw [if_t (by omega), if_pos h3]
 rw [if_f (by omega), if_neg h3]
 refine ite2 ne0 (fun _ => rfl) (fun _ => ite2 ne0 (fun _ => rfl) (fun _ => ite2 ne0 (fun _ => rfl) (fun _ => rfl)))
theorem M17_eq (F : Nat) (g : q1c) (h : q8k g) : M17 F g = some (chk false g) := by
 unfold M17
 rw [M59_eq, Option.bind_some, M60_eq F g false h]; rfl
end Go.Proofs.YtpbkggamiipdmaaGreat
