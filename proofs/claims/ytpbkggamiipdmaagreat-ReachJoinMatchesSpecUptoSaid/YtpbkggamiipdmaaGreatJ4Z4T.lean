/- Part of the proof: ZC, ZS, Z4T. -/
import Derived.Test.YtpbkggamiipdmaaGreatJ4ZA
import Derived.Lib.SlicesCompact
import Derived.Shelf.SlSortCmp.NoneTotal
import Derived.Test.YtpbkggamiipdmaaGreatJ4WA
import Derived.Test.YtpbkggamiipdmaaGreatJ4DR
import Derived.Test.YtpbkggamiipdmaaGreatProg
import Derived.KernelRfl
namespace Go.Pv
open Go Go.RowKit
set_option linter.unusedVariables false
set_option linter.unusedSimpArgs false
open Go.Sort in
theorem mut_compactG {gl : Gl} {P : Program} {f : FuncId} {k id : Nat} {hp : Heap} {e : TypeId} {α : Type} [Inhabited α] (enc : α → Value) (h1c : ∀ x, (enc x).oneCell' = true) (l l' zs : List α) (hid : hget hp id = .arr e 1 (l.map fun x => [V.con (enc x)])) (hl : (l' ++ zs).length = l.length)
  (h : ∀ (w : World) (blk off cap : Nat), Holds enc w blk off l.toArray → blk < w.heap.size → l.length ≤ cap → Calls P f #[.slice (some ⟨blk, off, none⟩) l.length cap] w fun e w' =>
   e = .returned (.slice (some ⟨blk, off, none⟩) l'.length cap) ∧ ∃ n os, w' = grow (putRow enc (Sort.ahead w n) blk off (l' ++ zs).toArray) os)
  (hn : ∀ (w : World) (a : Option Addr), l = [] → Calls P f #[.slice a 0 0] w fun e w' => e = .returned (.slice a 0 0) ∧ Below w.heap.size w w' ∧ w.drawn ≤ w'.drawn) :
  MutG gl P f [.own id l.length] k hp (.own id l'.length) k ((id, .arr e 1 (l'.map fun x => [V.con (enc x)])) :: hp) := by
 intro m β w vs himm _ hargs hown hpriv hinj hhid hnx
 obtain ⟨v, rfl⟩ : ∃ v, vs = #[v] := by
  have := hargs.len
  simp at this
  exact ⟨vs[0], by
   apply Array.ext
   ·simp [← this]
   ·intro i h1 h2
    have : i = 0 := by simp at h2; omega
    subst this; simp⟩
 have hv := hargs.at' 0 _ _ rfl rfl
 have hob := hown id
 rw [hid] at hob
 have hg : ∀ q, hget ((id, Ob.arr e 1 (l'.map fun x => [V.con (enc x)])) :: hp) q = if id = q then Ob.arr e 1 (l'.map fun x => [V.con (enc x)]) else hget hp q := fun q => hget_put _ _ _ _
 have hlive : ∀ q, hget ((id, Ob.arr e 1 (l'.map fun x => [V.con (enc x)])) :: hp) q ≠ .dead → hget hp q ≠ .dead := fun q hq => by
  rw [hg] at hq
  split at hq
  ·rename_i hh; subst hh; rw [hid]; simp
  ·exact hq
 have hhids : ∀ (w' : World), w.heap.size ≤ w'.heap.size → ∀ q x, hget ((id, Ob.arr e 1 (l'.map fun x => [V.con (enc x)])) :: hp) q ≠ .dead → β.hid q x → x < w'.heap.size ∧ m x = none ∧ (x < w.heap.size → ¬ Foreign hp β x) ∧
   (∀ i b c, hget ((id, Ob.arr e 1 (l'.map fun x => [V.con (enc x)])) :: hp) i ≠ .dead → β i = some (some (b, c)) → x ≠ b) ∧ ∀ i, hget ((id, Ob.arr e 1 (l'.map fun x => [V.con (enc x)])) :: hp) i ≠ .dead → β.hid i x → i = q := by
  intro w' hs q x hq hx
  obtain ⟨q1, q2, q3, q4⟩ := hhid q x (hlive q hq) hx
  exact ⟨by omega, q2, fun _ hF => (hF q (hlive q hq)).2 hx, fun i b c hi => q3 i b c (hlive i hi), fun i hi => q4 i (hlive i hi)⟩
 generalize hnl : l.length = n at hv h
 cases hv with
 | imm h' => cases h'
 | @ownNil _ ad hb =>
  have hl0 : l = [] := List.length_eq_zero_iff.1 hnl
  subst hl0
  have hl' : l' = [] := by
   have : (l' ++ zs).length = 0 := by simpa using hl
   simp at this; exact this.1
  subst hl'
  refine (hn w ad rfl).mono ?_
  rintro ex w' ⟨rfl, hB, hdr⟩
  have hheap : ∀ b, b < w.heap.size → w'.heap[b]? = w.heap[b]? := hB.block
  refine ⟨_, m, β, rfl, .ownNil hb, Mem.le_refl _, fun b o hb => by rw [hheap b (lt_of_some (himm b o hb))]; exact himm b o hb, fun b hb _ => ⟨rfl, hheap b hb⟩, hB.size, ⟨hB.os, hB.tape, hB.output, hdr⟩, fun q => ?_, fun q b cap hq hbq => ?_, fun q q' b cap cap' hq hq' => hinj q q' b cap cap' (hlive q hq) (hlive q' hq'), hhids w' hB.size, hnx, fun q hq => ⟨hq, rfl⟩⟩
  ·rw [hg]
   split
   ·rename_i hh; subst hh; rw [hb]; simp [ObOk]
   ·by_cases hd : hget hp q = .dead
    ·rw [hd]; exact ObOk.dead' _
    ·exact ObOk.congr (fun b cap hbb => hheap b (live_lt hd hbb (hown q))) (fun x hx => hheap x (hhid q x hd hx).1) (hown q)
  ·have hq := hlive q hq
   exact ⟨hpriv q b cap hq hbq, fun _ hF => (hF q hq).1 cap hbq⟩
 | @own _ _ b cap hb =>
  rw [hb] at hob
  obtain ⟨arr, bl, o1, o2, o3, o4, o5, oB, o6⟩ := hob
  have hbs : b < w.heap.size := lt_of_some o1
  have hcell : ∀ j (hj : j < l.length), arr[cap.off + j]? = some (enc l[j]) := fun j hj => by
   obtain ⟨v, v1, v2, _⟩ := o6 j 0 [V.con (enc l[j])] (V.con (enc l[j])) (by simp [List.getElem?_eq_getElem hj]) rfl
   have := (v2.v rfl).of_con
   subst this
   simpa using v1
  refine (h w b cap.off cap.n (fun j hj => ?_) hbs (by simpa [hnl] using o3)).mono ?_
  ·have hj' : j < l.length := by simpa using hj
   have hz : (l.toArray)[j]! = l[j] := by rw [getElem!_pos _ j hj]; simp
   rw [hz]
   exact ⟨(cell_of_heap o1).trans (hcell j hj'), by simp [World.frozen?, o1]⟩
  rintro ex w' ⟨rfl, nd, os, rfl⟩
  have hheap := heap_sorted enc w nd b cap.off (l' ++ zs).toArray os
  have hother : ∀ b', b' < w.heap.size → b' ≠ b → (grow (putRow enc (Sort.ahead w nd) b cap.off (l' ++ zs).toArray) os).heap[b']? = w.heap[b']? := fun b' h1 h2 => by rw [hheap b' h1, if_neg (Ne.symm h2)]
  have hlid : hget hp id ≠ .dead := by rw [hid]; simp
  have hsz : w.heap.size ≤ (grow (putRow enc (Sort.ahead w nd) b cap.off (l' ++ zs).toArray) os).heap.size := by simp [grow, putRow, mapBlock, Sort.ahead]
  refine ⟨_, m, β, rfl, .own hb, Mem.le_refl _, fun b' o hb' => ?_, fun b' hb' hF => ⟨rfl, hother b' hb' (fun e => ?_)⟩, hsz, ⟨rfl, rfl, rfl, Nat.le_add_right _ _⟩, fun q => ?_, fun q b' cap' hq hbq => ?_, fun q q' b1 cap1 cap2 hq hq' => hinj q q' b1 cap1 cap2 (hlive q hq) (hlive q' hq'), hhids _ hsz, hnx, fun q hq => ⟨hq, rfl⟩⟩
  ·have hne : b' ≠ b := fun e => by
    subst e
    rw [hpriv id b' cap hlid hb] at hb'
    simp at hb'
   rw [hother b' (lt_of_some (himm b' o hb')) hne]
   exact himm b' o hb'
  ·subst e; exact (hF id hlid).1 cap hb
  ·rw [hg]
   split
   ·rename_i hh
    subst hh
    rw [hb]
    refine ⟨putCells enc cap.off (l' ++ zs).toArray arr, bl, by rw [hheap b hbs, if_pos rfl, o1]; rfl, by simp [putCells, o2], by simp at hl o3 ⊢; omega, o4, ?_, oB, fun i j row c hr hc => ?_⟩
    ·intro row hr
     obtain ⟨x, _, rfl⟩ := List.mem_map.1 hr
     rfl
    ·rw [List.getElem?_map] at hr
     cases hli : l'[i]? with
     | none => rw [hli] at hr; simp at hr
     | some x =>
      rw [hli] at hr
      simp at hr
      subst hr
      have hi : i < l'.length := (List.getElem?_eq_some_iff.1 hli).1
      have hx : l'[i] = x := (List.getElem?_eq_some_iff.1 hli).2
      have hj : j = 0 := by
       have := (List.getElem?_eq_some_iff.1 hc).1
       simp at this; exact this
      subst hj
      simp at hc
      subst hc
      have ha : cap.off + i < arr.size := by simp at hl o3; omega
      refine ⟨enc x, ?_, .inl (.imm (.con _)), h1c x⟩
      rw [Nat.mul_one, Nat.add_zero]
      unfold putCells
      rw [Array.getElem?_mapIdx, Array.getElem?_eq_getElem ha, Option.map_some, if_pos ⟨Nat.le_add_right _ _, by simp; omega⟩, Nat.add_sub_cancel_left, getElem!_pos _ i (by simp; omega)]
      simp [List.getElem_append_left hi, hx]
   ·by_cases hd : hget hp q = .dead
    ·rw [hd]; exact ObOk.dead' _
    ·refine ObOk.congr (fun b' cap' hbb => hother b' (live_lt hd hbb (hown q)) (fun e => ?_)) (fun x hx => hother x (hhid q x hd hx).1 ((hhid q x hd hx).2.2.1 id b cap hlid hb)) (hown q)
     subst e
     rename_i hne
     exact hne (hinj id q b' cap cap' hlid hd hb hbb)
  ·have hq := hlive q hq
   exact ⟨hpriv q b' cap' hq hbq, fun _ hF => (hF q hq).1 cap' hbq⟩
def tsort (l : List (List UInt8)) : List (List UInt8) := l.mergeSort fun x y => decide (x ≤ y)
def cpt {α : Type} [Inhabited α] [DecidableEq α] (l : List α) : List α := Lib.compact l
theorem compactUpTo_len {α : Type} [Inhabited α] [DecidableEq α] (d : Array α) (m : Nat) : (Lib.compactUpTo d m).length ≤ m := by
 simp only [Lib.compactUpTo, List.length_map]
 exact Nat.le_trans (List.length_filter_le _ _) (by simp)
theorem cpt_len {α : Type} [Inhabited α] [DecidableEq α] (l : List α) : (cpt l).length ≤ l.length := compactUpTo_len _ _
theorem grow_nil (w : World) : w = Go.Sort.grow w #[] := by cases w; simp [Go.Sort.grow]
theorem pad_len {α : Type} (l c : List α) (h : c.length ≤ l.length) (z : α) : (c ++ List.replicate (l.length - c.length) z).length = l.length := by simp; omega
open Go.Sort in
theorem mut_sortStr {gl : Gl} {P : Program} {f : FuncId} {k id : Nat} {hp : Heap} {e : TypeId} (l : List (List UInt8)) (hid : hget hp id = .arr e 1 (l.map fun x => [V.con (str x)]))
  (h : ∀ (blk off cap : Nat) (zs : List (List UInt8)) (w : World), Holds str w blk off zs.toArray → blk < w.heap.size → zs.length < 4611686018427387904 → Calls P f #[.slice (some ⟨blk, off, none⟩) zs.length cap] w fun e w' =>
   e = .returned (.tuple #[]) ∧ ∃ n os, w' = grow (putRow str (Sort.ahead w n) blk off (zs.mergeSort fun x y => decide (x ≤ y)).toArray) os)
  (hn : ∀ (p : Option Addr) (w : World), Calls P f #[.slice p 0 0] w fun e w' => e = .returned (.tuple #[]) ∧ w' = w) (hc : l.length < 4611686018427387904) :
  MutG gl P f [.own id l.length] k hp (.tup []) k ((id, .arr e 1 ((tsort l).map fun x => [V.con (str x)])) :: hp) :=
 mut_sortG str (fun _ => rfl) l (tsort l) hid (List.length_mergeSort _) (fun w blk off cap hH hb => h blk off cap l w hH hb hc) (fun w a _ => (hn a w).mono (by rintro e w' ⟨rfl, rfl⟩; exact ⟨rfl, Below.refl _ _, Nat.le_refl _⟩))
open Go.Sort in
theorem mut_compactS {gl : Gl} {P : Program} {f : FuncId} {k id : Nat} {hp : Heap} {e : TypeId} {α : Type} [Inhabited α] [DecidableEq α] (enc : α → Value) (h1c : ∀ x, (enc x).oneCell' = true) (z : α) (l : List α) (hid : hget hp id = .arr e 1 (l.map fun x => [V.con (enc x)]))
  (h : ∀ (blk off cap : Nat) (zs : List α) (w : World), Holds enc w blk off zs.toArray → zs.length ≤ 9223372036854775807 → zs.length ≤ cap → Calls P f #[.slice (some ⟨blk, off, none⟩) zs.length cap] w fun e w' =>
   e = .returned (.slice (some ⟨blk, off, none⟩) (Lib.compact zs).length cap) ∧ ∃ q, w' = putRow enc (Sort.ahead w q) blk off (Lib.compact zs ++ List.replicate (zs.length - (Lib.compact zs).length) z).toArray)
  (hn : ∀ (p : Option Addr) (w : World), Calls P f #[.slice p 0 0] w fun e w' => e = .returned (.slice p 0 0) ∧ w' = w) (hc : l.length ≤ 140737488355328) :
  MutG gl P f [.own id l.length] k hp (.own id (cpt l).length) k ((id, .arr e 1 ((cpt l).map fun x => [V.con (enc x)])) :: hp) :=
 mut_compactG enc h1c l (cpt l) (List.replicate (l.length - (cpt l).length) z) hid (pad_len _ _ (cpt_len l) z) (fun w blk off cap hH _ hcap => (h blk off cap l w hH (by omega) hcap).mono (by rintro e w' ⟨rfl, q, rfl⟩; exact ⟨rfl, q, #[], grow_nil _⟩)) (fun w a _ => (hn a w).mono (by rintro e w' ⟨rfl, rfl⟩; exact ⟨rfl, Below.refl _ _, Nat.le_refl _⟩))
end Go.Pv
namespace Go.Pv
open Go Go.RowKit Go.Sort Go.Proofs
def cltM {T : Type} (cmp : T → T → Option Int) (x y : T) : Bool := match cmp x y with | some c => decide (c < 0) | none => false
def swoM {T : Type} (cmp : T → T → Option Int) (l : List T) : Bool :=
 l.all fun x => !cltM cmp x x && l.all fun y => (cmp x y).isSome && l.all fun z => (!(cltM cmp x y && cltM cmp y z) || cltM cmp x z) && (cltM cmp x y || cltM cmp y z || !cltM cmp x z)
def dstM {T : Type} (cmp : T → T → Option Int) : List T → Bool
 | [] => true
 | x :: l => l.all (fun y => cltM cmp x y || cltM cmp y x) && dstM cmp l
def ascM {T : Type} (cmp : T → T → Option Int) : List T → Bool
 | [] => true
 | x :: l => l.all (fun y => !cltM cmp y x) && ascM cmp l
def srtM {T : Type} (cmp : T → T → Option Int) (l : List T) : Option (List T) :=
 bif swoM cmp l && dstM cmp l && ascM cmp (l.mergeSort fun x y => !cltM cmp y x) && Nat.blt l.length 4611686018427387904 then some (l.mergeSort fun x y => !cltM cmp y x) else none
theorem ascM_pw {T : Type} {cmp : T → T → Option Int} : ∀ {l : List T}, ascM cmp l = true → l.Pairwise fun x y => cltM cmp y x = false
 | [], _ => .nil
 | x :: l, h => by
  simp only [ascM, Bool.and_eq_true, List.all_eq_true, Bool.not_eq_true'] at h
  exact .cons h.1 (ascM_pw h.2)
theorem dstM_uniq {T : Type} {cmp : T → T → Option Int} : ∀ {l : List T}, dstM cmp l = true → ∀ x ∈ l, ∀ y ∈ l, cltM cmp x y = false → cltM cmp y x = false → x = y
 | [], _, x, hx, _, _, _, _ => by simp at hx
 | z :: l, h, x, hx, y, hy, h1, h2 => by
  simp only [dstM, Bool.and_eq_true, List.all_eq_true, Bool.or_eq_true] at h
  rcases List.mem_cons.1 hx with e | hx'
  ·rcases List.mem_cons.1 hy with e' | hy'
   ·rw [e, e']
   ·rw [e] at h1 h2
    rcases h.1 y hy' with q | q
    ·rw [q] at h1; simp at h1
    ·rw [q] at h2; simp at h2
  ·rcases List.mem_cons.1 hy with e' | hy'
   ·rw [e'] at h1 h2
    rcases h.1 x hx' with q | q
    ·rw [q] at h2; simp at h2
    ·rw [q] at h1; simp at h1
   ·exact dstM_uniq h.2 x hx' y hy' h1 h2
structure RowT {T : Type} (l : List T) (enc : T → List V) (k : Nat) (m : Mem) where
 t : T
 mem : t ∈ l
 vs : List Value
 hl : vs.length = k
 h1 : ∀ v ∈ vs, v.oneCell' = true
 rel : ∀ (j : Nat) (c : V) (v : Value), (enc t)[j]? = some c → vs[j]? = some v → IRel m c v
theorem grew_grow {m m' : Mem} {w w' : World} (h : Grew m m' w w') : ∃ q os, w' = grow (w.drewN q) os := by
 obtain ⟨q, hq⟩ := Nat.exists_eq_add_of_le h.same.drawn
 refine ⟨q, w'.heap.extract w.heap.size w'.heap.size, ?_⟩
 have hh : w'.heap = w.heap ++ w'.heap.extract w.heap.size w'.heap.size := by
  apply Array.ext'
  simp only [Array.toList_append, Array.toList_extract]
  apply List.ext_getElem?
  intro i
  by_cases hi : i < w.heap.size
  ·rw [List.getElem?_append_left (by simpa using hi)]
   have := h.heap i hi
   simpa using this
  ·rw [List.getElem?_append_right (by simpa using Nat.le_of_not_lt hi)]
   have hs := h.size
   by_cases h2 : i < w'.heap.size
   ·rw [List.getElem?_take_of_lt (by simp; omega), List.getElem?_drop]
    congr 1
    simp; omega
   ·rw [List.getElem?_eq_none (by simpa using h2), List.getElem?_eq_none (by simp; omega)]
 obtain ⟨h0, h1, h2, h3, h4⟩ := w
 obtain ⟨g0, g1, g2, g3, g4⟩ := w'
 have s1 := h.same.os; have s2 := h.same.tape; have s3 := h.same.output
 simp only at hh hq s1 s2 s3
 subst s1 s2 s3 hq
 simp only [grow, World.drewN]
 rw [← hh]
theorem pair_of_sorted {α T : Type} [Inhabited α] {f : α → T} {r : T → T → Prop} {d : Array α} (h : ∀ i j, 0 ≤ i → i < j → j < d.size → r (f d[i]!) (f d[j]!)) : (d.toList.map f).Pairwise r := by
 rw [List.pairwise_iff_getElem]
 intro i j hi hj hij
 have hi' : i < d.size := by simpa using hi
 have hj' : j < d.size := by simpa using hj
 have := h i j (Nat.zero_le _) hij hj'
 rw [getElem!_pos d i hi', getElem!_pos d j hj'] at this
 simpa using this
theorem cmp_lays {gl : Gl} {P : Program} {g : FuncId} {m : Mem} {T : Type} {l : List T} {enc : T → List V} {k : Nat} {w : World} {b off size : Nat} {cs : Array Value} {caps : List V} {cmp : T → T → Option Int} [Inhabited (RowT l enc k m)] (hek : ∀ x, (enc x).length = k) (hgl : GlOk gl m)
  (hcl : caps.length = cs.size) (hcr : ∀ (i : Nat) (c : V) (v : Value), caps[i]? = some c → cs[i]? = some v → IRel m c v)
  (himm : ∀ (nd : Nat) (dk : Array (RowT l enc k m)) (os : Array Obj) (b' : Nat) (o : Obj), m b' = some o → (sortWorldK RowT.vs k w b off nd dk os).heap[b']? = some o)
  (hcmp : ∀ x y c, cmp x y = some c → PureG gl P g ([.agg (enc x), .agg (enc y)] ++ caps) (.con (.int .i64 c)))
  (hd : ∀ x ∈ l, ∀ y ∈ l, (cmp x y).isSome = true) : CmpLays P g cs (RowT.vs (l := l) (enc := enc) (k := k) (m := m)) k (fun x y => (cmp x.t y.t).getD 0) b off size w := by
 intro nd os dk _ x y
 have hi := himm nd dk os
 generalize sortWorldK RowT.vs k w b off nd dk os = W at hi
 obtain ⟨c, hc⟩ := Option.isSome_iff_exists.1 (hd x.t x.mem y.t y.mem)
 have hrelx : ∀ x : RowT l enc k m, IRel m (.agg (enc x.t)) (.agg x.vs.toArray) := fun x => .agg (by simp [hek, x.hl]) fun i c v h1 h2 => x.rel i c v h1 (by simpa using h2)
 have hrels : IRels m ([.agg (enc x.t), .agg (enc y.t)] ++ caps) (#[.agg x.vs.toArray, .agg y.vs.toArray] ++ cs) := by
  refine ⟨by simp [hcl]; omega, fun i c' v' h1 h2 => ?_⟩
  match i, h1, h2 with
  | 0, h1, h2 =>
   simp at h1
   rw [Array.getElem?_append_left (by simp)] at h2
   simp at h2
   rw [← h1, ← h2]; exact hrelx x
  | 1, h1, h2 =>
   simp at h1
   rw [Array.getElem?_append_left (by simp)] at h2
   simp at h2
   rw [← h1, ← h2]; exact hrelx y
  | i + 2, h1, h2 =>
   refine hcr i c' v' (by simpa using h1) ?_
   rw [Array.getElem?_append_right (by simp)] at h2
   simpa using h2
 refine Calls.mono (hcmp x.t y.t c hc m W _ hi hgl hrels) ?_
 rintro ex w' ⟨v', m', rfl, hv', hgr⟩
 cases hv'
 refine ⟨?_, grew_grow hgr⟩
 show Ending.returned (.int .i64 c) = .returned (.int .i64 ((cmp x.t y.t).getD 0))
 rw [hc]; rfl
set_option maxHeartbeats 1000000 in
theorem mut_sortF {gl : Gl} {P : Program} {f g : FuncId} {kk id : Nat} {hp : Heap} {e : TypeId} {k : Nat} {T : Type} (enc : T → List V) (hek : ∀ x, (enc x).length = k) (hei : ∀ x, Imms (enc x)) (caps : List V) (hci : Imms caps) (cmp : T → T → Option Int) (l r : List T)
  (hid : hget hp id = .arr e k (l.map enc)) (hr : srtM cmp l = some r)
  (hcmp : ∀ x y c, cmp x y = some c → PureG gl P g ([.agg (enc x), .agg (enc y)] ++ caps) (.con (.int .i64 c)))
  (h : ∀ {α : Type} [Inhabited α] (encR : α → List Value) (_ : ∀ x, (encR x).length = k) (_ : ∀ x, ∀ v ∈ encR x, v.oneCell' = true) (cf : α → α → Int) (_ : SWO (ltOf cf)) (cb : Array Value) (blk off cap : Nat) (d : Array α) (w : World) (_ : CmpLays P g cb encR k cf blk off d.size w) (_ : HoldsK encR k w blk off d) (_ : blk < w.heap.size) (_ : d.size < 4611686018427387904),
   Calls P f #[.slice (some ⟨blk, off, none⟩) d.size cap, .func (.func g) #[] cb] w fun e w' => e = .returned (.tuple #[]) ∧ ∃ d' n os, PermIn 0 d.size d d' ∧ SortedIn (ltOf cf) 0 d.size d' ∧ w' = sortWorldK encR k w blk off n d' os)
  (hn : ∀ (p : Option Addr) (cap : Nat) (fv : Value) (w : World), Calls P f #[.slice p 0 cap, fv] w fun e w' => e = .returned (.tuple #[]) ∧ w' = w) :
  MutG gl P f [.own id l.length, .fn (.func g) [] caps] kk hp (.tup []) kk ((id, .arr e k (r.map enc)) :: hp) := by
 intro m β w vs himm hgl hargs hown hpriv hinj hhid hnx
 obtain ⟨v, u, rfl⟩ : ∃ v u, vs = #[v, u] := by
  have := hargs.len
  simp at this
  refine ⟨vs[0], vs[1], ?_⟩
  apply Array.ext
  ·simp [← this]
  ·intro i h1 h2
   have : i = 0 ∨ i = 1 := by simp at h2; omega
   rcases this with rfl | rfl <;> simp
 have hv := hargs.at' 0 _ _ rfl rfl
 have hu := hargs.at' 1 _ _ rfl rfl
 have hob := hown id
 rw [hid] at hob
 unfold srtM at hr
 cases hguard : (swoM cmp l && dstM cmp l && ascM cmp (l.mergeSort fun x y => !cltM cmp y x) && Nat.blt l.length 4611686018427387904) with
 | false => rw [hguard] at hr; simp at hr
 | true =>
 rw [hguard] at hr
 simp only [cond_true, Option.some.injEq] at hr
 simp only [Bool.and_eq_true] at hguard
 obtain ⟨⟨⟨hswo, hdst⟩, hasc⟩, hlen⟩ := hguard
 have hlen : l.length < 4611686018427387904 := Nat.le_of_ble_eq_true hlen
 have hperm : r.Perm l := by rw [← hr]; exact List.mergeSort_perm _ _
 have hrl : r.length = l.length := hperm.length_eq
 rw [hr] at hasc
 have hsorted := ascM_pw hasc
 have hswo' : ∀ x ∈ l, cltM cmp x x = false ∧ ∀ y ∈ l, (cmp x y).isSome = true ∧ ∀ z ∈ l, (cltM cmp x y = true → cltM cmp y z = true → cltM cmp x z = true) ∧ (cltM cmp x y = false → cltM cmp y z = false → cltM cmp x z = false) := by
  intro x hx
  unfold swoM at hswo
  have h1 := List.all_eq_true.1 hswo x hx
  simp only [Bool.and_eq_true, Bool.not_eq_true', List.all_eq_true] at h1
  refine ⟨h1.1, fun y hy => ?_⟩
  have h2 := h1.2 y hy
  refine ⟨h2.1, fun z hz => ?_⟩
  have h3 := h2.2 z hz
  revert h3
  cases cltM cmp x y <;> cases cltM cmp y z <;> cases cltM cmp x z <;> simp
 have hg : ∀ q, hget ((id, Ob.arr e k (r.map enc)) :: hp) q = if id = q then Ob.arr e k (r.map enc) else hget hp q := fun q => hget_put _ _ _ _
 have hlive : ∀ q, hget ((id, Ob.arr e k (r.map enc)) :: hp) q ≠ .dead → hget hp q ≠ .dead := fun q hq => by
  rw [hg] at hq
  split at hq
  ·rename_i hh; subst hh; rw [hid]; simp
  ·exact hq
 have hhids : ∀ (w' : World), w.heap.size ≤ w'.heap.size → ∀ q x, hget ((id, Ob.arr e k (r.map enc)) :: hp) q ≠ .dead → β.hid q x → x < w'.heap.size ∧ m x = none ∧ (x < w.heap.size → ¬ Foreign hp β x) ∧
   (∀ i b c, hget ((id, Ob.arr e k (r.map enc)) :: hp) i ≠ .dead → β i = some (some (b, c)) → x ≠ b) ∧ ∀ i, hget ((id, Ob.arr e k (r.map enc)) :: hp) i ≠ .dead → β.hid i x → i = q := by
  intro w' hs q x hq hx
  obtain ⟨q1, q2, q3, q4⟩ := hhid q x (hlive q hq) hx
  exact ⟨by omega, q2, fun _ hF => (hF q (hlive q hq)).2 hx, fun i b c hi => q3 i b c (hlive i hi), fun i hi => q4 i (hlive i hi)⟩
 obtain ⟨cs, rfl, hcl, hcr⟩ : ∃ cs : Array Value, u = .func (.func g) #[] cs ∧ caps.length = cs.size ∧ ∀ (i : Nat) (c : V) (v : Value), caps[i]? = some c → cs[i]? = some v → IRel m c v := by
  cases hu with
  | imm h' =>
   cases h' with
   | @fn _ _ _ fs cs hl hl' hf hc =>
    have : fs = #[] := Array.eq_empty_of_size_eq_zero (by simpa using hl.symm)
    subst this
    exact ⟨cs, rfl, hl', hc⟩
  | @fn _ _ _ fs cs hl hl' hf hc =>
   have : fs = #[] := Array.eq_empty_of_size_eq_zero (by simpa using hl.symm)
   subst this
   exact ⟨cs, rfl, hl', fun i c v h1 h2 => (hci c (List.mem_of_getElem? h1)).2 _ _ _ (hc i c v h1 h2)⟩
 by_cases hnil : l = []
 ·subst hnil
  have hrn : r = [] := List.length_eq_zero_iff.1 hrl
  subst hrn
  obtain ⟨p, c, rfl⟩ : ∃ p c, v = .slice p 0 c := by
   cases hv with
   | imm h' => cases h'
   | ownNil hb => exact ⟨_, _, rfl⟩
   | own hb => exact ⟨_, _, rfl⟩
  refine (hn p c _ w).mono ?_
  rintro ex w' ⟨rfl, rfl⟩
  have hsm : ∀ q, hget ((id, Ob.arr e k (([] : List T).map enc)) :: hp) q = hget hp q := fun q => by
   rw [hg]
   split
   ·rename_i hh; subst hh; rw [hid]
   ·rfl
  refine ⟨_, m, β, rfl, .tup rfl (by simp), Mem.le_refl _, himm, fun b hb _ => ⟨rfl, rfl⟩, Nat.le_refl _, ⟨rfl, rfl, rfl, Nat.le_refl _⟩, fun q => ?_, fun q b cap hq hbq => ?_, fun q q' b cap cap' hq hq' => hinj q q' b cap cap' (hlive q hq) (hlive q' hq'), hhids w' (Nat.le_refl _), hnx, fun q hq => ⟨hq, rfl⟩⟩
  ·rw [hsm]; exact hown q
  ·have hq := hlive q hq
   exact ⟨hpriv q b cap hq hbq, fun _ hF => (hF q hq).1 cap hbq⟩
 generalize hnl : l.length = n at hv
 cases hv with
 | imm h' => cases h'
 | @ownNil _ ad hb => exact absurd (List.length_eq_zero_iff.1 hnl) hnil
 | @own _ _ b cap hb =>
 rw [hb] at hob
 obtain ⟨arr, bl, o1, o2, o3, o4, o5, oB, o6⟩ := hob
 have hbs : b < w.heap.size := lt_of_some o1
 have o3' : l.length ≤ cap.n := by simpa using o3
 have hlid : hget hp id ≠ .dead := by rw [hid]; simp
 have hmb : m b = none := hpriv id b cap hlid hb
 have hcell : ∀ (i : Nat) (hi : i < l.length) (j : Nat) (c : V), (enc l[i])[j]? = some c → ∃ v, arr[cap.off + (i * k + j)]? = some v ∧ IRel m c v ∧ v.oneCell' = true := fun i hi j c hc => by
  obtain ⟨v, v1, v2, v3⟩ := o6 i j (enc l[i]) c (by simp [List.getElem?_eq_getElem hi]) hc
  have hI := hei l[i] c (List.mem_of_getElem? hc)
  exact ⟨v, v1, hI.2 _ _ _ (v2.v hI.1), v3⟩
 have hrow : ∀ i : Fin l.length, ∃ x : RowT l enc k m, x.t = l[i.1] ∧ ∀ j, j < k → arr[cap.off + (i.1 * k + j)]? = x.vs[j]? := fun i => by
  have hget : ∀ j, j < k → ∃ c v, (enc l[i.1])[j]? = some c ∧ arr[cap.off + (i.1 * k + j)]? = some v ∧ IRel m c v ∧ v.oneCell' = true := fun j hj => by
   have hj' : j < (enc l[i.1]).length := by rw [hek]; exact hj
   obtain ⟨v, hv⟩ := hcell i.1 i.2 j _ (List.getElem?_eq_getElem hj')
   exact ⟨_, v, List.getElem?_eq_getElem hj', hv⟩
  have hvs : ∀ j, j < k → ((List.range k).map fun j => arr[cap.off + (i.1 * k + j)]!)[j]? = arr[cap.off + (i.1 * k + j)]? := fun j hj => by
   obtain ⟨c, v, h1, h2, h3⟩ := hget j hj
   rw [List.getElem?_map, List.getElem?_range hj, Option.map_some, h2]
   have hlt := (Array.getElem?_eq_some_iff.1 h2).1
   rw [getElem!_pos arr _ hlt]
   rw [Array.getElem?_eq_getElem hlt] at h2
   exact h2
  refine ⟨⟨l[i.1], List.getElem_mem _, (List.range k).map fun j => arr[cap.off + (i.1 * k + j)]!, by simp, fun v hv => ?_, fun j c v hc hv => ?_⟩, rfl, fun j hj => (hvs j hj).symm⟩
  ·obtain ⟨j, hj⟩ := List.getElem?_of_mem hv
   have hjk : j < k := by have := (List.getElem?_eq_some_iff.1 hj).1; simpa using this
   obtain ⟨c, v', h1, h2, h3, h4⟩ := hget j hjk
   rw [hvs j hjk, h2] at hj
   cases hj
   exact h4
  ·have hjk : j < k := by have := (List.getElem?_eq_some_iff.1 hv).1; simpa using this
   obtain ⟨c', v', h1, h2, h3, h4⟩ := hget j hjk
   rw [hvs j hjk, h2] at hv
   cases hv
   rw [h1] at hc
   cases hc
   exact h3
 obtain ⟨row, hrow⟩ : ∃ row : Fin l.length → RowT l enc k m, ∀ i, (row i).t = l[i.1] ∧ ∀ j, j < k → arr[cap.off + (i.1 * k + j)]? = (row i).vs[j]? := ⟨fun i => (hrow i).choose, fun i => (hrow i).choose_spec⟩
 haveI : Inhabited (RowT l enc k m) := ⟨row ⟨0, List.length_pos_iff.2 hnil⟩⟩
 obtain ⟨d, hds, hdi⟩ : ∃ d : Array (RowT l enc k m), d.size = n ∧ ∀ i (hi : i < l.length), d[i]! = row ⟨i, hi⟩ := by
  refine ⟨Array.ofFn row, by simp [hnl], fun i hi => ?_⟩
  rw [getElem!_pos _ i (by simpa using hi)]
  simp
 have hdt : d.toList.map RowT.t = l := by
  apply List.ext_getElem?
  intro i
  by_cases hi : i < l.length
  ·have : i < d.size := by rw [hds, ← hnl]; exact hi
   rw [List.getElem?_map, Array.getElem?_toList, Array.getElem?_eq_getElem this, Option.map_some, List.getElem?_eq_getElem hi]
   have h2 := hdi i hi
   rw [getElem!_pos d i this] at h2
   rw [h2, (hrow ⟨i, hi⟩).1]
  ·rw [List.getElem?_eq_none (by simp [hds, ← hnl]; omega), List.getElem?_eq_none (by omega)]
 have hlt : ∀ x y : RowT l enc k m, ltOf (fun x y : RowT l enc k m => (cmp x.t y.t).getD 0) x y = cltM cmp x.t y.t := fun x y => by
  have := ((hswo' x.t x.mem).2 y.t y.mem).1
  show decide ((cmp x.t y.t).getD 0 < 0) = _
  unfold cltM
  cases hc : cmp x.t y.t with
  | none => rw [hc] at this; simp at this
  | some c => rfl
 have hSW : SWO (ltOf (fun x y : RowT l enc k m => (cmp x.t y.t).getD 0)) := by
  refine ⟨fun x => ?_, fun x y z h1 h2 => ?_, fun x y z h1 h2 => ?_⟩
  ·rw [hlt]; exact (hswo' x.t x.mem).1
  ·rw [hlt] at *; exact (((hswo' x.t x.mem).2 y.t y.mem).2 z.t z.mem).1 h1 h2
  ·rw [hlt] at *; exact (((hswo' x.t x.mem).2 y.t y.mem).2 z.t z.mem).2 h1 h2
 have hheap : ∀ (nd : Nat) (dk : Array (RowT l enc k m)) (os : Array Obj) (b' : Nat), b' < w.heap.size → (sortWorldK RowT.vs k w b cap.off nd dk os).heap[b']? = if b = b' then (w.heap[b']?).map (onCells (putCells _root_.id cap.off (flatK RowT.vs k dk))) else w.heap[b']? := fun nd dk os b' hb' => heap_sorted _root_.id w nd b cap.off (flatK RowT.vs k dk) os b' hb'
 have hother : ∀ (nd : Nat) (dk : Array (RowT l enc k m)) (os : Array Obj) (b' : Nat), b' < w.heap.size → b' ≠ b → (sortWorldK RowT.vs k w b cap.off nd dk os).heap[b']? = w.heap[b']? := fun nd dk os b' h1 h2 => by rw [hheap nd dk os b' h1, if_neg (Ne.symm h2)]
 have himm' : ∀ (nd : Nat) (dk : Array (RowT l enc k m)) (os : Array Obj) (b' : Nat) (o : Obj), m b' = some o → (sortWorldK RowT.vs k w b cap.off nd dk os).heap[b']? = some o := fun nd dk os b' o hb' => by
  have hne : b' ≠ b := fun e => by rw [e, hmb] at hb'; simp at hb'
  rw [hother nd dk os b' (lt_of_some (himm b' o hb')) hne]
  exact himm b' o hb'
 have hC := cmp_lays (size := d.size) (w := w) (b := b) (off := cap.off) hek hgl hcl hcr himm' hcmp fun x hx y hy => ((hswo' x hx).2 y hy).1
 have hH : HoldsK RowT.vs k w b cap.off d := by
  intro j hj
  have hjd : j < d.size * k := by simpa using hj
  have hk0 : 0 < k := by
   rcases Nat.eq_zero_or_pos k with h0 | h0
   ·rw [show d.size * k = 0 from by rw [Nat.mul_eq_zero]; exact .inr h0] at hjd; omega
   ·exact h0
  have hi : j / k < l.length := by rw [hnl, ← hds]; exact Nat.div_lt_of_lt_mul (by rw [Nat.mul_comm]; exact hjd)
  have hjk : j % k < k := Nat.mod_lt _ hk0
  refine ⟨?_, by simp [World.frozen?, o1]⟩
  rw [get_flatK RowT.vs k d j hjd, hdi _ hi, cell_of_heap o1]
  have h2 := (hrow ⟨j / k, hi⟩).2 (j % k) hjk
  have e1 : j / k * k + j % k = j := by rw [Nat.mul_comm]; exact Nat.div_add_mod j k
  simp only [e1] at h2
  rw [h2]
  have hlt2 : j % k < (row ⟨j / k, hi⟩).vs.length := by rw [(row ⟨j / k, hi⟩).hl]; exact hjk
  rw [List.getElem?_eq_getElem hlt2]
  show _ = some ((row ⟨j / k, hi⟩).vs[j % k]!)
  rw [getElem!_pos (row ⟨j / k, hi⟩).vs (j % k) hlt2]
 have hcall := h RowT.vs (fun x => x.hl) (fun x => x.h1) _ hSW cs b cap.off cap.n d w hC hH hbs (by rw [hds, ← hnl]; exact hlen)
 rw [hds] at hcall
 refine hcall.mono ?_
 rintro ex w' ⟨rfl, d', nd, os, hP, hS, rfl⟩
 obtain ⟨p1, _, p3⟩ := hP
 have hd's : d'.size = n := by rw [p1, hds]
 have hd'p : d'.toList.Perm d.toList := by
  have e1 : d'.extract 0 n = d' := by rw [← hd's]; exact Array.extract_size
  have e2 : d.extract 0 n = d := by rw [← hds]; exact Array.extract_size
  rwa [e1, e2] at p3
 have hd't : d'.toList.map RowT.t = r := by
  refine List.Perm.eq_of_pairwise (le := fun x y => cltM cmp y x = false) (fun x y h1 h2 h3 h4 => ?_) ?_ hsorted (((hd'p.map RowT.t).trans (by rw [hdt])).trans hperm.symm)
  ·exact dstM_uniq hdst x (((hd'p.map RowT.t).trans (by rw [hdt])).mem_iff.1 h1) y (hperm.mem_iff.1 h2) h4 h3
  ·refine pair_of_sorted (f := RowT.t) (r := fun x y => cltM cmp y x = false) fun i j hi hij hj => ?_
   rw [← hlt]
   exact hS i j hi hij (by rw [← hd's]; exact hj)
 have hsz : w.heap.size ≤ (sortWorldK RowT.vs k w b cap.off nd d' os).heap.size := by simp [sortWorldK, putRowK, grow, putRow, mapBlock, Sort.ahead]
 refine ⟨_, m, β, rfl, .tup rfl (by simp), Mem.le_refl _, himm' nd d' os, fun b' hb' hF => ⟨rfl, hother nd d' os b' hb' (fun e => ?_)⟩, hsz, ⟨rfl, rfl, rfl, Nat.le_add_right _ _⟩, fun q => ?_, fun q b' cap' hq hbq => ?_, fun q q' b1 cap1 cap2 hq hq' => hinj q q' b1 cap1 cap2 (hlive q hq) (hlive q' hq'), hhids _ hsz, hnx, fun q hq => ⟨hq, rfl⟩⟩
 ·subst e; exact (hF id hlid).1 cap hb
 ·rw [hg]
  split
  ·rename_i hh
   subst hh
   rw [hb]
   refine ⟨putCells _root_.id cap.off (flatK RowT.vs k d') arr, bl, by rw [hheap nd d' os b hbs, if_pos rfl, o1]; rfl, by simp [putCells, o2], by simpa [hrl] using o3, o4, ?_, oB, fun i j rw' c hr' hc => ?_⟩
   ·intro rw' hr'
    obtain ⟨x, _, rfl⟩ := List.mem_map.1 hr'
    exact hek x
   ·rw [← hd't, List.map_map, List.getElem?_map, Array.getElem?_toList] at hr'
    cases hx : d'[i]? with
    | none => rw [hx] at hr'; simp at hr'
    | some x =>
     rw [hx] at hr'
     simp at hr'
     subst hr'
     have hi : i < d'.size := (Array.getElem?_eq_some_iff.1 hx).1
     have hjk : j < k := by have := (List.getElem?_eq_some_iff.1 hc).1; rwa [hek] at this
     have hjv : j < x.vs.length := by rw [x.hl]; exact hjk
     have hij : i * k + j < d'.size * k := by
      have := Nat.mul_le_mul_right k (show i + 1 ≤ d'.size from hi)
      rw [Nat.succ_mul] at this
      omega
     have ha : cap.off + (i * k + j) < arr.size := by
      rw [o2]
      have := Nat.mul_le_mul_right k (show d'.size ≤ cap.n by rw [hd's, ← hnl]; exact o3')
      omega
     have e1 : (i * k + j) / k = i := by
      rw [Nat.mul_comm, Nat.mul_add_div (by omega), Nat.div_eq_of_lt hjk, Nat.add_zero]
     have e2 : (i * k + j) % k = j := by rw [Nat.mul_comm, Nat.mul_add_mod, Nat.mod_eq_of_lt hjk]
     refine ⟨x.vs[j], ?_, .inl (.imm (x.rel j c _ hc (List.getElem?_eq_getElem hjv))), x.h1 _ (List.getElem_mem _)⟩
     unfold putCells
     rw [Array.getElem?_mapIdx, Array.getElem?_eq_getElem ha, Option.map_some, if_pos ⟨Nat.le_add_right _ _, by rw [size_flatK]; omega⟩, Nat.add_sub_cancel_left, get_flatK RowT.vs k d' _ hij, e1, e2]
     have hx2 : d'[i]! = x := by
      rw [getElem!_pos d' i hi]
      rw [Array.getElem?_eq_getElem hi] at hx
      exact Option.some.inj hx
     rw [hx2]
     show some ((x.vs)[j]!) = _
     rw [getElem!_pos x.vs j hjv]
  ·rename_i hne
   by_cases hd : hget hp q = .dead
   ·rw [hd]; exact ObOk.dead' _
   ·refine ObOk.congr (fun b' cap' hbb => hother nd d' os b' (live_lt hd hbb (hown q)) (fun e => ?_)) (fun x hx => hother nd d' os x (hhid q x hd hx).1 ((hhid q x hd hx).2.2.1 id b cap hlid hb)) (hown q)
    subst e
    exact hne (hinj id q b' cap cap' hlid hd hb hbb)
 ·have hq := hlive q hq
  exact ⟨hpriv q b' cap' hq hbq, fun _ hF => (hF q hq).1 cap' hbq⟩
end Go.Pv
namespace Go.Proofs.YtpbkggamiipdmaaGreat
open Go Go.Pv
set_option linter.unusedVariables false
set_option maxRecDepth 100000
theorem mixed : Tryz.prog.follows .mixedOrders = true := by kernel_rfl
structure TIface where
 Name : (List UInt8)
 Methods : (List (List UInt8))
 deriving DecidableEq
structure TMethod where
 Name : (List UInt8)
 Func : (List UInt8)
 deriving DecidableEq
structure TType where
 Name : (List UInt8)
 Methods : (List TMethod)
 deriving DecidableEq
structure TCall where
 Kind : Int
 Target : (List UInt8)
 Method : (List UInt8)
 Feature : (List UInt8)
 deriving DecidableEq
structure TFunc where
 Name : (List UInt8)
 Component : (List UInt8)
 Calls : (List TCall)
 Makes : (List (List UInt8))
 deriving DecidableEq
structure TGraph where
 Ifaces : (List TIface)
 Types : (List TType)
 Funcs : (List TFunc)
 Entries : (List (List UInt8))
 deriving DecidableEq
structure Treach_checker where
 loose : Bool
 ifaces : (List ((List UInt8) × TIface))
 types : (List ((List UInt8) × Bool))
 funcs : (List ((List UInt8) × Bool))
 deriving DecidableEq
structure Tprovenderref6_names where
 ifaces : (List ((List UInt8) × (List ((List UInt8) × Bool))))
 types : (List ((List UInt8) × Bool))
 funcs : (List ((List UInt8) × Bool))
 deriving DecidableEq
structure Tprovenderref6_checker where
 g : TGraph
 n : Tprovenderref6_names
 loose : Bool
 deriving DecidableEq
def encS (x : (List UInt8)) : List V := [(sV x)]
theorem imms_encS (x : (List UInt8)) : Imms (encS x) := (.cons (Imm.con _) .nil)
theorem one_encS (x : (List UInt8)) : (encS x).all oneV = true := rfl
instance : EI encS := ⟨imms_encS, one_encS⟩
def encTIface (x : TIface) : List V := [(sV x.Name), (V.lst 1 (x.Methods.map encS))]
theorem imms_encTIface (x : TIface) : Imms (encTIface x) := (.cons (Imm.con _) (.cons (Imm.lst _ _) .nil))
theorem one_encTIface (x : TIface) : (encTIface x).all oneV = true := rfl
instance : EI encTIface := ⟨imms_encTIface, one_encTIface⟩
@[simp] theorem len_encTIface (x : TIface) : (encTIface x).length = 2 := rfl
def encTMethod (x : TMethod) : List V := [(sV x.Name), (sV x.Func)]
theorem imms_encTMethod (x : TMethod) : Imms (encTMethod x) := (.cons (Imm.con _) (.cons (Imm.con _) .nil))
theorem one_encTMethod (x : TMethod) : (encTMethod x).all oneV = true := rfl
instance : EI encTMethod := ⟨imms_encTMethod, one_encTMethod⟩
@[simp] theorem len_encTMethod (x : TMethod) : (encTMethod x).length = 2 := rfl
def encTType (x : TType) : List V := [(sV x.Name), (V.lst 2 (x.Methods.map encTMethod))]
theorem imms_encTType (x : TType) : Imms (encTType x) := (.cons (Imm.con _) (.cons (Imm.lst _ _) .nil))
theorem one_encTType (x : TType) : (encTType x).all oneV = true := rfl
instance : EI encTType := ⟨imms_encTType, one_encTType⟩
@[simp] theorem len_encTType (x : TType) : (encTType x).length = 2 := rfl
def encTCall (x : TCall) : List V := [(iV x.Kind), (sV x.Target), (sV x.Method), (sV x.Feature)]
theorem imms_encTCall (x : TCall) : Imms (encTCall x) := (.cons (Imm.con _) (.cons (Imm.con _) (.cons (Imm.con _) (.cons (Imm.con _) .nil))))
theorem one_encTCall (x : TCall) : (encTCall x).all oneV = true := rfl
instance : EI encTCall := ⟨imms_encTCall, one_encTCall⟩
@[simp] theorem len_encTCall (x : TCall) : (encTCall x).length = 4 := rfl
def encTFunc (x : TFunc) : List V := [(sV x.Name), (sV x.Component), (V.lst 4 (x.Calls.map encTCall)), (V.lst 1 (x.Makes.map encS))]
theorem imms_encTFunc (x : TFunc) : Imms (encTFunc x) := (.cons (Imm.con _) (.cons (Imm.con _) (.cons (Imm.lst _ _) (.cons (Imm.lst _ _) .nil))))
theorem one_encTFunc (x : TFunc) : (encTFunc x).all oneV = true := rfl
instance : EI encTFunc := ⟨imms_encTFunc, one_encTFunc⟩
@[simp] theorem len_encTFunc (x : TFunc) : (encTFunc x).length = 4 := rfl
def encTGraph (x : TGraph) : List V := [(V.lst 2 (x.Ifaces.map encTIface)), (V.lst 2 (x.Types.map encTType)), (V.lst 4 (x.Funcs.map encTFunc)), (V.lst 1 (x.Entries.map encS))]
theorem imms_encTGraph (x : TGraph) : Imms (encTGraph x) := (.cons (Imm.lst _ _) (.cons (Imm.lst _ _) (.cons (Imm.lst _ _) (.cons (Imm.lst _ _) .nil))))
theorem one_encTGraph (x : TGraph) : (encTGraph x).all oneV = true := rfl
instance : EI encTGraph := ⟨imms_encTGraph, one_encTGraph⟩
@[simp] theorem len_encTGraph (x : TGraph) : (encTGraph x).length = 4 := rfl
theorem eqp9 {d : Nat} : EqOk Tryz.prog (d + 1) 9 1 false (fun l => ∃ n, l = [.string n]) := eqOk_str (show Tryz.prog.underlying 9 = some (.string) by kernel_rfl) (show tyC Tryz.prog 9 = true by kernel_rfl)
def cv116 (x : TMethod) : List Value := [str x.Name] ++ ([str x.Func] ++ [])
theorem inj_cv116 (x y : TMethod) (h : cv116 x = cv116 y) : x = y := by
 obtain ⟨h0, h⟩ := List.append_inj h rfl
 obtain ⟨h1, h⟩ := List.append_inj h rfl
 obtain ⟨a0, a1⟩ := x
 obtain ⟨b0, b1⟩ := y
 obtain rfl : a0 = b0 := inj_str _ _ (List.cons.inj h0).1
 obtain rfl : a1 = b1 := inj_str _ _ (List.cons.inj h1).1
 rfl
theorem eqp116 {d : Nat} : EqOk Tryz.prog (d + 2) 116 2 true (fun l => ∃ x : TMethod, l = cv116 x) := (eqOk_struct (d := d + 1) (fs := [(Field.mk "Name" 9 0 false "" "" 0), (Field.mk "Func" 9 1 false "" "" 16)]) (by kernel_rfl) (by kernel_rfl) (by kernel_rfl) (by kernel_rfl) (eqF_cons eqp9 (by simp) rfl (by simp) (eqF_cons eqp9 (by simp) rfl (by simp) eqF_nil))).weaken (fun l ⟨x, hx⟩ => by subst hx; exact ⟨_, _, rfl, ⟨_, rfl⟩, ⟨_, _, rfl, ⟨_, rfl⟩, rfl⟩⟩)
theorem eqk116 : EqOk Tryz.prog 10000 116 2 true (fun l => ∃ x : TMethod, l = cv116 x) := eqp116 (d := 9998)
theorem eqp3 {d : Nat} : EqOk Tryz.prog (d + 1) 3 1 false (fun l => ∃ n, l = [.int .i64 n]) := eqOk_int (show Tryz.prog.underlying 3 = some (.int .i64) by kernel_rfl) (show tyC Tryz.prog 3 = true by kernel_rfl)
def cv109 (x : TCall) : List Value := [.int .i64 x.Kind] ++ ([str x.Target] ++ ([str x.Method] ++ ([str x.Feature] ++ [])))
theorem inj_cv109 (x y : TCall) (h : cv109 x = cv109 y) : x = y := by
 obtain ⟨h0, h⟩ := List.append_inj h rfl
 obtain ⟨h1, h⟩ := List.append_inj h rfl
 obtain ⟨h2, h⟩ := List.append_inj h rfl
 obtain ⟨h3, h⟩ := List.append_inj h rfl
 obtain ⟨a0, a1, a2, a3⟩ := x
 obtain ⟨b0, b1, b2, b3⟩ := y
 obtain rfl : a0 = b0 := inj_int _ _ (List.cons.inj h0).1
 obtain rfl : a1 = b1 := inj_str _ _ (List.cons.inj h1).1
 obtain rfl : a2 = b2 := inj_str _ _ (List.cons.inj h2).1
 obtain rfl : a3 = b3 := inj_str _ _ (List.cons.inj h3).1
 rfl
theorem eqp109 {d : Nat} : EqOk Tryz.prog (d + 2) 109 4 true (fun l => ∃ x : TCall, l = cv109 x) := (eqOk_struct (d := d + 1) (fs := [(Field.mk "Kind" 3 0 false "" "" 0), (Field.mk "Target" 9 1 false "" "" 8), (Field.mk "Method" 9 2 false "" "" 24), (Field.mk "Feature" 9 3 false "" "" 40)]) (by kernel_rfl) (by kernel_rfl) (by kernel_rfl) (by kernel_rfl) (eqF_cons eqp3 (by simp) rfl (by simp) (eqF_cons eqp9 (by simp) rfl (by simp) (eqF_cons eqp9 (by simp) rfl (by simp) (eqF_cons eqp9 (by simp) rfl (by simp) eqF_nil))))).weaken (fun l ⟨x, hx⟩ => by subst hx; exact ⟨_, _, rfl, ⟨_, rfl⟩, ⟨_, _, rfl, ⟨_, rfl⟩, ⟨_, _, rfl, ⟨_, rfl⟩, ⟨_, _, rfl, ⟨_, rfl⟩, rfl⟩⟩⟩⟩)
theorem eqk109 : EqOk Tryz.prog 10000 109 4 true (fun l => ∃ x : TCall, l = cv109 x) := eqp109 (d := 9998)
def encM9_98 (p : (List UInt8) × TIface) : Value × V := (str p.1, (V.agg [(sV p.2.Name), (V.lst 1 (p.2.Methods.map encS))]))
abbrev encM9_98_val (v : TIface) : V := (V.agg [(sV v.Name), (V.lst 1 (v.Methods.map encS))])
theorem encM9_98_puts (xs : List ((List UInt8) × TIface)) (k : (List UInt8)) (v : TIface) : Puts (str k) (encM9_98_val v) (xs.map encM9_98) ((mput xs k v).map encM9_98) := puts_map (kv := fun k => str k) (ev := encM9_98_val) inj_str xs k v
theorem encM9_98_look (xs : List ((List UInt8) × TIface)) (k : (List UInt8)) : Look (str k) (xs.map encM9_98) ((mget xs k).map encM9_98_val) := look_map (kv := fun k => str k) (ev := encM9_98_val) inj_str xs k
theorem encM9_98_imm {xs : List ((List UInt8) × TIface)} : ∀ p, p ∈ xs.map encM9_98 → Imm p.2 := by
 intro p hp
 obtain ⟨x, _, rfl⟩ := List.mem_map.1 hp
 exact (Imm.agg (.cons (Imm.con _) (.cons (Imm.lst _ _) .nil)))
instance : EM encM9_98 := ⟨fun _ => (Imm.agg (.cons (Imm.con _) (.cons (Imm.lst _ _) .nil)))⟩
theorem encM9_98_good {xs : List ((List UInt8) × TIface)} : ∀ p, p ∈ xs.map encM9_98 → isStr p.1 := by
 intro p hp
 obtain ⟨x, _, rfl⟩ := List.mem_map.1 hp
 exact ⟨_, rfl⟩
def encM9_4 (p : (List UInt8) × Bool) : Value × V := (str p.1, (bV p.2))
abbrev encM9_4_val (v : Bool) : V := (bV v)
theorem encM9_4_puts (xs : List ((List UInt8) × Bool)) (k : (List UInt8)) (v : Bool) : Puts (str k) (encM9_4_val v) (xs.map encM9_4) ((mput xs k v).map encM9_4) := puts_map (kv := fun k => str k) (ev := encM9_4_val) inj_str xs k v
theorem encM9_4_look (xs : List ((List UInt8) × Bool)) (k : (List UInt8)) : Look (str k) (xs.map encM9_4) ((mget xs k).map encM9_4_val) := look_map (kv := fun k => str k) (ev := encM9_4_val) inj_str xs k
theorem encM9_4_imm {xs : List ((List UInt8) × Bool)} : ∀ p, p ∈ xs.map encM9_4 → Imm p.2 := by
 intro p hp
 obtain ⟨x, _, rfl⟩ := List.mem_map.1 hp
 exact (Imm.con _)
theorem encM9_4_im (p : (List UInt8) × Bool) : Imm (encM9_4 p).2 := (Imm.con _)
instance : EM encM9_4 := ⟨fun _ => (Imm.con _)⟩
theorem encM9_4_good {xs : List ((List UInt8) × Bool)} : ∀ p, p ∈ xs.map encM9_4 → isStr p.1 := by
 intro p hp
 obtain ⟨x, _, rfl⟩ := List.mem_map.1 hp
 exact ⟨_, rfl⟩
def encTreach_checker (x : Treach_checker) : List V := [(bV x.loose), (V.imap (x.ifaces.map encM9_98)), (V.imap (x.types.map encM9_4)), (V.imap (x.funcs.map encM9_4))]
theorem imms_encTreach_checker (x : Treach_checker) : Imms (encTreach_checker x) := (.cons (Imm.con _) (.cons (Imm.imap _) (.cons (Imm.imap _) (.cons (Imm.imap _) .nil))))
theorem one_encTreach_checker (x : Treach_checker) : (encTreach_checker x).all oneV = true := rfl
instance : EI encTreach_checker := ⟨imms_encTreach_checker, one_encTreach_checker⟩
@[simp] theorem len_encTreach_checker (x : Treach_checker) : (encTreach_checker x).length = 4 := rfl
def encM9_89 (p : (List UInt8) × (List ((List UInt8) × Bool))) : Value × V := (str p.1, (V.imap (p.2.map encM9_4)))
abbrev encM9_89_val (v : (List ((List UInt8) × Bool))) : V := (V.imap (v.map encM9_4))
theorem encM9_89_look (xs : List ((List UInt8) × (List ((List UInt8) × Bool)))) (k : (List UInt8)) : Look (str k) (xs.map encM9_89) ((mget xs k).map encM9_89_val) := look_map (kv := fun k => str k) (ev := encM9_89_val) inj_str xs k
instance : EM encM9_89 := ⟨fun _ => (Imm.imap _)⟩
theorem encM9_89_good {xs : List ((List UInt8) × (List ((List UInt8) × Bool)))} : ∀ p, p ∈ xs.map encM9_89 → isStr p.1 := by
 intro p hp
 obtain ⟨x, _, rfl⟩ := List.mem_map.1 hp
 exact ⟨_, rfl⟩
def encTprovenderref6_names (x : Tprovenderref6_names) : List V := [(V.imap (x.ifaces.map encM9_89)), (V.imap (x.types.map encM9_4)), (V.imap (x.funcs.map encM9_4))]
theorem imms_encTprovenderref6_names (x : Tprovenderref6_names) : Imms (encTprovenderref6_names x) := (.cons (Imm.imap _) (.cons (Imm.imap _) (.cons (Imm.imap _) .nil)))
theorem one_encTprovenderref6_names (x : Tprovenderref6_names) : (encTprovenderref6_names x).all oneV = true := rfl
instance : EI encTprovenderref6_names := ⟨imms_encTprovenderref6_names, one_encTprovenderref6_names⟩
@[simp] theorem len_encTprovenderref6_names (x : Tprovenderref6_names) : (encTprovenderref6_names x).length = 3 := rfl
def encTprovenderref6_checker (x : Tprovenderref6_checker) : List V := [(V.lst 2 (x.g.Ifaces.map encTIface)), (V.lst 2 (x.g.Types.map encTType)), (V.lst 4 (x.g.Funcs.map encTFunc)), (V.lst 1 (x.g.Entries.map encS)), (V.imap (x.n.ifaces.map encM9_89)), (V.imap (x.n.types.map encM9_4)), (V.imap (x.n.funcs.map encM9_4)), (bV x.loose)]
theorem imms_encTprovenderref6_checker (x : Tprovenderref6_checker) : Imms (encTprovenderref6_checker x) := (.cons (Imm.lst _ _) (.cons (Imm.lst _ _) (.cons (Imm.lst _ _) (.cons (Imm.lst _ _) (.cons (Imm.imap _) (.cons (Imm.imap _) (.cons (Imm.imap _) (.cons (Imm.con _) .nil))))))))
theorem one_encTprovenderref6_checker (x : Tprovenderref6_checker) : (encTprovenderref6_checker x).all oneV = true := rfl
instance : EI encTprovenderref6_checker := ⟨imms_encTprovenderref6_checker, one_encTprovenderref6_checker⟩
@[simp] theorem len_encTprovenderref6_checker (x : Tprovenderref6_checker) : (encTprovenderref6_checker x).length = 8 := rfl
def encM9_3 (p : (List UInt8) × Int) : Value × V := (str p.1, (iV p.2))
abbrev encM9_3_val (v : Int) : V := (iV v)
theorem encM9_3_puts (xs : List ((List UInt8) × Int)) (k : (List UInt8)) (v : Int) : Puts (str k) (encM9_3_val v) (xs.map encM9_3) ((mput xs k v).map encM9_3) := puts_map (kv := fun k => str k) (ev := encM9_3_val) inj_str xs k v
theorem encM9_3_look (xs : List ((List UInt8) × Int)) (k : (List UInt8)) : Look (str k) (xs.map encM9_3) ((mget xs k).map encM9_3_val) := look_map (kv := fun k => str k) (ev := encM9_3_val) inj_str xs k
theorem encM9_3_imm {xs : List ((List UInt8) × Int)} : ∀ p, p ∈ xs.map encM9_3 → Imm p.2 := by
 intro p hp
 obtain ⟨x, _, rfl⟩ := List.mem_map.1 hp
 exact (Imm.con _)
instance : EM encM9_3 := ⟨fun _ => (Imm.con _)⟩
theorem encM9_3_good {xs : List ((List UInt8) × Int)} : ∀ p, p ∈ xs.map encM9_3 → isStr p.1 := by
 intro p hp
 obtain ⟨x, _, rfl⟩ := List.mem_map.1 hp
 exact ⟨_, rfl⟩
def encM9_387 (p : (List UInt8) × (List ((List UInt8) × Bool))) : Value × V := (str p.1, (V.dmp (p.2.map encM9_4)))
theorem encM9_387_und (p : (List UInt8) × (List ((List UInt8) × Bool))) : (encM9_387 p).1 = (encM9_89 p).1 ∧ Und (encM9_387 p).2 (encM9_89 p).2 ∧ Keep (encM9_387 p).2 := ⟨rfl, und_ents encM9_4_im _, Keep.dmp _⟩
instance : EMK encM9_387 := ⟨fun p => (encM9_387_und p).2.2⟩
theorem encM9_387_good {xs : List ((List UInt8) × (List ((List UInt8) × Bool)))} : ∀ p, p ∈ xs.map encM9_387 → isStr p.1 := by
 intro p hp
 obtain ⟨x, _, rfl⟩ := List.mem_map.1 hp
 exact ⟨_, rfl⟩
theorem tZ27 : zeroCells Tryz.prog 27 = some [.slice none 0 0, .slice none 0 0, .slice none 0 0, .slice none 0 0] := by kernel_rfl
theorem tIsSl35 : tySlice Tryz.prog 35 = true := by kernel_rfl
theorem tPl27 : tyPlaces Tryz.prog 27 = some [(0, 1), (1, 1), (2, 1), (3, 1)] := by kernel_rfl
theorem tS27 : tyS Tryz.prog 27 4 = true := by kernel_rfl
theorem tA27 : tyA Tryz.prog 27 4 = true := by kernel_rfl
theorem tSl35 : tySl Tryz.prog 35 4 = true := by kernel_rfl
theorem tZ124 : zeroCells Tryz.prog 124 = some [.bool false, .map none, .map none, .map none] := by kernel_rfl
theorem tPl124 : tyPlaces Tryz.prog 124 = some [(0, 1), (1, 1), (2, 1), (3, 1)] := by kernel_rfl
theorem tS124 : tyS Tryz.prog 124 4 = true := by kernel_rfl
theorem tF27_0 : tyF Tryz.prog 27 0 0 = true := by kernel_rfl
theorem tC22 : tyC Tryz.prog 22 = true := by kernel_rfl
theorem tIsSl22 : tySlice Tryz.prog 22 = true := by kernel_rfl
theorem tSl22 : tySl Tryz.prog 22 2 = true := by kernel_rfl
theorem tA98 : tyA Tryz.prog 98 2 = true := by kernel_rfl
theorem tZ98 : zeroCells Tryz.prog 98 = some [.string ⟨#[]⟩, .slice none 0 0] := by kernel_rfl
theorem tS98 : tyS Tryz.prog 98 2 = true := by kernel_rfl
theorem tF124_1 : tyF Tryz.prog 124 1 1 = true := by kernel_rfl
theorem tC122 : tyC Tryz.prog 122 = true := by kernel_rfl
theorem tF98_0 : tyF Tryz.prog 98 0 0 = true := by kernel_rfl
theorem tC9 : tyC Tryz.prog 9 = true := by kernel_rfl
theorem tMap122 : tyMap Tryz.prog 122 9 98 = true := by kernel_rfl
theorem tKey9 : KeyT Tryz.prog 9 isStr := keyT_str (by kernel_rfl)
theorem tF27_1 : tyF Tryz.prog 27 1 1 = true := by kernel_rfl
theorem tC23 : tyC Tryz.prog 23 = true := by kernel_rfl
theorem tIsSl23 : tySlice Tryz.prog 23 = true := by kernel_rfl
theorem tSl23 : tySl Tryz.prog 23 2 = true := by kernel_rfl
theorem tA104 : tyA Tryz.prog 104 2 = true := by kernel_rfl
theorem tZ104 : zeroCells Tryz.prog 104 = some [.string ⟨#[]⟩, .slice none 0 0] := by kernel_rfl
theorem tS104 : tyS Tryz.prog 104 2 = true := by kernel_rfl
theorem tF124_2 : tyF Tryz.prog 124 2 2 = true := by kernel_rfl
theorem tC89 : tyC Tryz.prog 89 = true := by kernel_rfl
theorem tF104_0 : tyF Tryz.prog 104 0 0 = true := by kernel_rfl
theorem tMap89 : tyMap Tryz.prog 89 9 4 = true := by kernel_rfl
theorem tF27_2 : tyF Tryz.prog 27 2 2 = true := by kernel_rfl
theorem tC24 : tyC Tryz.prog 24 = true := by kernel_rfl
theorem tIsSl24 : tySlice Tryz.prog 24 = true := by kernel_rfl
theorem tSl24 : tySl Tryz.prog 24 4 = true := by kernel_rfl
theorem tA94 : tyA Tryz.prog 94 4 = true := by kernel_rfl
theorem tZ94 : zeroCells Tryz.prog 94 = some [.string ⟨#[]⟩, .string ⟨#[]⟩, .slice none 0 0, .slice none 0 0] := by kernel_rfl
theorem tS94 : tyS Tryz.prog 94 4 = true := by kernel_rfl
theorem tF124_3 : tyF Tryz.prog 124 3 3 = true := by kernel_rfl
theorem tF94_0 : tyF Tryz.prog 94 0 0 = true := by kernel_rfl
theorem tA124 : tyA Tryz.prog 124 4 = true := by kernel_rfl
theorem fOk59 : fnOk Tryz.prog 59 = true := by kernel_rfl
theorem tStr9 : tyStr Tryz.prog 9 = true := by kernel_rfl
theorem fOk79 : fnOk Tryz.prog 79 = true := by kernel_rfl
theorem fOk173 : fnOk Tryz.prog 173 = true := by kernel_rfl
theorem tF98_1 : tyF Tryz.prog 98 1 1 = true := by kernel_rfl
theorem tC25 : tyC Tryz.prog 25 = true := by kernel_rfl
theorem tIsSl25 : tySlice Tryz.prog 25 = true := by kernel_rfl
theorem tSl25 : tySl Tryz.prog 25 1 = true := by kernel_rfl
theorem fOk127 : fnOk Tryz.prog 127 = true := by kernel_rfl
theorem tF104_1 : tyF Tryz.prog 104 1 1 = true := by kernel_rfl
theorem tC102 : tyC Tryz.prog 102 = true := by kernel_rfl
theorem tIsSl102 : tySlice Tryz.prog 102 = true := by kernel_rfl
theorem tSl102 : tySl Tryz.prog 102 2 = true := by kernel_rfl
theorem tA116 : tyA Tryz.prog 116 2 = true := by kernel_rfl
theorem tZ116 : zeroCells Tryz.prog 116 = some [.string ⟨#[]⟩, .string ⟨#[]⟩] := by kernel_rfl
theorem tS116 : tyS Tryz.prog 116 2 = true := by kernel_rfl
theorem tF116_0 : tyF Tryz.prog 116 0 0 = true := by kernel_rfl
theorem tF124_0 : tyF Tryz.prog 124 0 0 = true := by kernel_rfl
theorem tC4 : tyC Tryz.prog 4 = true := by kernel_rfl
theorem tF116_1 : tyF Tryz.prog 116 1 1 = true := by kernel_rfl
theorem tZo4 : (Tryz.prog.info? 4).bind (·.zero) = some (.bool false) := by kernel_rfl
theorem fOk128 : fnOk Tryz.prog 128 = true := by kernel_rfl
theorem tF94_1 : tyF Tryz.prog 94 1 1 = true := by kernel_rfl
theorem tF94_2 : tyF Tryz.prog 94 2 2 = true := by kernel_rfl
theorem tC92 : tyC Tryz.prog 92 = true := by kernel_rfl
theorem tIsSl92 : tySlice Tryz.prog 92 = true := by kernel_rfl
theorem tSl92 : tySl Tryz.prog 92 4 = true := by kernel_rfl
theorem tA109 : tyA Tryz.prog 109 4 = true := by kernel_rfl
theorem tZ109 : zeroCells Tryz.prog 109 = some [.int .i64 0, .string ⟨#[]⟩, .string ⟨#[]⟩, .string ⟨#[]⟩] := by kernel_rfl
theorem tS109 : tyS Tryz.prog 109 4 = true := by kernel_rfl
theorem tF109_0 : tyF Tryz.prog 109 0 0 = true := by kernel_rfl
theorem tC3 : tyC Tryz.prog 3 = true := by kernel_rfl
theorem tF109_1 : tyF Tryz.prog 109 1 1 = true := by kernel_rfl
theorem tF109_2 : tyF Tryz.prog 109 2 2 = true := by kernel_rfl
theorem tZo98 : (Tryz.prog.info? 98).bind (·.zero) = some (.agg #[.string ⟨#[]⟩, .slice none 0 0]) := by kernel_rfl
theorem fOk86 : fnOk Tryz.prog 86 = true := by kernel_rfl
theorem fOk23 : fnOk Tryz.prog 23 = true := by kernel_rfl
theorem tF109_3 : tyF Tryz.prog 109 3 3 = true := by kernel_rfl
theorem fOk174 : fnOk Tryz.prog 174 = true := by kernel_rfl
theorem tF94_3 : tyF Tryz.prog 94 3 3 = true := by kernel_rfl
theorem fOk130 : fnOk Tryz.prog 130 = true := by kernel_rfl
theorem fOk129 : fnOk Tryz.prog 129 = true := by kernel_rfl
theorem tF27_3 : tyF Tryz.prog 27 3 3 = true := by kernel_rfl
theorem fOk60 : fnOk Tryz.prog 60 = true := by kernel_rfl
theorem fOk44 : fnOk Tryz.prog 44 = true := by kernel_rfl
theorem tMap87 : tyMap Tryz.prog 87 9 3 = true := by kernel_rfl
theorem tZo3 : (Tryz.prog.info? 3).bind (·.zero) = some (.int .i64 0) := by kernel_rfl
theorem fOk26 : fnOk Tryz.prog 26 = true := by kernel_rfl
theorem fOk62 : fnOk Tryz.prog 62 = true := by kernel_rfl
theorem tEl22 : tyEl Tryz.prog 22 98 2 40 = true := by kernel_rfl
theorem fOk61 : fnOk Tryz.prog 61 = true := by kernel_rfl
theorem fOk47 : fnOk Tryz.prog 47 = true := by kernel_rfl
theorem tEqG116 : Tryz.prog.eqGuardType Tryz.prog.depth 116 = false := by kernel_rfl
theorem fOk54 : fnOk Tryz.prog 54 = true := by kernel_rfl
theorem fOk64 : fnOk Tryz.prog 64 = true := by kernel_rfl
theorem tEl23 : tyEl Tryz.prog 23 104 2 40 = true := by kernel_rfl
theorem fOk63 : fnOk Tryz.prog 63 = true := by kernel_rfl
theorem fOk66 : fnOk Tryz.prog 66 = true := by kernel_rfl
theorem tEqG109 : Tryz.prog.eqGuardType Tryz.prog.depth 109 = false := by kernel_rfl
theorem fOk126 : fnOk Tryz.prog 126 = true := by kernel_rfl
theorem fOk67 : fnOk Tryz.prog 67 = true := by kernel_rfl
theorem tEl24 : tyEl Tryz.prog 24 94 4 80 = true := by kernel_rfl
theorem fOk65 : fnOk Tryz.prog 65 = true := by kernel_rfl
theorem tEl25 : tyEl Tryz.prog 25 9 1 16 = true := by kernel_rfl
theorem tS99 : tyS Tryz.prog 99 1 = true := by kernel_rfl
theorem fOk49 : fnOk Tryz.prog 49 = true := by kernel_rfl
theorem tS25 : tyS Tryz.prog 25 1 = true := by kernel_rfl
theorem fOk45 : fnOk Tryz.prog 45 = true := by kernel_rfl
theorem tC99 : tyC Tryz.prog 99 = true := by kernel_rfl
theorem fOk158 : fnOk Tryz.prog 158 = true := by kernel_rfl
theorem fOk100 : fnOk Tryz.prog 100 = true := by kernel_rfl
theorem fOk120 : fnOk Tryz.prog 120 = true := by kernel_rfl
theorem fOk43 : fnOk Tryz.prog 43 = true := by kernel_rfl
theorem tS22 : tyS Tryz.prog 22 1 = true := by kernel_rfl
theorem tS105 : tyS Tryz.prog 105 1 = true := by kernel_rfl
theorem tEl102 : tyEl Tryz.prog 102 116 2 32 = true := by kernel_rfl
theorem fOk124 : fnOk Tryz.prog 124 = true := by kernel_rfl
theorem tS102 : tyS Tryz.prog 102 1 = true := by kernel_rfl
theorem fOk48 : fnOk Tryz.prog 48 = true := by kernel_rfl
theorem tC105 : tyC Tryz.prog 105 = true := by kernel_rfl
theorem fOk122 : fnOk Tryz.prog 122 = true := by kernel_rfl
theorem fOk46 : fnOk Tryz.prog 46 = true := by kernel_rfl
theorem tS23 : tyS Tryz.prog 23 1 = true := by kernel_rfl
theorem tS132 : tyS Tryz.prog 132 1 = true := by kernel_rfl
theorem tEl92 : tyEl Tryz.prog 92 109 4 56 = true := by kernel_rfl
theorem fOk133 : fnOk Tryz.prog 133 = true := by kernel_rfl
theorem tS92 : tyS Tryz.prog 92 1 = true := by kernel_rfl
theorem fOk69 : fnOk Tryz.prog 69 = true := by kernel_rfl
theorem tC132 : tyC Tryz.prog 132 = true := by kernel_rfl
theorem fOk131 : fnOk Tryz.prog 131 = true := by kernel_rfl
theorem fOk68 : fnOk Tryz.prog 68 = true := by kernel_rfl
theorem tS24 : tyS Tryz.prog 24 1 = true := by kernel_rfl
theorem fOk70 : fnOk Tryz.prog 70 = true := by kernel_rfl
theorem fOk71 : fnOk Tryz.prog 71 = true := by kernel_rfl
theorem fOk17 : fnOk Tryz.prog 17 = true := by kernel_rfl
theorem fOk15 : fnOk Tryz.prog 15 = true := by kernel_rfl
theorem tZ138 : zeroCells Tryz.prog 138 = some [.map none, .map none, .map none] := by kernel_rfl
theorem tPl138 : tyPlaces Tryz.prog 138 = some [(0, 1), (1, 1), (2, 1)] := by kernel_rfl
theorem tS138 : tyS Tryz.prog 138 3 = true := by kernel_rfl
theorem tF138_0 : tyF Tryz.prog 138 0 0 = true := by kernel_rfl
theorem tC136 : tyC Tryz.prog 136 = true := by kernel_rfl
theorem tMap136 : tyMap Tryz.prog 136 9 89 = true := by kernel_rfl
theorem tF138_1 : tyF Tryz.prog 138 1 1 = true := by kernel_rfl
theorem tF138_2 : tyF Tryz.prog 138 2 2 = true := by kernel_rfl
theorem tA138 : tyA Tryz.prog 138 3 = true := by kernel_rfl
theorem fOk72 : fnOk Tryz.prog 72 = true := by kernel_rfl
theorem tZ141 : zeroCells Tryz.prog 141 = some [.slice none 0 0, .slice none 0 0, .slice none 0 0, .slice none 0 0, .map none, .map none, .map none, .bool false] := by kernel_rfl
theorem tPl141 : tyPlaces Tryz.prog 141 = some [(0, 4), (4, 3), (7, 1)] := by kernel_rfl
theorem tS141 : tyS Tryz.prog 141 8 = true := by kernel_rfl
theorem tF141_0 : tyF Tryz.prog 141 0 0 = true := by kernel_rfl
theorem tA141 : tyA Tryz.prog 141 8 = true := by kernel_rfl
theorem fOk82 : fnOk Tryz.prog 82 = true := by kernel_rfl
theorem fOk139 : fnOk Tryz.prog 139 = true := by kernel_rfl
theorem fOk136 : fnOk Tryz.prog 136 = true := by kernel_rfl
theorem tF141_2 : tyF Tryz.prog 141 2 7 = true := by kernel_rfl
theorem tF141_1 : tyF Tryz.prog 141 1 4 = true := by kernel_rfl
theorem fOk137 : fnOk Tryz.prog 137 = true := by kernel_rfl
theorem tZo89 : (Tryz.prog.info? 89).bind (·.zero) = some (.map none) := by kernel_rfl
theorem fOk187 : fnOk Tryz.prog 187 = true := by kernel_rfl
theorem fOk138 : fnOk Tryz.prog 138 = true := by kernel_rfl
theorem fOk73 : fnOk Tryz.prog 73 = true := by kernel_rfl
theorem fOk140 : fnOk Tryz.prog 140 = true := by kernel_rfl
theorem fOk74 : fnOk Tryz.prog 74 = true := by kernel_rfl
theorem fOk141 : fnOk Tryz.prog 141 = true := by kernel_rfl
theorem fOk75 : fnOk Tryz.prog 75 = true := by kernel_rfl
theorem fOk188 : fnOk Tryz.prog 188 = true := by kernel_rfl
theorem fOk142 : fnOk Tryz.prog 142 = true := by kernel_rfl
theorem fOk76 : fnOk Tryz.prog 76 = true := by kernel_rfl
theorem tZ9 : zeroCells Tryz.prog 9 = some [.string ⟨#[]⟩] := by kernel_rfl
theorem fOk77 : fnOk Tryz.prog 77 = true := by kernel_rfl
theorem fOk18 : fnOk Tryz.prog 18 = true := by kernel_rfl
theorem fOk16 : fnOk Tryz.prog 16 = true := by kernel_rfl
theorem fOk52 : fnOk Tryz.prog 52 = true := by kernel_rfl
theorem fOk55 : fnOk Tryz.prog 55 = true := by kernel_rfl
theorem fOk53 : fnOk Tryz.prog 53 = true := by kernel_rfl
theorem fOk56 : fnOk Tryz.prog 56 = true := by kernel_rfl
theorem fOk58 : fnOk Tryz.prog 58 = true := by kernel_rfl
theorem fOk57 : fnOk Tryz.prog 57 = true := by kernel_rfl
theorem fOk13 : fnOk Tryz.prog 13 = true := by kernel_rfl
theorem tEl35 : tyEl Tryz.prog 35 27 4 96 = true := by kernel_rfl
theorem fOk14 : fnOk Tryz.prog 14 = true := by kernel_rfl
def tt : TT := [(3, [.C]), (4, [.C]), (9, [.C, .Str]), (13, [.Fn]), (14, [.Fn]), (15, [.Fn]), (16, [.Fn]), (17, [.Fn]), (18, [.Fn]), (22, [.C, .Sn, .Sl 2, .El 98 2 40, .S 1]), (23, [.C, .Sn, .Sl 2, .Fn, .El 104 2 40, .S 1]), (24, [.C, .Sn, .Sl 4, .El 94 4 80, .S 1]), (25, [.C, .Sn, .Sl 1, .El 9 1 16, .S 1]), (26, [.Fn]), (27, [.Z 4 [.slice none 0 0, .slice none 0 0, .slice none 0 0, .slice none 0 0], .Pl [(0, 1), (1, 1), (2, 1), (3, 1)], .S 4, .A 4, .F 0 0, .F 1 1, .F 2 2, .F 3 3]), (35, [.Sn, .Sl 4]), (44, [.Fn]), (45, [.Fn]), (47, [.Fn]), (48, [.Fn]), (49, [.Fn]), (52, [.Fn]), (53, [.Fn]), (54, [.Fn]), (55, [.Fn]), (56, [.Fn]), (57, [.Fn]), (58, [.Fn]), (59, [.Fn]), (60, [.Fn]), (62, [.Fn]), (64, [.Fn]), (66, [.Fn]), (67, [.Fn]), (69, [.Fn]), (72, [.Fn]), (73, [.Fn]), (74, [.Fn]), (75, [.Fn]), (76, [.Fn]), (77, [.Fn]), (79, [.Fn]), (82, [.Fn]), (86, [.Fn]), (89, [.C]), (92, [.C, .Sn, .Sl 4, .El 109 4 56, .S 1]), (94, [.A 4, .Z 4 [.string ⟨#[]⟩, .string ⟨#[]⟩, .slice none 0 0, .slice none 0 0], .S 4, .F 0 0, .F 1 1, .F 2 2, .F 3 3]), (98, [.A 2, .Z 2 [.string ⟨#[]⟩, .slice none 0 0], .S 2, .F 0 0, .F 1 1]), (99, [.S 1, .C]), (100, [.Fn]), (102, [.C, .Sn, .Sl 2, .El 116 2 32, .S 1]), (104, [.A 2, .Z 2 [.string ⟨#[]⟩, .slice none 0 0], .S 2, .F 0 0, .F 1 1]), (105, [.S 1, .C]), (109, [.A 4, .Z 4 [.int .i64 0, .string ⟨#[]⟩, .string ⟨#[]⟩, .string ⟨#[]⟩], .S 4, .F 0 0, .F 1 1, .F 2 2, .F 3 3]), (116, [.A 2, .Z 2 [.string ⟨#[]⟩, .string ⟨#[]⟩], .S 2, .F 0 0, .F 1 1]), (122, [.C]), (124, [.Z 4 [.bool false, .map none, .map none, .map none], .Pl [(0, 1), (1, 1), (2, 1), (3, 1)], .S 4, .F 1 1, .F 2 2, .F 3 3, .A 4, .F 0 0, .Fn]), (126, [.Fn]), (127, [.Fn]), (128, [.Fn]), (129, [.Fn]), (130, [.Fn]), (132, [.S 1, .C]), (133, [.Fn]), (136, [.C, .Fn]), (137, [.Fn]), (138, [.Z 3 [.map none, .map none, .map none], .Pl [(0, 1), (1, 1), (2, 1)], .S 3, .F 0 0, .F 1 1, .F 2 2, .A 3, .Fn]), (139, [.Fn]), (140, [.Fn]), (141, [.Z 8 [.slice none 0 0, .slice none 0 0, .slice none 0 0, .slice none 0 0, .map none, .map none, .map none, .bool false], .Pl [(0, 4), (4, 3), (7, 1)], .S 8, .F 0 0, .A 8, .F 2 7, .F 1 4, .Fn]), (142, [.Fn]), (158, [.Fn]), (173, [.Fn]), (174, [.Fn]), (187, [.Fn]), (188, [.Fn])]
theorem ok : TTok Tryz.prog tt := tt_all ⟨⟨tC3, trivial⟩, ⟨tC4, trivial⟩, ⟨tC9, tStr9, trivial⟩, ⟨fOk13, trivial⟩, ⟨fOk14, trivial⟩, ⟨fOk15, trivial⟩, ⟨fOk16, trivial⟩, ⟨fOk17, trivial⟩, ⟨fOk18, trivial⟩, ⟨tC22, tIsSl22, tSl22, tEl22, tS22, trivial⟩, ⟨tC23, tIsSl23, tSl23, fOk23, tEl23, tS23, trivial⟩, ⟨tC24, tIsSl24, tSl24, tEl24, tS24, trivial⟩, ⟨tC25, tIsSl25, tSl25, tEl25, tS25, trivial⟩, ⟨fOk26, trivial⟩, ⟨⟨tZ27, rfl⟩, tPl27, tS27, tA27, tF27_0, tF27_1, tF27_2, tF27_3, trivial⟩, ⟨tIsSl35, tSl35, trivial⟩, ⟨fOk44, trivial⟩, ⟨fOk45, trivial⟩, ⟨fOk47, trivial⟩, ⟨fOk48, trivial⟩, ⟨fOk49, trivial⟩, ⟨fOk52, trivial⟩, ⟨fOk53, trivial⟩, ⟨fOk54, trivial⟩, ⟨fOk55, trivial⟩, ⟨fOk56, trivial⟩, ⟨fOk57, trivial⟩, ⟨fOk58, trivial⟩, ⟨fOk59, trivial⟩, ⟨fOk60, trivial⟩, ⟨fOk62, trivial⟩, ⟨fOk64, trivial⟩, ⟨fOk66, trivial⟩, ⟨fOk67, trivial⟩, ⟨fOk69, trivial⟩, ⟨fOk72, trivial⟩, ⟨fOk73, trivial⟩, ⟨fOk74, trivial⟩, ⟨fOk75, trivial⟩, ⟨fOk76, trivial⟩, ⟨fOk77, trivial⟩, ⟨fOk79, trivial⟩, ⟨fOk82, trivial⟩, ⟨fOk86, trivial⟩, ⟨tC89, trivial⟩, ⟨tC92, tIsSl92, tSl92, tEl92, tS92, trivial⟩, ⟨tA94, ⟨tZ94, rfl⟩, tS94, tF94_0, tF94_1, tF94_2, tF94_3, trivial⟩, ⟨tA98, ⟨tZ98, rfl⟩, tS98, tF98_0, tF98_1, trivial⟩, ⟨tS99, tC99, trivial⟩, ⟨fOk100, trivial⟩, ⟨tC102, tIsSl102, tSl102, tEl102, tS102, trivial⟩, ⟨tA104, ⟨tZ104, rfl⟩, tS104, tF104_0, tF104_1, trivial⟩, ⟨tS105, tC105, trivial⟩, ⟨tA109, ⟨tZ109, rfl⟩, tS109, tF109_0, tF109_1, tF109_2, tF109_3, trivial⟩, ⟨tA116, ⟨tZ116, rfl⟩, tS116, tF116_0, tF116_1, trivial⟩, ⟨tC122, trivial⟩, ⟨⟨tZ124, rfl⟩, tPl124, tS124, tF124_1, tF124_2, tF124_3, tA124, tF124_0, fOk124, trivial⟩, ⟨fOk126, trivial⟩, ⟨fOk127, trivial⟩, ⟨fOk128, trivial⟩, ⟨fOk129, trivial⟩, ⟨fOk130, trivial⟩, ⟨tS132, tC132, trivial⟩, ⟨fOk133, trivial⟩, ⟨tC136, fOk136, trivial⟩, ⟨fOk137, trivial⟩, ⟨⟨tZ138, rfl⟩, tPl138, tS138, tF138_0, tF138_1, tF138_2, tA138, fOk138, trivial⟩, ⟨fOk139, trivial⟩, ⟨fOk140, trivial⟩, ⟨⟨tZ141, rfl⟩, tPl141, tS141, tF141_0, tA141, tF141_2, tF141_1, fOk141, trivial⟩, ⟨fOk142, trivial⟩, ⟨fOk158, trivial⟩, ⟨fOk173, trivial⟩, ⟨fOk174, trivial⟩, ⟨fOk187, trivial⟩, ⟨fOk188, trivial⟩, trivial⟩
instance {N : Nat} {w : World} {m : Mem} {o : Nat → Prop} {p : Nat} {l : Nat → Option (Option (Nat × Cap))} {g : Gl} {h : GlOk g m} : TC ⟨Tryz.prog, N, w, m, o, p, l, g, h⟩ tt := ⟨ok⟩
end Go.Proofs.YtpbkggamiipdmaaGreat
