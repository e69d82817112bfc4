/- Part of the proof: ZS. -/
import Derived.Test.YtpbkggamiipdmaaGreatC6ZA
import Derived.Shelf.SlSortCmp.NoneTotal
namespace Go.Pv
open Go Go.RowKit Go.Sort Go.Proofs
def cltM {T : Type} (cmp : T → T → Option Int) (x y : T) : Bool := match cmp x y with | some c => decide (c < 0) | none => false
def swoM {T : Type} (cmp : T → T → Option Int) (l : List T) : Bool :=
 l.all fun x => !cltM cmp x x && l.all fun y => (cmp x y).isSome && l.all fun z => (!(cltM cmp x y && cltM cmp y z) || cltM cmp x z) && (cltM cmp x y || cltM cmp y z || !cltM cmp x z)
def dstM {T : Type} (cmp : T → T → Option Int) : List T → Bool
 | [] => true
 | x :: l => l.all (fun y => cltM cmp x y || cltM cmp y x) && dstM cmp l
def ascM {T : Type} (cmp : T → T → Option Int) : List T → Bool
 | [] => true
 | x :: l => l.all (fun y => !cltM cmp y x) && ascM cmp l
def srtM {T : Type} (cmp : T → T → Option Int) (l : List T) : Option (List T) :=
 bif swoM cmp l && dstM cmp l && ascM cmp (l.mergeSort fun x y => !cltM cmp y x) && Nat.blt l.length 4611686018427387904 then some (l.mergeSort fun x y => !cltM cmp y x) else none
theorem ascM_pw {T : Type} {cmp : T → T → Option Int} : ∀ {l : List T}, ascM cmp l = true → l.Pairwise fun x y => cltM cmp y x = false
 | [], _ => .nil
 | x :: l, h => by
  simp only [ascM, Bool.and_eq_true, List.all_eq_true, Bool.not_eq_true'] at h
  exact .cons h.1 (ascM_pw h.2)
theorem dstM_uniq {T : Type} {cmp : T → T → Option Int} : ∀ {l : List T}, dstM cmp l = true → ∀ x ∈ l, ∀ y ∈ l, cltM cmp x y = false → cltM cmp y x = false → x = y
 | [], _, x, hx, _, _, _, _ => by simp at hx
 | z :: l, h, x, hx, y, hy, h1, h2 => by
  simp only [dstM, Bool.and_eq_true, List.all_eq_true, Bool.or_eq_true] at h
  rcases List.mem_cons.1 hx with e | hx'
  ·rcases List.mem_cons.1 hy with e' | hy'
   ·rw [e, e']
   ·rw [e] at h1 h2
    rcases h.1 y hy' with q | q
    ·rw [q] at h1; simp at h1
    ·rw [q] at h2; simp at h2
  ·rcases List.mem_cons.1 hy with e' | hy'
   ·rw [e'] at h1 h2
    rcases h.1 x hx' with q | q
    ·rw [q] at h2; simp at h2
    ·rw [q] at h1; simp at h1
   ·exact dstM_uniq h.2 x hx' y hy' h1 h2
structure RowT {T : Type} (l : List T) (enc : T → List V) (k : Nat) (m : Mem) where
 t : T
 mem : t ∈ l
 vs : List Value
 hl : vs.length = k
 h1 : ∀ v ∈ vs, v.oneCell' = true
 rel : ∀ (j : Nat) (c : V) (v : Value), (enc t)[j]? = some c → vs[j]? = some v → IRel m c v
theorem grew_grow {m m' : Mem} {w w' : World} (h : Grew m m' w w') : ∃ q os, w' = grow (w.drewN q) os := by
 obtain ⟨q, hq⟩ := Nat.exists_eq_add_of_le h.same.drawn
 refine ⟨q, w'.heap.extract w.heap.size w'.heap.size, ?_⟩
 have hh : w'.heap = w.heap ++ w'.heap.extract w.heap.size w'.heap.size := by
  apply Array.ext'
  simp only [Array.toList_append, Array.toList_extract]
  apply List.ext_getElem?
  intro i
  by_cases hi : i < w.heap.size
  ·rw [List.getElem?_append_left (by simpa using hi)]
   have := h.heap i hi
   simpa using this
  ·rw [List.getElem?_append_right (by simpa using Nat.le_of_not_lt hi)]
   have hs := h.size
   by_cases h2 : i < w'.heap.size
   ·rw [List.getElem?_take_of_lt (by simp; omega), List.getElem?_drop]
    congr 1
    simp; omega
   ·rw [List.getElem?_eq_none (by simpa using h2), List.getElem?_eq_none (by simp; omega)]
 obtain ⟨h0, h1, h2, h3, h4⟩ := w
 obtain ⟨g0, g1, g2, g3, g4⟩ := w'
 have s1 := h.same.os; have s2 := h.same.tape; have s3 := h.same.output
 simp only at hh hq s1 s2 s3
 subst s1 s2 s3 hq
 simp only [grow, World.drewN]
 rw [← hh]
theorem pair_of_sorted {α T : Type} [Inhabited α] {f : α → T} {r : T → T → Prop} {d : Array α} (h : ∀ i j, 0 ≤ i → i < j → j < d.size → r (f d[i]!) (f d[j]!)) : (d.toList.map f).Pairwise r := by
 rw [List.pairwise_iff_getElem]
 intro i j hi hj hij
 have hi' : i < d.size := by simpa using hi
 have hj' : j < d.size := by simpa using hj
 have := h i j (Nat.zero_le _) hij hj'
 rw [getElem!_pos d i hi', getElem!_pos d j hj'] at this
 simpa using this
theorem cmp_lays {gl : Gl} {P : Program} {g : FuncId} {m : Mem} {T : Type} {l : List T} {enc : T → List V} {k : Nat} {w : World} {b off size : Nat} {cs : Array Value} {caps : List V} {cmp : T → T → Option Int} [Inhabited (RowT l enc k m)] (hek : ∀ x, (enc x).length = k) (hgl : GlOk gl m)
  (hcl : caps.length = cs.size) (hcr : ∀ (i : Nat) (c : V) (v : Value), caps[i]? = some c → cs[i]? = some v → IRel m c v)
  (himm : ∀ (nd : Nat) (dk : Array (RowT l enc k m)) (os : Array Obj) (b' : Nat) (o : Obj), m b' = some o → (sortWorldK RowT.vs k w b off nd dk os).heap[b']? = some o)
  (hcmp : ∀ x y c, cmp x y = some c → PureG gl P g ([.agg (enc x), .agg (enc y)] ++ caps) (.con (.int .i64 c)))
  (hd : ∀ x ∈ l, ∀ y ∈ l, (cmp x y).isSome = true) : CmpLays P g cs (RowT.vs (l := l) (enc := enc) (k := k) (m := m)) k (fun x y => (cmp x.t y.t).getD 0) b off size w := by
 intro nd os dk _ x y
 have hi := himm nd dk os
 generalize sortWorldK RowT.vs k w b off nd dk os = W at hi
 obtain ⟨c, hc⟩ := Option.isSome_iff_exists.1 (hd x.t x.mem y.t y.mem)
 have hrelx : ∀ x : RowT l enc k m, IRel m (.agg (enc x.t)) (.agg x.vs.toArray) := fun x => .agg (by simp [hek, x.hl]) fun i c v h1 h2 => x.rel i c v h1 (by simpa using h2)
 have hrels : IRels m ([.agg (enc x.t), .agg (enc y.t)] ++ caps) (#[.agg x.vs.toArray, .agg y.vs.toArray] ++ cs) := by
  refine ⟨by simp [hcl]; omega, fun i c' v' h1 h2 => ?_⟩
  match i, h1, h2 with
  | 0, h1, h2 =>
   simp at h1
   rw [Array.getElem?_append_left (by simp)] at h2
   simp at h2
   rw [← h1, ← h2]; exact hrelx x
  | 1, h1, h2 =>
   simp at h1
   rw [Array.getElem?_append_left (by simp)] at h2
   simp at h2
   rw [← h1, ← h2]; exact hrelx y
  | i + 2, h1, h2 =>
   refine hcr i c' v' (by simpa using h1) ?_
   rw [Array.getElem?_append_right (by simp)] at h2
   simpa using h2
 refine Calls.mono (hcmp x.t y.t c hc m W _ hi hgl hrels) ?_
 rintro ex w' ⟨v', m', rfl, hv', hgr⟩
 cases hv'
 refine ⟨?_, grew_grow hgr⟩
 show Ending.returned (.int .i64 c) = .returned (.int .i64 ((cmp x.t y.t).getD 0))
 rw [hc]; rfl
set_option maxHeartbeats 1000000 in
theorem mut_sortF {gl : Gl} {P : Program} {f g : FuncId} {kk id : Nat} {hp : Heap} {e : TypeId} {k : Nat} {T : Type} (enc : T → List V) (hek : ∀ x, (enc x).length = k) (hei : ∀ x, Imms (enc x)) (caps : List V) (hci : Imms caps) (cmp : T → T → Option Int) (l r : List T)
  (hid : hget hp id = .arr e k (l.map enc)) (hr : srtM cmp l = some r)
  (hcmp : ∀ x y c, cmp x y = some c → PureG gl P g ([.agg (enc x), .agg (enc y)] ++ caps) (.con (.int .i64 c)))
  (h : ∀ {α : Type} [Inhabited α] (encR : α → List Value) (_ : ∀ x, (encR x).length = k) (_ : ∀ x, ∀ v ∈ encR x, v.oneCell' = true) (cf : α → α → Int) (_ : SWO (ltOf cf)) (cb : Array Value) (blk off cap : Nat) (d : Array α) (w : World) (_ : CmpLays P g cb encR k cf blk off d.size w) (_ : HoldsK encR k w blk off d) (_ : blk < w.heap.size) (_ : d.size < 4611686018427387904),
   Calls P f #[.slice (some ⟨blk, off, none⟩) d.size cap, .func (.func g) #[] cb] w fun e w' => e = .returned (.tuple #[]) ∧ ∃ d' n os, PermIn 0 d.size d d' ∧ SortedIn (ltOf cf) 0 d.size d' ∧ w' = sortWorldK encR k w blk off n d' os)
  (hn : ∀ (p : Option Addr) (cap : Nat) (fv : Value) (w : World), Calls P f #[.slice p 0 cap, fv] w fun e w' => e = .returned (.tuple #[]) ∧ w' = w) :
  MutG gl P f [.own id l.length, .fn (.func g) [] caps] kk hp (.tup []) kk ((id, .arr e k (r.map enc)) :: hp) := by
 intro m β w vs himm hgl hargs hown hpriv hinj hhid hnx
 obtain ⟨v, u, rfl⟩ : ∃ v u, vs = #[v, u] := by
  have := hargs.len
  simp at this
  refine ⟨vs[0], vs[1], ?_⟩
  apply Array.ext
  ·simp [← this]
  ·intro i h1 h2
   have : i = 0 ∨ i = 1 := by simp at h2; omega
   rcases this with rfl | rfl <;> simp
 have hv := hargs.at' 0 _ _ rfl rfl
 have hu := hargs.at' 1 _ _ rfl rfl
 have hob := hown id
 rw [hid] at hob
 unfold srtM at hr
 cases hguard : (swoM cmp l && dstM cmp l && ascM cmp (l.mergeSort fun x y => !cltM cmp y x) && Nat.blt l.length 4611686018427387904) with
 | false => rw [hguard] at hr; simp at hr
 | true =>
 rw [hguard] at hr
 simp only [cond_true, Option.some.injEq] at hr
 simp only [Bool.and_eq_true] at hguard
 obtain ⟨⟨⟨hswo, hdst⟩, hasc⟩, hlen⟩ := hguard
 have hlen : l.length < 4611686018427387904 := Nat.le_of_ble_eq_true hlen
 have hperm : r.Perm l := by rw [← hr]; exact List.mergeSort_perm _ _
 have hrl : r.length = l.length := hperm.length_eq
 rw [hr] at hasc
 have hsorted := ascM_pw hasc
 have hswo' : ∀ x ∈ l, cltM cmp x x = false ∧ ∀ y ∈ l, (cmp x y).isSome = true ∧ ∀ z ∈ l, (cltM cmp x y = true → cltM cmp y z = true → cltM cmp x z = true) ∧ (cltM cmp x y = false → cltM cmp y z = false → cltM cmp x z = false) := by
  intro x hx
  unfold swoM at hswo
  have h1 := List.all_eq_true.1 hswo x hx
  simp only [Bool.and_eq_true, Bool.not_eq_true', List.all_eq_true] at h1
  refine ⟨h1.1, fun y hy => ?_⟩
  have h2 := h1.2 y hy
  refine ⟨h2.1, fun z hz => ?_⟩
  have h3 := h2.2 z hz
  revert h3
  cases cltM cmp x y <;> cases cltM cmp y z <;> cases cltM cmp x z <;> simp
 have hg : ∀ q, hget ((id, Ob.arr e k (r.map enc)) :: hp) q = if id = q then Ob.arr e k (r.map enc) else hget hp q := fun q => q7b _ _ _ _
 have hlive : ∀ q, hget ((id, Ob.arr e k (r.map enc)) :: hp) q ≠ .dead → hget hp q ≠ .dead := fun q hq => by
  rw [hg] at hq
  split at hq
  ·rename_i hh; subst hh; rw [hid]; simp
  ·exact hq
 have hhids : ∀ (w' : World), w.heap.size ≤ w'.heap.size → ∀ q x, hget ((id, Ob.arr e k (r.map enc)) :: hp) q ≠ .dead → β.hid q x → x < w'.heap.size ∧ m x = none ∧ (x < w.heap.size → ¬ Foreign hp β x) ∧
   (∀ i b c, hget ((id, Ob.arr e k (r.map enc)) :: hp) i ≠ .dead → β i = some (some (b, c)) → x ≠ b) ∧ ∀ i, hget ((id, Ob.arr e k (r.map enc)) :: hp) i ≠ .dead → β.hid i x → i = q := by
  intro w' hs q x hq hx
  obtain ⟨q1, q2, q3, q4⟩ := hhid q x (hlive q hq) hx
  exact ⟨by omega, q2, fun _ hF => (hF q (hlive q hq)).2 hx, fun i b c hi => q3 i b c (hlive i hi), fun i hi => q4 i (hlive i hi)⟩
 obtain ⟨cs, rfl, hcl, hcr⟩ : ∃ cs : Array Value, u = .func (.func g) #[] cs ∧ caps.length = cs.size ∧ ∀ (i : Nat) (c : V) (v : Value), caps[i]? = some c → cs[i]? = some v → IRel m c v := by
  cases hu with
  | imm h' =>
   cases h' with
   | @fn _ _ _ fs cs hl hl' hf hc =>
    have : fs = #[] := Array.eq_empty_of_size_eq_zero (by simpa using hl.symm)
    subst this
    exact ⟨cs, rfl, hl', hc⟩
  | @fn _ _ _ fs cs hl hl' hf hc =>
   have : fs = #[] := Array.eq_empty_of_size_eq_zero (by simpa using hl.symm)
   subst this
   exact ⟨cs, rfl, hl', fun i c v h1 h2 => (hci c (List.mem_of_getElem? h1)).2 _ _ _ (hc i c v h1 h2)⟩
 by_cases hnil : l = []
 ·subst hnil
  have hrn : r = [] := List.length_eq_zero_iff.1 hrl
  subst hrn
  obtain ⟨p, c, rfl⟩ : ∃ p c, v = .slice p 0 c := by
   cases hv with
   | imm h' => cases h'
   | ownNil hb => exact ⟨_, _, rfl⟩
   | own hb => exact ⟨_, _, rfl⟩
  refine (hn p c _ w).mono ?_
  rintro ex w' ⟨rfl, rfl⟩
  have hsm : ∀ q, hget ((id, Ob.arr e k (([] : List T).map enc)) :: hp) q = hget hp q := fun q => by
   rw [hg]
   split
   ·rename_i hh; subst hh; rw [hid]
   ·rfl
  refine ⟨_, m, β, rfl, .tup rfl (by simp), Mem.le_refl _, himm, fun b hb _ => ⟨rfl, rfl⟩, Nat.le_refl _, ⟨rfl, rfl, rfl, Nat.le_refl _⟩, fun q => ?_, fun q b cap hq hbq => ?_, fun q q' b cap cap' hq hq' => hinj q q' b cap cap' (hlive q hq) (hlive q' hq'), hhids w' (Nat.le_refl _), hnx, fun q hq => ⟨hq, rfl⟩⟩
  ·rw [hsm]; exact hown q
  ·have hq := hlive q hq
   exact ⟨hpriv q b cap hq hbq, fun _ hF => (hF q hq).1 cap hbq⟩
 generalize hnl : l.length = n at hv
 cases hv with
 | imm h' => cases h'
 | @ownNil _ ad hb => exact absurd (List.length_eq_zero_iff.1 hnl) hnil
 | @own _ _ b cap hb =>
 rw [hb] at hob
 obtain ⟨arr, bl, o1, o2, o3, o4, o5, oB, o6⟩ := hob
 have hbs : b < w.heap.size := q2g o1
 have o3' : l.length ≤ cap.n := by simpa using o3
 have hlid : hget hp id ≠ .dead := by rw [hid]; simp
 have hmb : m b = none := hpriv id b cap hlid hb
 have hcell : ∀ (i : Nat) (hi : i < l.length) (j : Nat) (c : V), (enc l[i])[j]? = some c → ∃ v, arr[cap.off + (i * k + j)]? = some v ∧ IRel m c v ∧ v.oneCell' = true := fun i hi j c hc => by
  obtain ⟨v, v1, v2, v3⟩ := o6 i j (enc l[i]) c (by simp [List.getElem?_eq_getElem hi]) hc
  have hI := hei l[i] c (List.mem_of_getElem? hc)
  exact ⟨v, v1, hI.2 _ _ _ (v2.v hI.1), v3⟩
 have hrow : ∀ i : Fin l.length, ∃ x : RowT l enc k m, x.t = l[i.1] ∧ ∀ j, j < k → arr[cap.off + (i.1 * k + j)]? = x.vs[j]? := fun i => by
  have hget : ∀ j, j < k → ∃ c v, (enc l[i.1])[j]? = some c ∧ arr[cap.off + (i.1 * k + j)]? = some v ∧ IRel m c v ∧ v.oneCell' = true := fun j hj => by
   have hj' : j < (enc l[i.1]).length := by rw [hek]; exact hj
   obtain ⟨v, hv⟩ := hcell i.1 i.2 j _ (List.getElem?_eq_getElem hj')
   exact ⟨_, v, List.getElem?_eq_getElem hj', hv⟩
  have hvs : ∀ j, j < k → ((List.range k).map fun j => arr[cap.off + (i.1 * k + j)]!)[j]? = arr[cap.off + (i.1 * k + j)]? := fun j hj => by
   obtain ⟨c, v, h1, h2, h3⟩ := hget j hj
   rw [List.getElem?_map, List.getElem?_range hj, Option.map_some, h2]
   have hlt := (Array.getElem?_eq_some_iff.1 h2).1
   rw [getElem!_pos arr _ hlt]
   rw [Array.getElem?_eq_getElem hlt] at h2
   exact h2
  refine ⟨⟨l[i.1], List.getElem_mem _, (List.range k).map fun j => arr[cap.off + (i.1 * k + j)]!, by simp, fun v hv => ?_, fun j c v hc hv => ?_⟩, rfl, fun j hj => (hvs j hj).symm⟩
  ·obtain ⟨j, hj⟩ := List.getElem?_of_mem hv
   have hjk : j < k := by have := (List.getElem?_eq_some_iff.1 hj).1; simpa using this
   obtain ⟨c, v', h1, h2, h3, h4⟩ := hget j hjk
   rw [hvs j hjk, h2] at hj
   cases hj
   exact h4
  ·have hjk : j < k := by have := (List.getElem?_eq_some_iff.1 hv).1; simpa using this
   obtain ⟨c', v', h1, h2, h3, h4⟩ := hget j hjk
   rw [hvs j hjk, h2] at hv
   cases hv
   rw [h1] at hc
   cases hc
   exact h3
 obtain ⟨row, hrow⟩ : ∃ row : Fin l.length → RowT l enc k m, ∀ i, (row i).t = l[i.1] ∧ ∀ j, j < k → arr[cap.off + (i.1 * k + j)]? = (row i).vs[j]? := ⟨fun i => (hrow i).choose, fun i => (hrow i).choose_spec⟩
 haveI : Inhabited (RowT l enc k m) := ⟨row ⟨0, List.length_pos_iff.2 hnil⟩⟩
 obtain ⟨d, hds, hdi⟩ : ∃ d : Array (RowT l enc k m), d.size = n ∧ ∀ i (hi : i < l.length), d[i]! = row ⟨i, hi⟩ := by
  refine ⟨Array.ofFn row, by simp [hnl], fun i hi => ?_⟩
  rw [getElem!_pos _ i (by simpa using hi)]
  simp
 have hdt : d.toList.map RowT.t = l := by
  apply List.ext_getElem?
  intro i
  by_cases hi : i < l.length
  ·have : i < d.size := by rw [hds, ← hnl]; exact hi
   rw [List.getElem?_map, Array.getElem?_toList, Array.getElem?_eq_getElem this, Option.map_some, List.getElem?_eq_getElem hi]
   have h2 := hdi i hi
   rw [getElem!_pos d i this] at h2
   rw [h2, (hrow ⟨i, hi⟩).1]
  ·rw [List.getElem?_eq_none (by simp [hds, ← hnl]; omega), List.getElem?_eq_none (by omega)]
 have hlt : ∀ x y : RowT l enc k m, ltOf (fun x y : RowT l enc k m => (cmp x.t y.t).getD 0) x y = cltM cmp x.t y.t := fun x y => by
  have := ((hswo' x.t x.mem).2 y.t y.mem).1
  show decide ((cmp x.t y.t).getD 0 < 0) = _
  unfold cltM
  cases hc : cmp x.t y.t with
  | none => rw [hc] at this; simp at this
  | some c => rfl
 have hSW : SWO (ltOf (fun x y : RowT l enc k m => (cmp x.t y.t).getD 0)) := by
  refine ⟨fun x => ?_, fun x y z h1 h2 => ?_, fun x y z h1 h2 => ?_⟩
  ·rw [hlt]; exact (hswo' x.t x.mem).1
  ·rw [hlt] at *; exact (((hswo' x.t x.mem).2 y.t y.mem).2 z.t z.mem).1 h1 h2
  ·rw [hlt] at *; exact (((hswo' x.t x.mem).2 y.t y.mem).2 z.t z.mem).2 h1 h2
 have hheap : ∀ (nd : Nat) (dk : Array (RowT l enc k m)) (os : Array Obj) (b' : Nat), b' < w.heap.size → (sortWorldK RowT.vs k w b cap.off nd dk os).heap[b']? = if b = b' then (w.heap[b']?).map (onCells (putCells _root_.id cap.off (flatK RowT.vs k dk))) else w.heap[b']? := fun nd dk os b' hb' => heap_sorted _root_.id w nd b cap.off (flatK RowT.vs k dk) os b' hb'
 have hother : ∀ (nd : Nat) (dk : Array (RowT l enc k m)) (os : Array Obj) (b' : Nat), b' < w.heap.size → b' ≠ b → (sortWorldK RowT.vs k w b cap.off nd dk os).heap[b']? = w.heap[b']? := fun nd dk os b' h1 h2 => by rw [hheap nd dk os b' h1, if_neg (Ne.symm h2)]
 have himm' : ∀ (nd : Nat) (dk : Array (RowT l enc k m)) (os : Array Obj) (b' : Nat) (o : Obj), m b' = some o → (sortWorldK RowT.vs k w b cap.off nd dk os).heap[b']? = some o := fun nd dk os b' o hb' => by
  have hne : b' ≠ b := fun e => by rw [e, hmb] at hb'; simp at hb'
  rw [hother nd dk os b' (q2g (himm b' o hb')) hne]
  exact himm b' o hb'
 have hC := cmp_lays (size := d.size) (w := w) (b := b) (off := cap.off) hek hgl hcl hcr himm' hcmp fun x hx y hy => ((hswo' x hx).2 y hy).1
 have hH : HoldsK RowT.vs k w b cap.off d := by
  intro j hj
  have hjd : j < d.size * k := by simpa using hj
  have hk0 : 0 < k := by
   rcases Nat.eq_zero_or_pos k with h0 | h0
   ·rw [show d.size * k = 0 from by rw [Nat.mul_eq_zero]; exact .inr h0] at hjd; omega
   ·exact h0
  have hi : j / k < l.length := by rw [hnl, ← hds]; exact Nat.div_lt_of_lt_mul (by rw [Nat.mul_comm]; exact hjd)
  have hjk : j % k < k := Nat.mod_lt _ hk0
  refine ⟨?_, by simp [World.frozen?, o1]⟩
  rw [get_flatK RowT.vs k d j hjd, hdi _ hi, q4h o1]
  have h2 := (hrow ⟨j / k, hi⟩).2 (j % k) hjk
  have e1 : j / k * k + j % k = j := by rw [Nat.mul_comm]; exact Nat.div_add_mod j k
  simp only [e1] at h2
  rw [h2]
  have hlt2 : j % k < (row ⟨j / k, hi⟩).vs.length := by rw [(row ⟨j / k, hi⟩).hl]; exact hjk
  rw [List.getElem?_eq_getElem hlt2]
  show _ = some ((row ⟨j / k, hi⟩).vs[j % k]!)
  rw [getElem!_pos (row ⟨j / k, hi⟩).vs (j % k) hlt2]
 have hcall := h RowT.vs (fun x => x.hl) (fun x => x.h1) _ hSW cs b cap.off cap.n d w hC hH hbs (by rw [hds, ← hnl]; exact hlen)
 rw [hds] at hcall
 refine hcall.mono ?_
 rintro ex w' ⟨rfl, d', nd, os, hP, hS, rfl⟩
 obtain ⟨p1, _, p3⟩ := hP
 have hd's : d'.size = n := by rw [p1, hds]
 have hd'p : d'.toList.Perm d.toList := by
  have e1 : d'.extract 0 n = d' := by rw [← hd's]; exact Array.extract_size
  have e2 : d.extract 0 n = d := by rw [← hds]; exact Array.extract_size
  rwa [e1, e2] at p3
 have hd't : d'.toList.map RowT.t = r := by
  refine List.Perm.eq_of_pairwise (le := fun x y => cltM cmp y x = false) (fun x y h1 h2 h3 h4 => ?_) ?_ hsorted (((hd'p.map RowT.t).trans (by rw [hdt])).trans hperm.symm)
  ·exact dstM_uniq hdst x (((hd'p.map RowT.t).trans (by rw [hdt])).mem_iff.1 h1) y (hperm.mem_iff.1 h2) h4 h3
  ·refine pair_of_sorted (f := RowT.t) (r := fun x y => cltM cmp y x = false) fun i j hi hij hj => ?_
   rw [← hlt]
   exact hS i j hi hij (by rw [← hd's]; exact hj)
 have hsz : w.heap.size ≤ (sortWorldK RowT.vs k w b cap.off nd d' os).heap.size := by simp [sortWorldK, putRowK, grow, putRow, mapBlock, Sort.ahead]
 refine ⟨_, m, β, rfl, .tup rfl (by simp), Mem.le_refl _, himm' nd d' os, fun b' hb' hF => ⟨rfl, hother nd d' os b' hb' (fun e => ?_)⟩, hsz, ⟨rfl, rfl, rfl, Nat.le_add_right _ _⟩, fun q => ?_, fun q b' cap' hq hbq => ?_, fun q q' b1 cap1 cap2 hq hq' => hinj q q' b1 cap1 cap2 (hlive q hq) (hlive q' hq'), hhids _ hsz, hnx, fun q hq => ⟨hq, rfl⟩⟩
 ·subst e; exact (hF id hlid).1 cap hb
 ·rw [hg]
  split
  ·rename_i hh
   subst hh
   rw [hb]
   refine ⟨putCells _root_.id cap.off (flatK RowT.vs k d') arr, bl, by rw [hheap nd d' os b hbs, if_pos rfl, o1]; rfl, by simp [putCells, o2], by simpa [hrl] using o3, o4, ?_, oB, fun i j rw' c hr' hc => ?_⟩
   ·intro rw' hr'
    obtain ⟨x, _, rfl⟩ := List.mem_map.1 hr'
    exact hek x
   ·rw [← hd't, List.map_map, List.getElem?_map, Array.getElem?_toList] at hr'
    cases hx : d'[i]? with
    | none => rw [hx] at hr'; simp at hr'
    | some x =>
     rw [hx] at hr'
     simp at hr'
     subst hr'
     have hi : i < d'.size := (Array.getElem?_eq_some_iff.1 hx).1
     have hjk : j < k := by have := (List.getElem?_eq_some_iff.1 hc).1; rwa [hek] at this
     have hjv : j < x.vs.length := by rw [x.hl]; exact hjk
     have hij : i * k + j < d'.size * k := by
      have := Nat.mul_le_mul_right k (show i + 1 ≤ d'.size from hi)
      rw [Nat.succ_mul] at this
      omega
     have ha : cap.off + (i * k + j) < arr.size := by
      rw [o2]
      have := Nat.mul_le_mul_right k (show d'.size ≤ cap.n by rw [hd's, ← hnl]; exact o3')
      omega
     have e1 : (i * k + j) / k = i := by
      rw [Nat.mul_comm, Nat.mul_add_div (by omega), Nat.div_eq_of_lt hjk, Nat.add_zero]
     have e2 : (i * k + j) % k = j := by rw [Nat.mul_comm, Nat.mul_add_mod, Nat.mod_eq_of_lt hjk]
     refine ⟨x.vs[j], ?_, .inl (.imm (x.rel j c _ hc (List.getElem?_eq_getElem hjv))), x.h1 _ (List.getElem_mem _)⟩
     unfold putCells
     rw [Array.getElem?_mapIdx, Array.getElem?_eq_getElem ha, Option.map_some, if_pos ⟨Nat.le_add_right _ _, by rw [size_flatK]; omega⟩, Nat.add_sub_cancel_left, get_flatK RowT.vs k d' _ hij, e1, e2]
     have hx2 : d'[i]! = x := by
      rw [getElem!_pos d' i hi]
      rw [Array.getElem?_eq_getElem hi] at hx
      exact Option.some.inj hx
     rw [hx2]
     show some ((x.vs)[j]!) = _
     rw [getElem!_pos x.vs j hjv]
  ·rename_i hne
   by_cases hd : hget hp q = .dead
   ·rw [hd]; exact ObOk.dead' _
   ·refine ObOk.congr (fun b' cap' hbb => hother nd d' os b' (live_lt hd hbb (hown q)) (fun e => ?_)) (fun x hx => hother nd d' os x (hhid q x hd hx).1 ((hhid q x hd hx).2.2.1 id b cap hlid hb)) (hown q)
    subst e
    exact hne (hinj id q b' cap cap' hlid hd hb hbb)
 ·have hq := hlive q hq
  exact ⟨hpriv q b' cap' hq hbq, fun _ hF => (hF q hq).1 cap' hbq⟩
theorem Sub.tupKey {cs : List V} {vs : List Value} {v : V} (h : cs = vs.map V.con) : Sub Idn (.tup [.agg cs, v]) (.tup [.con (.agg vs.toArray), v]) := fun m β m' β' x hy hx => by
 obtain ⟨rfl, rfl⟩ := hy
 obtain ⟨us, rfl, hl, hr⟩ : ∃ us : Array Value, x = .tuple us ∧ 2 = us.size ∧ ∀ (i : Nat) (c : V) (u : Value), [V.con (.agg vs.toArray), v][i]? = some c → us[i]? = some u → VRel m' β' c u := by
  cases hx with
  | imm h' => cases h' with
   | tup hl hr => exact ⟨_, rfl, hl, fun i c u h1 h2 => .imm (hr i c u h1 h2)⟩
  | tup hl hr => exact ⟨_, rfl, hl, hr⟩
 refine .tup hl fun i c u h1 h2 => ?_
 match i, h1 with
 | 0, h1 =>
  simp at h1
  subst h1
  have h3 := (hr 0 _ u rfl h2).of_con
  subst h3 h
  refine .imm (.agg (by simp) fun j c' u' g1 g2 => ?_)
  rw [List.getElem?_map] at g1
  simp only [List.getElem?_toArray] at g2
  rw [g2] at g1
  simp at g1
  subst g1
  exact .con _
 | 1, h1 => exact hr 1 c u h1 h2
 | i + 2, h1 => simp at h1
end Go.Pv
