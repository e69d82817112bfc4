/- The framework of walks over abstract values (own text), part Z. -/
import Derived.Test.YtkciogeafbbggaaNPvV
import Derived.Test.YtkciogeafbbggaaNPvN
import Derived.Shelf.Sort.Plain
import Derived.Laws.MakeOwn
import Derived.Shelf.Slices.In.SortNone
import Derived.Below
import Derived.Laws.AppendOwn
namespace Go.Pv
open Go Go.RowKit
open Go.Sort in
theorem heap_sorted (w : World) (n blk : Nat) (d : Array Int) (os : Array Obj) (b : Nat) (hb : b < w.heap.size) :
    (grow (putRow (Value.int .i64) (Sort.ahead w n) blk 0 d) os).heap[b]? = if blk = b then (w.heap[b]?).map (onCells (putCells (Value.int .i64) 0 d)) else w.heap[b]? := by
  unfold grow putRow mapBlock Sort.ahead
  simp only
  rw [Array.getElem?_append_left (by simpa using hb), Array.getElem?_modify]
open Go.Sort in
theorem mut_sort {P : Program} {f : FuncId} {k id : Nat} {hp : Heap} {e : TypeId} (l l' : List Int) (hid : hget hp id = .arr e 1 (l.map fun x => [V.con (.int .i64 x)])) (hl : l'.length = l.length)
    (h : ∀ (w : World) (blk cap : Nat), Holds (Value.int .i64) w blk 0 l.toArray → blk < w.heap.size → Calls P f #[.slice (some ⟨blk, 0, none⟩) l.length cap] w fun e w' =>
      e = .returned (.tuple #[]) ∧ ∃ n os, w' = grow (putRow (Value.int .i64) (Sort.ahead w n) blk 0 l'.toArray) os)
    (hn : ∀ (w : World) (a : Option Addr), l = [] → Calls P f #[.slice a 0 0] w fun e w' => e = .returned (.tuple #[]) ∧ Below w.heap.size w w') :
    Mut P f [.own id l.length] k hp (.tup []) k ((id, .arr e 1 (l'.map fun x => [V.con (.int .i64 x)])) :: hp) := by
  intro m β w vs himm hargs hown hpriv hinj hnx
  obtain ⟨v, rfl⟩ : ∃ v, vs = #[v] := by
    have := hargs.len
    simp at this
    exact ⟨vs[0], by
      apply Array.ext
      · simp [← this]
      · intro i h1 h2
        have : i = 0 := by simp at h2; omega
        subst this; simp⟩
  have hv := hargs.at' 0 _ _ rfl rfl
  have hob := hown id
  rw [hid] at hob
  have hg : ∀ q, hget ((id, Ob.arr e 1 (l'.map fun x => [V.con (.int .i64 x)])) :: hp) q = if id = q then Ob.arr e 1 (l'.map fun x => [V.con (.int .i64 x)]) else hget hp q := fun q => hget_put _ _ _ _
  have hlive : ∀ q, hget ((id, Ob.arr e 1 (l'.map fun x => [V.con (.int .i64 x)])) :: hp) q ≠ .dead → hget hp q ≠ .dead := fun q hq => by
    rw [hg] at hq
    split at hq
    · rename_i hh; subst hh; rw [hid]; simp
    · exact hq
  generalize hnl : l.length = n at hv h
  cases hv with
  | imm h' => cases h'
  | @ownNil _ ad hb =>
    have hl0 : l = [] := List.length_eq_zero_iff.1 hnl
    subst hl0
    have hl' : l' = [] := List.length_eq_zero_iff.1 (by simpa using hl)
    subst hl'
    refine (hn w ad rfl).mono ?_
    rintro ex w' ⟨rfl, hB⟩
    have hheap : ∀ b, b < w.heap.size → w'.heap[b]? = w.heap[b]? := hB.block
    refine ⟨_, m, β, rfl, .tup rfl (by simp), Mem.le_refl _, fun b o hb => by rw [hheap b (lt_of_some (himm b o hb))]; exact himm b o hb, fun b hb _ => ⟨rfl, hheap b hb⟩, hB.size, ⟨hB.os, hB.tape, hB.output⟩, fun q => ?_, fun q b cap hq hbq => ?_, fun q q' b cap cap' hq hq' => hinj q q' b cap cap' (hlive q hq) (hlive q' hq'), hnx, fun q hq => ⟨hq, rfl⟩⟩
    · rw [hg]
      split
      · rename_i hh; subst hh; rw [hb]; simp [ObOk]
      · by_cases hd : hget hp q = .dead
        · rw [hd]; exact ObOk.dead' _
        · exact ObOk.congr (fun b cap hbb => hheap b (live_lt hd hbb (hown q))) (hown q)
    · have hq := hlive q hq
      exact ⟨hpriv q b cap hq hbq, fun _ hF => hF q cap hq hbq⟩
  | @own _ _ b cap hb =>
    rw [hb] at hob
    obtain ⟨arr, o1, o2, o3, o4, o5, o6⟩ := hob
    have hbs : b < w.heap.size := lt_of_some o1
    have hcell : ∀ j (hj : j < l.length), arr[j]? = some (.int .i64 l[j]) := fun j hj => by
      obtain ⟨v, v1, v2, _⟩ := o6 j 0 [V.con (.int .i64 l[j])] (V.con (.int .i64 l[j])) (by simp [List.getElem?_eq_getElem hj]) rfl
      have := v2.of_con
      subst this
      simpa using v1
    refine (h w b cap (fun j hj => ?_) hbs).mono ?_
    · have hj' : j < l.length := by simpa using hj
      have hz : (l.toArray)[j]! = l[j] := by rw [getElem!_pos _ j hj]; simp
      rw [hz, Nat.zero_add]
      exact ⟨(cell_of_heap o1).trans (hcell j hj'), by simp [World.frozen?, o1]⟩
    rintro ex w' ⟨rfl, nd, os, rfl⟩
    have hheap := heap_sorted w nd b l'.toArray os
    have hother : ∀ b', b' < w.heap.size → b' ≠ b → (grow (putRow (Value.int .i64) (Sort.ahead w nd) b 0 l'.toArray) os).heap[b']? = w.heap[b']? := fun b' h1 h2 => by rw [hheap b' h1, if_neg (Ne.symm h2)]
    have hlid : hget hp id ≠ .dead := by rw [hid]; simp
    refine ⟨_, m, β, rfl, .tup rfl (by simp), Mem.le_refl _, fun b' o hb' => ?_, fun b' hb' hF => ⟨rfl, hother b' hb' (fun e => ?_)⟩, ?_, ⟨rfl, rfl, rfl⟩, fun q => ?_, fun q b' cap' hq hbq => ?_, fun q q' b1 cap1 cap2 hq hq' => hinj q q' b1 cap1 cap2 (hlive q hq) (hlive q' hq'), hnx, fun q hq => ⟨hq, rfl⟩⟩
    · have hne : b' ≠ b := fun e => by
        subst e
        rw [hpriv id b' cap hlid hb] at hb'
        simp at hb'
      rw [hother b' (lt_of_some (himm b' o hb')) hne]
      exact himm b' o hb'
    · subst e; exact hF id cap hlid hb
    · simp [grow, putRow, mapBlock, Sort.ahead]
    · rw [hg]
      split
      · rename_i hh
        subst hh
        rw [hb]
        refine ⟨putCells (Value.int .i64) 0 l'.toArray arr, by rw [hheap b hbs, if_pos rfl, o1]; rfl, by simp [putCells, o2], by simpa [hl] using o3, o4, ?_, fun i j row c hr hc => ?_⟩
        · intro row hr
          obtain ⟨x, _, rfl⟩ := List.mem_map.1 hr
          rfl
        · rw [List.getElem?_map] at hr
          cases hli : l'[i]? with
          | none => rw [hli] at hr; simp at hr
          | some x =>
            rw [hli] at hr
            simp at hr
            subst hr
            have hi : i < l'.length := (List.getElem?_eq_some_iff.1 hli).1
            have hx : l'[i] = x := (List.getElem?_eq_some_iff.1 hli).2
            have hj : j = 0 := by
              have := (List.getElem?_eq_some_iff.1 hc).1
              simp at this; exact this
            subst hj
            simp at hc
            subst hc
            have ha : i < arr.size := by simp at o3; omega
            refine ⟨.int .i64 x, ?_, .imm (.con _), rfl⟩
            rw [Nat.mul_one, Nat.add_zero]
            unfold putCells
            rw [Array.getElem?_mapIdx, Array.getElem?_eq_getElem ha, Option.map_some, if_pos ⟨Nat.zero_le _, by simpa using hi⟩, Nat.sub_zero, getElem!_pos _ i (by simpa using hi)]
            simp [hx]
      · by_cases hd : hget hp q = .dead
        · rw [hd]; exact ObOk.dead' _
        · refine ObOk.congr (fun b' cap' hbb => hother b' (live_lt hd hbb (hown q)) (fun e => ?_)) (hown q)
          subst e
          rename_i hne
          exact hne (hinj id q b' cap cap' hlid hd hb hbb)
    · have hq := hlive q hq
      exact ⟨hpriv q b' cap' hq hbq, fun _ hF => hF q cap' hq hbq⟩
theorem hget_one {id : Nat} {a b : Ob} (q : Nat) : hget [(id, b)] q = hget ((id, b) :: [(id, a)]) q := by
  rw [hget_put, hget_put, hget_put]
  split <;> rfl
theorem Mut.heap {P : Program} {f : FuncId} {args : List V} {k k' : Nat} {hp hp' hp'' : Heap} {d : V} (h : Mut P f args k hp d k' hp') (he : ∀ q, hget hp'' q = hget hp' q) : Mut P f args k hp d k' hp'' := by
  intro m β w vs a1 a2 a3 a4 a5 a6
  refine (h m β w vs a1 a2 a3 a4 a5 a6).mono ?_
  rintro e w' ⟨v, m', β', e1, e2, A⟩
  refine ⟨v, m', β', e1, e2, ⟨A.le, A.imm, A.old, A.size, A.same, fun id => by rw [he]; exact A.own id, fun id b cap hl => A.priv id b cap (by rwa [he] at hl), fun id id' b c c' hl hl' => A.inj id id' b c c' (by rwa [he] at hl) (by rwa [he] at hl'), A.nx, A.pin⟩⟩
def isort (l : List Int) : List Int := l.mergeSort fun x y => decide (x ≤ y)
section
variable {K : Ctx} {Q : Post} {S : St}
variable {ops : Array Oper} {rest : List Oper} {ty : TypeId} {pos : String} {after : Array Edge} {g : Option (Nat × Bool)}
theorem aops_makeSlice {d T e k bytes : Nat} {x : Operand} {n : Int} {zs : List Value} {ln : Nat} (rows : List (List V)) (hT : tyEl K.P T e k bytes = true) (hz : zeroCells K.P e = some zs)
    (h1 : zs.all (·.oneCell') = true) (hk : Nat.blt 0 k = true) (h0 : 0 ≤ n ∧ (bytes : Int) * n ≤ 140737488355328 ∧ n ≤ 140737488355328) (hr : rows = List.replicate n.toNat (zs.map V.con)) (hln : ln = n.toNat) (hw : Wants ops S ⟨some d, .makeSlice T x x, ty, pos, after, g⟩ true)
    (hx : evl S x = .con (.int .i64 n)) (hN : Nat.blt d K.N = true)
    (kk : AOps K ops rest Q ⟨(d, .own S.nx ln) :: S.env, (S.nx, .arr e k rows) :: S.hp, S.nx + 1⟩) :
    AOps K ops (⟨some d, .makeSlice T x x, ty, pos, after, g⟩ :: rest) Q S := by
  subst hr hln
  refine aops_runs hw (fun m β w a r => ?_) kk
  have hk := Nat.le_of_ble_eq_true hk
  obtain ⟨i, z, hu, hi, hs, hby, hzz, hzk⟩ := tyEl_inv hT
  have hzs : zs = z.cells.toList := by
    have : zeroCells K.P e = some z.cells.toList := by simp [zeroCells, hi, hzz]
    rw [hz] at this; exact Option.some.inj this
  have hzl : zs.length = k := by rw [hzs]; simp [hzk]
  have hrun := run_make (P := K.P) w T e i z hu hi hzz .i64 .i64 n n h0.1 (Int.le_refl _) (by rw [hby]; omega) (by omega)
  obtain ⟨β', hle, hnx, r2⟩ := r.alloc (.cells (madeCells z.cells (n.toNat * i.size)) e (0, 0)) (.arr e k (List.replicate n.toNat (zs.map V.con))) n.toNat _ rfl (fun β' hle => by
    refine obok_new (vs := madeCells z.cells (n.toNat * i.size)) (by simp) (by rw [size_madeCells, hs]) (by simp) (by unfold maxLen; omega) (fun row hrow => by rw [List.eq_of_mem_replicate hrow]; simp [hzl]) ?_
    intro p j row c hp hj
    have hpn : p < n.toNat := by have := (List.getElem?_eq_some_iff.1 hp).1; simpa using this
    have hrow : row = zs.map V.con := by
      have := (List.getElem?_eq_some_iff.1 hp).2
      rw [List.getElem_replicate] at this; exact this.symm
    subst hrow
    rw [List.getElem?_map] at hj
    cases hzj : zs[j]? with
    | none => rw [hzj] at hj; simp at hj
    | some v =>
      rw [hzj] at hj
      simp at hj
      subst hj
      have hjk : j < k := by have := (List.getElem?_eq_some_iff.1 hzj).1; omega
      have hv : zs[j]'(by omega) = v := (List.getElem?_eq_some_iff.1 hzj).2
      refine ⟨v, ?_, .imm (.con _), List.all_eq_true.1 h1 v (List.mem_of_getElem? hzj)⟩
      have hlt : p * k + j < n.toNat * i.size := by
        rw [hs]
        have : (p + 1) * k ≤ n.toNat * k := Nat.mul_le_mul_right k hpn
        rw [Nat.succ_mul] at this
        omega
      unfold madeCells
      rw [Array.getElem?_map, Array.getElem?_range, if_pos hlt, Option.map_some, hzk, Nat.mul_comm, Nat.mul_add_mod, Nat.mod_eq_of_lt hjk, getElem!_pos _ j (by omega)]
      congr 1
      rw [← hv]
      simp [hzs])
  refine ⟨.slice (some ⟨w.heap.size, 0, none⟩) n.toNat n.toNat, _, m, β', .inl ?_, Rel.put r2 hN (.own hnx)⟩
  simp only [execOp]
  rw [Sem.run_bind]
  have hxv := r.con hx
  rw [hxv, hrun]
  rfl
end
end Go.Pv
