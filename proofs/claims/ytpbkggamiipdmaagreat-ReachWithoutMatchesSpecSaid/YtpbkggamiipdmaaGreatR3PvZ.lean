/- The framework of walks over abstract values (own text), part Z. -/
import Derived.Test.YtpbkggamiipdmaaGreatR3PvV
import Derived.Test.YtpbkggamiipdmaaGreatR3PvN
import Derived.Shelf.Sort.Plain
import Derived.Laws.MakeOwn
import Derived.Shelf.Slices.In.SortNone
import Derived.Below
import Derived.Laws.AppendOwn
namespace Go.Pv
open Go Go.RowKit
theorem MutG.heap {gl : Gl} {P : Program} {f : FuncId} {args : List V} {k k' : Nat} {hp hp' hp'' : Heap} {d : V} (h : MutG gl P f args k hp d k' hp') (he : ∀ q, hget hp'' q = hget hp' q) : MutG gl P f args k hp d k' hp'' := by
  intro m β w vs a1 a2 a3 a4 a5 a6 a7 a8
  refine (h m β w vs a1 a2 a3 a4 a5 a6 a7 a8).mono ?_
  rintro e w' ⟨v, m', β', e1, e2, A⟩
  refine ⟨v, m', β', e1, e2, ⟨A.le, A.imm, A.old, A.size, A.same, fun id => by rw [he]; exact A.own id, fun id b cap hl => A.priv id b cap (by rwa [he] at hl), fun id id' b c c' hl hl' => A.inj id id' b c c' (by rwa [he] at hl) (by rwa [he] at hl'),
    fun id x hl hx => let q := A.hid id x (by rwa [he] at hl) hx; ⟨q.1, q.2.1, q.2.2.1, fun i b c hi => q.2.2.2.1 i b c (by rwa [he] at hi), fun i hi => q.2.2.2.2 i (by rwa [he] at hi)⟩, A.nx, A.pin⟩⟩
section
variable {K : Ctx} {Q : Post} {S : St}
variable {ops : Array Oper} {rest : List Oper} {ty : TypeId} {pos : String} {after : Array Edge} {g : Option (Nat × Bool)}
theorem aops_makeSlice {d T e k bytes : Nat} {x : Operand} {n : Int} {zs : List Value} {ln : Nat} (rows : List (List V)) (hT : tyEl K.P T e k bytes = true) (hz : zeroCells K.P e = some zs)
    (h1 : zs.all (·.oneCell') = true) (hk : Nat.blt 0 k = true) (h0 : 0 ≤ n ∧ (bytes : Int) * n ≤ 140737488355328 ∧ n ≤ 140737488355328) (hr : rows = List.replicate n.toNat (zs.map V.con)) (hln : ln = n.toNat) (hw : Wants ops S ⟨some d, .makeSlice T x x, ty, pos, after, g⟩ true)
    (hx : evl K S x = .con (.int .i64 n)) (hN : Nat.blt d K.N = true)
    (kk : AOps K ops rest Q ⟨(d, .own S.nx ln) :: S.env, (S.nx, .arr e k rows) :: S.hp, S.nx + 1⟩) :
    AOps K ops (⟨some d, .makeSlice T x x, ty, pos, after, g⟩ :: rest) Q S := by
  subst hr hln
  refine aops_runs hw (fun m β w a r => ?_) kk
  have hk := Nat.le_of_ble_eq_true hk
  obtain ⟨i, z, hu, hi, hs, hby, hzz, hzk⟩ := tyEl_inv hT
  have hzs : zs = z.cells.toList := by
    have : zeroCells K.P e = some z.cells.toList := by simp [zeroCells, hi, hzz]
    rw [hz] at this; exact Option.some.inj this
  have hzl : zs.length = k := by rw [hzs]; simp [hzk]
  have hrun := run_make (P := K.P) w T e i z hu hi hzz .i64 .i64 n n h0.1 (Int.le_refl _) (by rw [hby]; omega) (by omega)
  obtain ⟨β', hle, hnx, r2⟩ := r.alloc (.cells (madeCells z.cells (n.toNat * i.size)) e (0, 0)) (.arr e k (List.replicate n.toNat (zs.map V.con))) ⟨n.toNat, 0⟩ _ rfl (fun β' hle => by
    refine obok_new0 (vs := madeCells z.cells (n.toNat * i.size)) (by simp) (by rw [size_madeCells, hs]) (by simp) (by unfold maxLen; omega) (fun row hrow => by rw [List.eq_of_mem_replicate hrow]; simp [hzl]) ?_
    intro p j row c hp hj
    have hpn : p < n.toNat := by have := (List.getElem?_eq_some_iff.1 hp).1; simpa using this
    have hrow : row = zs.map V.con := by
      have := (List.getElem?_eq_some_iff.1 hp).2
      rw [List.getElem_replicate] at this; exact this.symm
    subst hrow
    rw [List.getElem?_map] at hj
    cases hzj : zs[j]? with
    | none => rw [hzj] at hj; simp at hj
    | some v =>
      rw [hzj] at hj
      simp at hj
      subst hj
      have hjk : j < k := by have := (List.getElem?_eq_some_iff.1 hzj).1; omega
      have hv : zs[j]'(by omega) = v := (List.getElem?_eq_some_iff.1 hzj).2
      refine ⟨v, ?_, .imm (.con _), List.all_eq_true.1 h1 v (List.mem_of_getElem? hzj)⟩
      have hlt : p * k + j < n.toNat * i.size := by
        rw [hs]
        have : (p + 1) * k ≤ n.toNat * k := Nat.mul_le_mul_right k hpn
        rw [Nat.succ_mul] at this
        omega
      unfold madeCells
      rw [Array.getElem?_map, Array.getElem?_range, if_pos hlt, Option.map_some, hzk, Nat.mul_comm, Nat.mul_add_mod, Nat.mod_eq_of_lt hjk, getElem!_pos _ j (by omega)]
      congr 1
      rw [← hv]
      simp [hzs])
  refine ⟨.slice (some ⟨w.heap.size, 0, none⟩) n.toNat n.toNat, _, m, β', .inl ?_, Rel.put r2 hN (.own hnx)⟩
  simp only [execOp]
  rw [Sem.run_bind]
  have hxv := r.con hx
  rw [hxv, hrun]
  rfl
theorem aops_makeSlice_at {d T e k bytes nx : Nat} {x : Operand} {n : Int} {zs : List Value} {ln : Nat} (id : Nat) (hid : (Nat.blt id nx && Nat.ble K.pins id) = true) (hnx0 : S.nx = nx) (hres : hget S.hp id = .res) (rows : List (List V)) (hT : tyEl K.P T e k bytes = true) (hz : zeroCells K.P e = some zs)
    (h1 : zs.all (·.oneCell') = true) (hk : Nat.blt 0 k = true) (h0 : 0 ≤ n ∧ (bytes : Int) * n ≤ 140737488355328 ∧ n ≤ 140737488355328) (hr : rows = List.replicate n.toNat (zs.map V.con)) (hln : ln = n.toNat) (hw : Wants ops S ⟨some d, .makeSlice T x x, ty, pos, after, g⟩ true)
    (hx : evl K S x = .con (.int .i64 n)) (hN : Nat.blt d K.N = true)
    (kk : AOps K ops rest Q ⟨(d, .own id ln) :: S.env, (id, .arr e k rows) :: S.hp, S.nx⟩) :
    AOps K ops (⟨some d, .makeSlice T x x, ty, pos, after, g⟩ :: rest) Q S := by
  subst hr hln
  refine aops_runs hw (fun m β w a r => ?_) kk
  have hk := Nat.le_of_ble_eq_true hk
  obtain ⟨i, z, hu, hi, hs, hby, hzz, hzk⟩ := tyEl_inv hT
  have hzs : zs = z.cells.toList := by
    have : zeroCells K.P e = some z.cells.toList := by simp [zeroCells, hi, hzz]
    rw [hz] at this; exact Option.some.inj this
  have hzl : zs.length = k := by rw [hzs]; simp [hzk]
  have hrun := run_make (P := K.P) w T e i z hu hi hzz .i64 .i64 n n h0.1 (Int.le_refl _) (by rw [hby]; omega) (by omega)
  obtain ⟨β', hle, hnx, r2⟩ := r.allocAt id (by rw [hnx0]; exact Nat.le_of_ble_eq_true (Bool.and_eq_true_iff.1 hid).1) (Nat.le_of_ble_eq_true (Bool.and_eq_true_iff.1 hid).2) hres (.cells (madeCells z.cells (n.toNat * i.size)) e (0, 0)) (.arr e k (List.replicate n.toNat (zs.map V.con))) ⟨n.toNat, 0⟩ _ rfl (fun β' hle => by
    refine obok_new0 (vs := madeCells z.cells (n.toNat * i.size)) (by simp) (by rw [size_madeCells, hs]) (by simp) (by unfold maxLen; omega) (fun row hrow => by rw [List.eq_of_mem_replicate hrow]; simp [hzl]) ?_
    intro p j row c hp hj
    have hpn : p < n.toNat := by have := (List.getElem?_eq_some_iff.1 hp).1; simpa using this
    have hrow : row = zs.map V.con := by
      have := (List.getElem?_eq_some_iff.1 hp).2
      rw [List.getElem_replicate] at this; exact this.symm
    subst hrow
    rw [List.getElem?_map] at hj
    cases hzj : zs[j]? with
    | none => rw [hzj] at hj; simp at hj
    | some v =>
      rw [hzj] at hj
      simp at hj
      subst hj
      have hjk : j < k := by have := (List.getElem?_eq_some_iff.1 hzj).1; omega
      have hv : zs[j]'(by omega) = v := (List.getElem?_eq_some_iff.1 hzj).2
      refine ⟨v, ?_, .imm (.con _), List.all_eq_true.1 h1 v (List.mem_of_getElem? hzj)⟩
      have hlt : p * k + j < n.toNat * i.size := by
        rw [hs]
        have : (p + 1) * k ≤ n.toNat * k := Nat.mul_le_mul_right k hpn
        rw [Nat.succ_mul] at this
        omega
      unfold madeCells
      rw [Array.getElem?_map, Array.getElem?_range, if_pos hlt, Option.map_some, hzk, Nat.mul_comm, Nat.mul_add_mod, Nat.mod_eq_of_lt hjk, getElem!_pos _ j (by omega)]
      congr 1
      rw [← hv]
      simp [hzs])
  refine ⟨.slice (some ⟨w.heap.size, 0, none⟩) n.toNat n.toNat, _, m, β', .inl ?_, Rel.put r2 hN (.own hnx)⟩
  simp only [execOp]
  rw [Sem.run_bind]
  have hxv := r.con hx
  rw [hxv, hrun]
  rfl
end
end Go.Pv
