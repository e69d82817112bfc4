/- Part of the proof: HW3a. -/
import Derived.Test.YtkciogeafbbggaaOHM
import Derived.KernelRfl
namespace Go.Proofs.Ytkciogeafbbggaa
open Go Go.Pv
set_option linter.unusedVariables false
set_option maxRecDepth 100000
theorem W78 (F : Nat) (a1 : (List Int)) (a2 : Int) (r : Int) (h : M78 F a1 a2 = some r) : Pure Try.prog 78 [(V.lst 1 (a1.map encI_i64)), (iV a2)] (iV r) := by
  refine pin (fun r => (iV r)) r rfl Try.func78 rfl rfl rfl rfl rfl (fun w0 m0 => ?_)
  unfold M78 at h
  refine rn 8 rfl ?_
  refine ln rfl rfl ?_
  refine rn 2 rfl ?_
  refine jK h (fun _ : Unit => (⟨[], [], 0⟩ : St)) (fun k3 (_ : Unit) => k3 = some r) (fun k3 h => ?_) ?_
  · refine rn 1 rfl ?_
    refine lC (fun (p : Int) => (⟨[(0, (V.lst 1 (a1.map encI_i64))), (1, (iV a2)), (7, (V.lst 1 (a1.map encI_i64))), (8, (iV ((a1.length : Nat) : Int))), (9, (iV p))], [], 0⟩ : St)) (fun n (p : Int) => M78_L1 F a1 a2 k3 n p = some r) (fun p h => by simp [M78_L1] at h) F 0 h (g0 rfl rfl) (fun n n5 h => ?_)
    unfold M78_L1 at h
    refine rn 5 rfl ?_
    refine spC h rfl (fun hb6 h => ?_) (fun hb6 h => ?_)
    · refine rn 6 rfl ?_
      refine ixl h rfl rfl (fun x7 hx8 h => ?_)
      refine rn 10 rfl ?_
      refine spO 17 h rfl (fun hb9 h => ?_) (fun hb9 h => ?_)
      · refine rn 11 rfl ?_
        exact rt h rfl
      refine rn 6 rfl ?_
      refine jK h (fun _ : Unit => (⟨[(0, (V.lst 1 (a1.map encI_i64))), (1, (iV a2)), (7, (V.lst 1 (a1.map encI_i64))), (8, (iV ((a1.length : Nat) : Int))), (9, (iV n5)), (18, (iV x7)), (19, (iV a2)), (20, (bV (decide (x7 > a2))))], [], 0⟩ : St)) (fun k10 (_ : Unit) => k10 = some r) (fun k10 h => ?_) ?_
      · refine spC h rfl (fun hb11 h => ?_) (fun hb11 h => ?_)
        · refine rn 4 rfl ?_
          exact rt h rfl
        refine rn 5 rfl ?_
        refine spO 25 h rfl (fun hb12 h => ?_) (fun hb12 h => ?_)
        · refine rn 4 rfl ?_
          refine ixl h rfl rfl (fun x13 hx14 h => ?_)
          refine rn 5 rfl ?_
          refine spC h rfl (fun hb15 h => ?_) (fun hb15 h => ?_)
          · refine rn 4 rfl ?_
            exact rt h rfl
          refine rn 1 rfl ?_
          exact jX () h (g0 rfl rfl)
        refine rn 12 rfl ?_
        exact jX () h (g0 rfl rfl)
      intro _ h
      refine rn 6 rfl ?_
      exact jX (w64 (n5 + 1)) h (g0 rfl rfl)
    refine rn 1 rfl ?_
    exact jX () h (g0 rfl rfl)
  intro _ h
  refine rn 4 rfl ?_
  exact rt h rfl
theorem W21 (F : Nat) (a1 : TCalendar) (r : Int) (h : M21 F a1 = some r) : Pure Try.prog 21 [(V.agg (encTCalendar a1))] (iV r) := by
  refine pin (fun r => (iV r)) r rfl Try.func21 rfl rfl rfl rfl rfl (fun w0 m0 => ?_)
  unfold M21 at h
  refine rn 10 rfl ?_
  refine ln rfl rfl ?_
  refine rn 2 rfl ?_
  refine spO 8 h rfl (fun hb2 h => ?_) (fun hb2 h => ?_)
  · refine rn 11 rfl ?_
    exact rt h rfl
  refine rn 2 rfl ?_
  refine ln rfl rfl ?_
  refine rn 3 rfl ?_
  refine spC h rfl (fun hb3 h => ?_) (fun hb3 h => ?_)
  · refine rn 4 rfl ?_
    exact rt h rfl
  refine rn 6 rfl ?_
  refine cl h rfl rfl rfl (W78 _ _ _) rfl (fun y4 hx5 h => ?_)
  refine rn 7 rfl ?_
  refine spC h rfl (fun hb6 h => ?_) (fun hb6 h => ?_)
  · refine rn 5 rfl ?_
    exact rt h rfl
  refine rn 5 rfl ?_
  refine cl h rfl rfl rfl (W78 _ _ _) rfl (fun y7 hx8 h => ?_)
  refine rn 2 rfl ?_
  exact rt h rfl
theorem W69 (F : Nat) (a1 : Int) (r : Bool) (h : M69 F a1 = some r) : Pure Try.prog 69 [(iV a1)] (bV r) := by
  refine pin (fun r => (bV r)) r rfl Try.func69 rfl rfl rfl rfl rfl (fun w0 m0 => ?_)
  unfold M69 at h
  refine rn 9 rfl ?_
  refine spO 5 h rfl (fun hb2 h => ?_) (fun hb2 h => ?_)
  · refine rn 5 rfl ?_
    exact rt h rfl
  refine rn 5 rfl ?_
  exact rt h rfl
theorem W70 (F : Nat) (a1 : TCalendar) (r : Thistory_week) (h : M70 F a1 = some r) : Pure Try.prog 70 [(V.agg (encTCalendar a1))] (V.agg [(bV (r.free 0)), (bV (r.free 1)), (bV (r.free 2)), (bV (r.free 3)), (bV (r.free 4)), (bV (r.free 5)), (bV (r.free 6)), (iV r.work), (V.lst 1 (r.holidays.map encI_i64))]) := by
  refine pin (fun r => (V.agg [(bV (r.free 0)), (bV (r.free 1)), (bV (r.free 2)), (bV (r.free 3)), (bV (r.free 4)), (bV (r.free 5)), (bV (r.free 6)), (iV r.work), (V.lst 1 (r.holidays.map encI_i64))])) r rfl Try.func70 rfl rfl rfl rfl rfl (fun w0 m0 => ?_)
  unfold M70 at h
  refine rn 9 rfl ?_
  refine ln rfl rfl ?_
  refine rn 10 rfl ?_
  refine ln rfl rfl ?_
  refine rn 2 rfl ?_
  refine jK h (fun (p : (Nat → Bool)) => (⟨[(1, (V.ptr 0 2 0 0)), (2, (V.ptr 1 9 0 0)), (3, (V.ptr 2 9 0 0))], [(0, (Ob.arr 24 2 [(encTCalendar a1)])), (1, (Ob.arr 101 9 [[(bV false), (bV false), (bV false), (bV false), (bV false), (bV false), (bV false), (iV 0), nV]])), (2, (Ob.arr 101 9 [[(bV (p 0)), (bV (p 1)), (bV (p 2)), (bV (p 3)), (bV (p 4)), (bV (p 5)), (bV (p 6)), (iV (w64 (7 - ((a1.Free.length : Nat) : Int)))), nV]]))], 3⟩ : St)) (fun k2 (p : (Nat → Bool)) => k2 p = some r) (fun k2 h => ?_) ?_
  · refine rn 1 rfl ?_
    refine lC (fun (p : Int × (Nat → Bool)) => (⟨[(1, (V.ptr 0 2 0 0)), (2, (V.ptr 1 9 0 0)), (3, (V.ptr 2 9 0 0)), (14, (V.lst 1 (a1.Free.map encI_i64))), (15, (iV ((a1.Free.length : Nat) : Int))), (16, (iV (p.1)))], [(0, (Ob.arr 24 2 [(encTCalendar a1)])), (1, (Ob.arr 101 9 [[(bV false), (bV false), (bV false), (bV false), (bV false), (bV false), (bV false), (iV 0), nV]])), (2, (Ob.arr 101 9 [[(bV ((p.2) 0)), (bV ((p.2) 1)), (bV ((p.2) 2)), (bV ((p.2) 3)), (bV ((p.2) 4)), (bV ((p.2) 5)), (bV ((p.2) 6)), (iV (w64 (7 - ((a1.Free.length : Nat) : Int)))), nV]]))], 3⟩ : St)) (fun n (p : Int × (Nat → Bool)) => M70_L1 F a1 k2 n p.1 p.2 = some r) (fun p h => by simp [M70_L1] at h) F (0, (fun _ => false)) h (gr [0, 1, 2] rfl (hB rfl rfl rfl (hB rfl rfl rfl (hB rfl rfl rfl .nil))) rfl) (fun n p h => ?_)
    obtain ⟨n6, f7⟩ := p
    unfold M70_L1 at h
    refine rn 5 rfl ?_
    refine spC h rfl (fun hb8 h => ?_) (fun hb8 h => ?_)
    · refine rn 5 rfl ?_
      refine ixl h rfl rfl (fun x9 hx10 h => ?_)
      refine rn 6 rfl ?_
      refine ck h (fun hc11 h => ?_)
      refine aops_index_arr tArr99 wants_none rfl rfl hc11.1 hc11.2 rfl ?_
      refine aops_store [(bV true)] [[(bV ((upd f7 x9.toNat true) 0)), (bV ((upd f7 x9.toNat true) 1)), (bV ((upd f7 x9.toNat true) 2)), (bV ((upd f7 x9.toNat true) 3)), (bV ((upd f7 x9.toNat true) 4)), (bV ((upd f7 x9.toNat true) 5)), (bV ((upd f7 x9.toNat true) 6)), (iV (w64 (7 - ((a1.Free.length : Nat) : Int)))), nV]] tS4 wants_none rfl rfl rfl rfl rfl rfl (arr_ble hc11.2 (by simp)) (congrArg (fun r => [r]) (arr_set [] [(iV (w64 (7 - ((a1.Free.length : Nat) : Int)))), nV] (fun x => (bV x)) f7 true hc11.2 rfl (by simp))) ?_
      refine fo (rn 6 rfl ?_)
      exact jX ((w64 (n6 + 1)), (upd f7 x9.toNat true)) h (gr [0, 1, 2] rfl (hB rfl rfl rfl (hB rfl rfl rfl (hB rfl rfl rfl .nil))) rfl)
    refine rn 1 rfl ?_
    exact jX f7 h (gr [0, 1, 2] rfl (hB rfl rfl rfl (hB rfl rfl rfl (hB rfl rfl rfl .nil))) rfl)
  intro f3 h
  refine rn 5 rfl ?_
  refine ln rfl rfl ?_
  refine rn 2 rfl ?_
  refine jK h (fun (p : (List Int)) => (⟨[(2, (V.ptr 0 9 0 0)), (3, (V.ptr 1 9 0 0))], [(0, (Ob.arr 101 9 [[(bV false), (bV false), (bV false), (bV false), (bV false), (bV false), (bV false), (iV 0), nV]])), (1, (Ob.arr 101 9 [[(bV (f3 0)), (bV (f3 1)), (bV (f3 2)), (bV (f3 3)), (bV (f3 4)), (bV (f3 5)), (bV (f3 6)), (iV (w64 (7 - ((a1.Free.length : Nat) : Int)))), (V.own 2 p.length)]])), (2, (Ob.arr 3 1 (p.map encI_i64)))], 3⟩ : St)) (fun k12 (p : (List Int)) => k12 p = some r) (fun k12 h => ?_) ?_
  · refine rn 1 rfl ?_
    refine lC (fun (p : Int × (List Int)) => (⟨[(2, (V.ptr 0 9 0 0)), (3, (V.ptr 1 9 0 0)), (25, (V.lst 1 (a1.Holidays.map encI_i64))), (26, (iV ((a1.Holidays.length : Nat) : Int))), (27, (iV (p.1)))], [(0, (Ob.arr 101 9 [[(bV false), (bV false), (bV false), (bV false), (bV false), (bV false), (bV false), (iV 0), nV]])), (1, (Ob.arr 101 9 [[(bV (f3 0)), (bV (f3 1)), (bV (f3 2)), (bV (f3 3)), (bV (f3 4)), (bV (f3 5)), (bV (f3 6)), (iV (w64 (7 - ((a1.Free.length : Nat) : Int)))), (V.own 2 (p.2).length)]])), (2, (Ob.arr 3 1 ((p.2).map encI_i64)))], 3⟩ : St)) (fun n (p : Int × (List Int)) => M70_L2 F a1 f3 k12 n p.1 p.2 = some r) (fun p h => by simp [M70_L2] at h) F (0, ([] : List Int)) h (Ghost.trans (ghost_nilC 2 3 1 (Ob.arr 101 9 [[(bV (f3 0)), (bV (f3 1)), (bV (f3 2)), (bV (f3 3)), (bV (f3 4)), (bV (f3 5)), (bV (f3 6)), (iV (w64 (7 - ((a1.Free.length : Nat) : Int)))), (V.own 3 0)]]) (ObSub.box (.cons Sub.keepNil (.cons Sub.keepNil (.cons Sub.keepNil (.cons Sub.keepNil (.cons Sub.keepNil (.cons Sub.keepNil (.cons Sub.keepNil (.cons Sub.keepNil (.cons Sub.mkNil .nil))))))))))) (ghost_ren 3 (fun i => ([1, 2, 3] : List Nat).getD i 0) _ _ (by decide) (EnvSub.get (.cons (Sub.ptr rfl rfl) (.cons (Sub.ptr rfl rfl) (.cons (Sub.imm (Imm.lst _ _)) (.cons (Sub.imm (Imm.con _)) (.cons (Sub.imm (Imm.con _)) .nil)))))) (HpSub.get (.cons rfl (ObSub.box (.cons (Sub.imm (Imm.con _)) (.cons (Sub.imm (Imm.con _)) (.cons (Sub.imm (Imm.con _)) (.cons (Sub.imm (Imm.con _)) (.cons (Sub.imm (Imm.con _)) (.cons (Sub.imm (Imm.con _)) (.cons (Sub.imm (Imm.con _)) (.cons (Sub.imm (Imm.con _)) (.cons (Sub.imm (Imm.con _)) .nil)))))))))) (.cons rfl (ObSub.box (.cons (Sub.imm (Imm.con _)) (.cons (Sub.imm (Imm.con _)) (.cons (Sub.imm (Imm.con _)) (.cons (Sub.imm (Imm.con _)) (.cons (Sub.imm (Imm.con _)) (.cons (Sub.imm (Imm.con _)) (.cons (Sub.imm (Imm.con _)) (.cons (Sub.imm (Imm.con _)) (.cons (Sub.ownE rfl rfl (by simp)) .nil)))))))))) (.cons rfl (ObSub.rows (rows_imm imms_encI_i64)) .nil)))) rfl)) (fun n p h => ?_)
    obtain ⟨n16, l17⟩ := p
    unfold M70_L2 at h
    refine rn 5 rfl ?_
    refine spC h rfl (fun hb18 h => ?_) (fun hb18 h => ?_)
    · refine rn 5 rfl ?_
      refine ixl h rfl rfl (fun x19 hx20 h => ?_)
      refine rn 8 rfl ?_
      refine ck h (fun hc21 h => ?_)
      refine aops_index_arr tArr99 wants_none rfl rfl hc21.1 hc21.2 rfl ?_
      refine aops_load_cell (bV (f3 (Int.tmod x19 7).toNat)) tC4 wants_none rfl rfl rfl (arr_get [] [(iV (w64 (7 - ((a1.Free.length : Nat) : Int)))), (V.own 2 l17.length)] (fun i => (bV (f3 i))) hc21.2 rfl (by simp)) rfl ?_
      refine fo (rn 2 rfl ?_)
      refine jK h (fun (p : (List Int)) => (⟨[(2, (V.ptr 0 9 0 0)), (3, (V.ptr 1 9 0 0)), (25, (V.lst 1 (a1.Holidays.map encI_i64))), (26, (iV ((a1.Holidays.length : Nat) : Int))), (27, (iV n16))], [(0, (Ob.arr 101 9 [[(bV false), (bV false), (bV false), (bV false), (bV false), (bV false), (bV false), (iV 0), nV]])), (1, (Ob.arr 101 9 [[(bV (f3 0)), (bV (f3 1)), (bV (f3 2)), (bV (f3 3)), (bV (f3 4)), (bV (f3 5)), (bV (f3 6)), (iV (w64 (7 - ((a1.Free.length : Nat) : Int)))), (V.own 2 p.length)]])), (2, (Ob.arr 3 1 (p.map encI_i64)))], 3⟩ : St)) (fun k22 (p : (List Int)) => k22 p = some r) (fun k22 h => ?_) ?_
      · refine spC h rfl (fun hb24 h => ?_) (fun hb24 h => ?_)
        · refine rn 4 rfl ?_
          refine aops_buildSlice [(0, (iV x19))] [[(iV x19)]] tEl22 tZ3 rfl rfl rfl rfl wants_none (evp_cons rfl evp_nil) rfl rfl (by simp) rfl ?_
          refine fo ?_
          refine apO encI_i64 h rfl rfl rfl rfl rfl rfl rfl rfl (fun h => ?_)
          refine rn 3 rfl ?_
          exact jX (l17 ++ ([x19] : List Int)) h (gr [0, 1, 4] rfl (hB rfl rfl rfl (hB rfl rfl rfl (hR rfl rfl .nil))) rfl)
        refine rn 1 rfl ?_
        exact jX l17 h (gr [0, 1, 2] rfl (hB rfl rfl rfl (hB rfl rfl rfl (hR rfl rfl .nil))) rfl)
      intro l23 h
      refine rn 5 rfl ?_
      exact jX ((w64 (n16 + 1)), l23) h (gr [0, 1, 2] rfl (hB rfl rfl rfl (hB rfl rfl rfl (hR rfl rfl .nil))) rfl)
    refine rn 1 rfl ?_
    exact jX l17 h (gr [0, 1, 2] rfl (hB rfl rfl rfl (hB rfl rfl rfl (hR rfl rfl .nil))) rfl)
  intro l13 h
  refine rn 5 rfl ?_
  refine awp_ghost (ghost_frzC 2 0 (Ob.arr 101 9 [[(bV (f3 0)), (bV (f3 1)), (bV (f3 2)), (bV (f3 3)), (bV (f3 4)), (bV (f3 5)), (bV (f3 6)), (iV (w64 (7 - ((a1.Free.length : Nat) : Int)))), (V.lst 1 (l13.map encI_i64))]]) rfl (rows_imm imms_encI_i64) (ObSub.box (.cons Sub.keep (.cons Sub.keep (.cons Sub.keep (.cons Sub.keep (.cons Sub.keep (.cons Sub.keep (.cons Sub.keep (.cons Sub.keep (.cons (Sub.frzAll (rows := l13.map encI_i64) (List.length_map ..).symm) .nil))))))))))) ?_
  refine fa ?_
  exact rt h rfl
theorem W140 (F : Nat) (a1 : Int) (r : Bool) (h : M140 F a1 = some r) : Pure Try.prog 140 [(iV a1)] (bV r) := by
  refine pin (fun r => (bV r)) r rfl Try.func140 rfl rfl rfl rfl rfl (fun w0 m0 => ?_)
  unfold M140 at h
  refine rn 11 rfl ?_
  exact rt h rfl
theorem W108 (F : Nat) (a1 : Int) (a2 : Int) (r : Bool) (h : M108 F a1 a2 = some r) : Pure Try.prog 108 [(iV a1), (iV a2)] (bV r) := by
  refine pin (fun r => (bV r)) r rfl Try.func108 rfl rfl rfl rfl rfl (fun w0 m0 => ?_)
  unfold M108 at h
  refine rn 7 rfl ?_
  refine cl h rfl rfl rfl (W140 _ _) rfl (fun y3 hx4 h => ?_)
  refine rn 1 rfl ?_
  refine spO 7 h rfl (fun hb5 h => ?_) (fun hb5 h => ?_)
  · refine rn 1 rfl ?_
    refine cl h rfl rfl rfl (W140 _ _) rfl (fun y6 hx7 h => ?_)
    refine rn 3 rfl ?_
    refine spO 12 h rfl (fun hb8 h => ?_) (fun hb8 h => ?_)
    · refine rn 6 rfl ?_
      exact rt h rfl
    refine rn 6 rfl ?_
    exact rt h rfl
  refine rn 11 rfl ?_
  exact rt h rfl
theorem W109 (F : Nat) (a1 : Int) (r : Bool) (h : M109 F a1 = some r) : Pure Try.prog 109 [(iV a1)] (bV r) := by
  refine pin (fun r => (bV r)) r rfl Try.func109 rfl rfl rfl rfl rfl (fun w0 m0 => ?_)
  unfold M109 at h
  refine rn 11 rfl ?_
  exact rt h rfl
theorem W53 (F : Nat) (a1 : (List Int)) (a2 : Int) (r : (Int × Bool)) (h : M53 F a1 a2 = some r) : Pure Try.prog 53 [(V.lst 1 (a1.map encI_i64)), (iV a2)] (V.tup [(iV (r.1)), (bV (r.2))]) := by
  refine pin (fun r => (V.tup [(iV (r.1)), (bV (r.2))])) r rfl Try.func53 rfl rfl rfl rfl rfl (fun w0 m0 => ?_)
  unfold M53 at h
  refine rn 8 rfl ?_
  refine ln rfl rfl ?_
  refine rn 9 rfl ?_
  refine jK h (fun (p : Int) => (⟨[(0, (V.lst 1 (a1.map encI_i64))), (1, (iV a2)), (6, (iV ((a1.length : Nat) : Int))), (7, (iV p))], [], 0⟩ : St)) (fun k3 (p : Int) => k3 p = some r) (fun k3 h => ?_) ?_
  · refine rn 1 rfl ?_
    refine lC (fun (p : Int × Int) => (⟨[(0, (V.lst 1 (a1.map encI_i64))), (1, (iV a2)), (6, (iV ((a1.length : Nat) : Int))), (7, (iV (p.1))), (8, (iV (p.2)))], [], 0⟩ : St)) (fun n (p : Int × Int) => M53_L1 F a1 a2 k3 n p.1 p.2 = some r) (fun p h => by simp [M53_L1] at h) F (0, ((a1.length : Nat) : Int)) h (g0 rfl rfl) (fun n p h => ?_)
    obtain ⟨n7, n8⟩ := p
    unfold M53_L1 at h
    refine rn 7 rfl ?_
    refine spC h rfl (fun hb9 h => ?_) (fun hb9 h => ?_)
    · refine rn 16 rfl ?_
      refine ixl h rfl rfl (fun x10 hx11 h => ?_)
      refine rn 2 rfl ?_
      refine cl h rfl rfl rfl (W108 _ _ _) rfl (fun y12 hx13 h => ?_)
      refine rn 1 rfl ?_
      refine jK h (fun (p : Int × Int) => (⟨[(0, (V.lst 1 (a1.map encI_i64))), (1, (iV a2)), (6, (iV ((a1.length : Nat) : Int))), (7, (iV (p.1))), (8, (iV (p.2)))], [], 0⟩ : St)) (fun k14 (p : Int × Int) => k14 p.1 p.2 = some r) (fun k14 h => ?_) ?_
      · refine spC h rfl (fun hb17 h => ?_) (fun hb17 h => ?_)
        · refine rn 5 rfl ?_
          exact jX ((w64 ((w64 (Int.fdiv (IntKind.wrap .u64 (w64 (n7 + n8))) (2 ^ (min (Int.toNat 1) (IntKind.bits .u64))))) + 1)), n8) h (g0 rfl rfl)
        refine rn 4 rfl ?_
        exact jX (n7, (w64 (Int.fdiv (IntKind.wrap .u64 (w64 (n7 + n8))) (2 ^ (min (Int.toNat 1) (IntKind.bits .u64)))))) h (g0 rfl rfl)
      rintro ⟨n15, n16⟩ h
      refine rn 1 rfl ?_
      exact jX (n15, n16) h (g0 rfl rfl)
    refine rn 1 rfl ?_
    exact jX n7 h (g0 rfl rfl)
  intro n4 h
  refine rn 7 rfl ?_
  refine spO 35 h rfl (fun hb18 h => ?_) (fun hb18 h => ?_)
  · refine rn 2 rfl ?_
    refine ixl h rfl rfl (fun x19 hx20 h => ?_)
    refine rn 4 rfl ?_
    refine spO 42 h rfl (fun hb21 h => ?_) (fun hb21 h => ?_)
    · refine rn 14 rfl ?_
      exact rt h rfl
    refine rn 2 rfl ?_
    refine ixl h rfl rfl (fun x22 hx23 h => ?_)
    refine rn 1 rfl ?_
    refine cl h rfl rfl rfl (W109 _ _) rfl (fun y24 hx25 h => ?_)
    refine rn 1 rfl ?_
    refine spO 48 h rfl (fun hb26 h => ?_) (fun hb26 h => ?_)
    · refine rn 1 rfl ?_
      refine cl h rfl rfl rfl (W109 _ _) rfl (fun y27 hx28 h => ?_)
      refine rn 6 rfl ?_
      exact rt h rfl
    refine rn 8 rfl ?_
    exact rt h rfl
  refine rn 21 rfl ?_
  exact rt h rfl
theorem W71 (F : Nat) (a1 : Thistory_week) (a2 : Int) (r : Int) (h : M71 F a1 a2 = some r) : Pure Try.prog 71 [(V.agg [(bV (a1.free 0)), (bV (a1.free 1)), (bV (a1.free 2)), (bV (a1.free 3)), (bV (a1.free 4)), (bV (a1.free 5)), (bV (a1.free 6)), (iV a1.work), (V.lst 1 (a1.holidays.map encI_i64))]), (iV a2)] (iV r) := by
  refine pin (fun r => (iV r)) r rfl Try.func71 rfl rfl rfl rfl rfl (fun w0 m0 => ?_)
  unfold M71 at h
  refine rn 21 rfl ?_
  refine jK h (fun (p : Int) => (⟨[(1, (iV a2)), (2, (V.ptr 0 9 0 0)), (5, (iV p))], [(0, (Ob.arr 101 9 [[(bV (a1.free 0)), (bV (a1.free 1)), (bV (a1.free 2)), (bV (a1.free 3)), (bV (a1.free 4)), (bV (a1.free 5)), (bV (a1.free 6)), (iV a1.work), (V.lst 1 (a1.holidays.map encI_i64))]]))], 1⟩ : St)) (fun k3 (p : Int) => k3 p = some r) (fun k3 h => ?_) ?_
  · refine rn 1 rfl ?_
    refine lC (fun (p : Int × Int) => (⟨[(1, (iV a2)), (2, (V.ptr 0 9 0 0)), (5, (iV (p.1))), (15, (iV (Int.tmod a2 7))), (16, (iV (p.2)))], [(0, (Ob.arr 101 9 [[(bV (a1.free 0)), (bV (a1.free 1)), (bV (a1.free 2)), (bV (a1.free 3)), (bV (a1.free 4)), (bV (a1.free 5)), (bV (a1.free 6)), (iV a1.work), (V.lst 1 (a1.holidays.map encI_i64))]]))], 1⟩ : St)) (fun n (p : Int × Int) => M71_L1 F a1 a2 k3 n p.1 p.2 = some r) (fun p h => by simp [M71_L1] at h) F ((w64 ((w64 (Int.tdiv a2 7)) * a1.work)), 0) h (gr [0] rfl (hB rfl rfl rfl .nil) rfl) (fun n p h => ?_)
    obtain ⟨n7, n8⟩ := p
    unfold M71_L1 at h
    refine rn 5 rfl ?_
    refine spC h rfl (fun hb9 h => ?_) (fun hb9 h => ?_)
    · refine rn 12 rfl ?_
      refine ck h (fun hc10 h => ?_)
      refine aops_index_arr tArr99 wants_none rfl rfl hc10.1 hc10.2 rfl ?_
      refine aops_load_cell (bV (a1.free n8.toNat)) tC4 wants_none rfl rfl rfl (arr_get [] [(iV a1.work), (V.lst 1 (a1.holidays.map encI_i64))] (fun i => (bV (a1.free i))) hc10.2 rfl (by simp)) rfl ?_
      refine fo (rn 2 rfl ?_)
      refine jK h (fun (p : Int) => (⟨[(1, (iV a2)), (2, (V.ptr 0 9 0 0)), (5, (iV p)), (15, (iV (Int.tmod a2 7))), (16, (iV n8))], [(0, (Ob.arr 101 9 [[(bV (a1.free 0)), (bV (a1.free 1)), (bV (a1.free 2)), (bV (a1.free 3)), (bV (a1.free 4)), (bV (a1.free 5)), (bV (a1.free 6)), (iV a1.work), (V.lst 1 (a1.holidays.map encI_i64))]]))], 1⟩ : St)) (fun k11 (p : Int) => k11 p = some r) (fun k11 h => ?_) ?_
      · refine spC h rfl (fun hb13 h => ?_) (fun hb13 h => ?_)
        · refine rn 5 rfl ?_
          exact jX (w64 (n7 + 1)) h (gr [0] rfl (hB rfl rfl rfl .nil) rfl)
        refine rn 1 rfl ?_
        exact jX n7 h (gr [0] rfl (hB rfl rfl rfl .nil) rfl)
      intro n12 h
      refine rn 5 rfl ?_
      exact jX (n12, (w64 (n8 + 1))) h (gr [0] rfl (hB rfl rfl rfl .nil) rfl)
    refine rn 1 rfl ?_
    exact jX n7 h (gr [0] rfl (hB rfl rfl rfl .nil) rfl)
  intro n4 h
  refine rn 5 rfl ?_
  refine cl h rfl rfl rfl (W53 _ _ _) rfl (fun y14 hx15 h => ?_)
  refine rn 13 rfl ?_
  exact rt h rfl
theorem W22 (F : Nat) (a1 : TCalendar) (r : Int) (h : M22 F a1 = some r) : Pure Try.prog 22 [(V.agg (encTCalendar a1))] (iV r) := by
  refine pin (fun r => (iV r)) r rfl Try.func22 rfl rfl rfl rfl rfl (fun w0 m0 => ?_)
  unfold M22 at h
  refine rn 10 rfl ?_
  refine ln rfl rfl ?_
  refine rn 2 rfl ?_
  refine spO 11 h rfl (fun hb2 h => ?_) (fun hb2 h => ?_)
  · refine rn 11 rfl ?_
    exact rt h rfl
  refine rn 2 rfl ?_
  refine ln rfl rfl ?_
  refine rn 3 rfl ?_
  refine spC h rfl (fun hb3 h => ?_) (fun hb3 h => ?_)
  · refine rn 4 rfl ?_
    exact rt h rfl
  refine rn 6 rfl ?_
  refine ln rfl rfl ?_
  refine rn 2 rfl ?_
  refine jK h (fun _ : Unit => (⟨[(1, (V.ptr 0 2 0 0))], [(0, (Ob.arr 24 2 [(encTCalendar a1)]))], 1⟩ : St)) (fun k4 (_ : Unit) => k4 = some r) (fun k4 h => ?_) ?_
  · refine rn 1 rfl ?_
    refine lC (fun (p : Int) => (⟨[(1, (V.ptr 0 2 0 0)), (18, (V.lst 1 (a1.Free.map encI_i64))), (19, (iV ((a1.Free.length : Nat) : Int))), (20, (iV p))], [(0, (Ob.arr 24 2 [(encTCalendar a1)]))], 1⟩ : St)) (fun n (p : Int) => M22_L1 F a1 k4 n p = some r) (fun p h => by simp [M22_L1] at h) F 0 h (gr [0] rfl (hB rfl rfl rfl .nil) rfl) (fun n n6 h => ?_)
    unfold M22_L1 at h
    refine rn 5 rfl ?_
    refine spC h rfl (fun hb7 h => ?_) (fun hb7 h => ?_)
    · refine rn 2 rfl ?_
      refine jK h (fun (p : Int × Bool) => (⟨[(1, (V.ptr 0 2 0 0)), (18, (V.lst 1 (a1.Free.map encI_i64))), (19, (iV ((a1.Free.length : Nat) : Int))), (20, (iV n6)), (28, (iV (p.1))), (29, (bV (p.2)))], [(0, (Ob.arr 24 2 [(encTCalendar a1)]))], 1⟩ : St)) (fun k8 (p : Int × Bool) => k8 p.1 p.2 = some r) (fun k8 h => ?_) ?_
      · refine rn 4 rfl ?_
        refine ixl h rfl rfl (fun x11 hx12 h => ?_)
        refine rn 10 rfl ?_
        refine spO 27 h rfl (fun hb13 h => ?_) (fun hb13 h => ?_)
        · refine rn 9 rfl ?_
          exact rt h rfl
        refine rn 4 rfl ?_
        refine spC h rfl (fun hb14 h => ?_) (fun hb14 h => ?_)
        · refine rn 4 rfl ?_
          exact rt h rfl
        refine rn 6 rfl ?_
        refine spO 33 h rfl (fun hb15 h => ?_) (fun hb15 h => ?_)
        · refine rn 5 rfl ?_
          refine ixl h rfl rfl (fun x16 hx17 h => ?_)
          refine rn 4 rfl ?_
          refine spC h rfl (fun hb18 h => ?_) (fun hb18 h => ?_)
          · refine rn 4 rfl ?_
            exact rt h rfl
          refine rn 2 rfl ?_
          exact jX (x11, (decide (x11 > 6))) h (gr [0] rfl (hB rfl rfl rfl .nil) rfl)
        refine rn 13 rfl ?_
        exact jX (x11, (decide (x11 > 6))) h (gr [0] rfl (hB rfl rfl rfl .nil) rfl)
      rintro ⟨n9, b10⟩ h
      refine rn 4 rfl ?_
      exact jX (w64 (n6 + 1)) h (gr [0] rfl (hB rfl rfl rfl .nil) rfl)
    refine rn 1 rfl ?_
    exact jX () h (gr [0] rfl (hB rfl rfl rfl .nil) rfl)
  intro _ h
  refine rn 5 rfl ?_
  refine ln rfl rfl ?_
  refine rn 2 rfl ?_
  refine jK h (fun _ : Unit => (⟨[], [], 0⟩ : St)) (fun k19 (_ : Unit) => k19 = some r) (fun k19 h => ?_) ?_
  · refine rn 1 rfl ?_
    refine lC (fun (p : Int) => (⟨[(1, (V.ptr 0 2 0 0)), (45, (V.lst 1 (a1.Holidays.map encI_i64))), (46, (iV ((a1.Holidays.length : Nat) : Int))), (47, (iV p))], [(0, (Ob.arr 24 2 [(encTCalendar a1)]))], 1⟩ : St)) (fun n (p : Int) => M22_L2 F a1 k19 n p = some r) (fun p h => by simp [M22_L2] at h) F 0 h (gr [0] rfl (hB rfl rfl rfl .nil) rfl) (fun n n21 h => ?_)
    unfold M22_L2 at h
    refine rn 5 rfl ?_
    refine spC h rfl (fun hb22 h => ?_) (fun hb22 h => ?_)
    · refine rn 2 rfl ?_
      refine jK h (fun (p : Int × Bool) => (⟨[(1, (V.ptr 0 2 0 0)), (45, (V.lst 1 (a1.Holidays.map encI_i64))), (46, (iV ((a1.Holidays.length : Nat) : Int))), (47, (iV n21)), (55, (iV (p.1))), (56, (bV (p.2)))], [(0, (Ob.arr 24 2 [(encTCalendar a1)]))], 1⟩ : St)) (fun k23 (p : Int × Bool) => k23 p.1 p.2 = some r) (fun k23 h => ?_) ?_
      · refine rn 4 rfl ?_
        refine ixl h rfl rfl (fun x26 hx27 h => ?_)
        refine rn 10 rfl ?_
        refine spO 54 h rfl (fun hb28 h => ?_) (fun hb28 h => ?_)
        · refine rn 9 rfl ?_
          exact rt h rfl
        refine rn 4 rfl ?_
        refine spC h rfl (fun hb29 h => ?_) (fun hb29 h => ?_)
        · refine rn 4 rfl ?_
          exact rt h rfl
        refine rn 6 rfl ?_
        refine spO 60 h rfl (fun hb30 h => ?_) (fun hb30 h => ?_)
        · refine rn 5 rfl ?_
          refine ixl h rfl rfl (fun x31 hx32 h => ?_)
          refine rn 4 rfl ?_
          refine spC h rfl (fun hb33 h => ?_) (fun hb33 h => ?_)
          · refine rn 4 rfl ?_
            exact rt h rfl
          refine rn 2 rfl ?_
          exact jX (x26, (decide (x26 > 1000000))) h (gr [0] rfl (hB rfl rfl rfl .nil) rfl)
        refine rn 13 rfl ?_
        exact jX (x26, (decide (x26 > 1000000))) h (gr [0] rfl (hB rfl rfl rfl .nil) rfl)
      rintro ⟨n24, b25⟩ h
      refine rn 4 rfl ?_
      exact jX (w64 (n21 + 1)) h (gr [0] rfl (hB rfl rfl rfl .nil) rfl)
    refine rn 1 rfl ?_
    exact jX () h (g0 rfl rfl)
  intro _ h
  refine rn 4 rfl ?_
  exact rt h rfl
theorem W72 (F : Nat) (a1 : Int) (r : Bool) (h : M72 F a1 = some r) : Pure Try.prog 72 [(iV a1)] (bV r) := by
  refine pin (fun r => (bV r)) r rfl Try.func72 rfl rfl rfl rfl rfl (fun w0 m0 => ?_)
  unfold M72 at h
  refine rn 9 rfl ?_
  refine spO 5 h rfl (fun hb2 h => ?_) (fun hb2 h => ?_)
  · refine rn 5 rfl ?_
    exact rt h rfl
  refine rn 5 rfl ?_
  exact rt h rfl
theorem W73 (F : Nat) (a1 : TCalendar) (r : Tprovenderref11_calendar) (h : M73 F a1 = some r) : Pure Try.prog 73 [(V.agg (encTCalendar a1))] (V.agg [(bV (r.free 0)), (bV (r.free 1)), (bV (r.free 2)), (bV (r.free 3)), (bV (r.free 4)), (bV (r.free 5)), (bV (r.free 6)), (V.imap (r.holidays.map encM3_4))]) := by
  refine pin (fun r => (V.agg [(bV (r.free 0)), (bV (r.free 1)), (bV (r.free 2)), (bV (r.free 3)), (bV (r.free 4)), (bV (r.free 5)), (bV (r.free 6)), (V.imap (r.holidays.map encM3_4))])) r rfl Try.func73 rfl rfl rfl rfl rfl (fun w0 m0 => ?_)
  unfold M73 at h
  refine rn 17 rfl ?_
  refine ln rfl rfl ?_
  refine rn 2 rfl ?_
  refine jK h (fun (p : (Nat → Bool)) => (⟨[(1, (V.ptr 0 2 0 0)), (2, (V.ptr 1 8 0 0)), (3, (V.ptr 2 8 0 0))], [(0, (Ob.arr 24 2 [(encTCalendar a1)])), (1, (Ob.arr 106 8 [[(bV false), (bV false), (bV false), (bV false), (bV false), (bV false), (bV false), (V.con (.map none))]])), (2, (Ob.arr 106 8 [[(bV (p 0)), (bV (p 1)), (bV (p 2)), (bV (p 3)), (bV (p 4)), (bV (p 5)), (bV (p 6)), (V.map 3)]])), (3, (Ob.map (([] : List (Int × Bool)).map encM3_4)))], 4⟩ : St)) (fun k2 (p : (Nat → Bool)) => k2 p = some r) (fun k2 h => ?_) ?_
  · refine rn 1 rfl ?_
    refine lC (fun (p : Int × (Nat → Bool)) => (⟨[(1, (V.ptr 0 2 0 0)), (2, (V.ptr 1 8 0 0)), (3, (V.ptr 2 8 0 0)), (11, (V.lst 1 (a1.Free.map encI_i64))), (12, (iV ((a1.Free.length : Nat) : Int))), (13, (iV (p.1)))], [(0, (Ob.arr 24 2 [(encTCalendar a1)])), (1, (Ob.arr 106 8 [[(bV false), (bV false), (bV false), (bV false), (bV false), (bV false), (bV false), (V.con (.map none))]])), (2, (Ob.arr 106 8 [[(bV ((p.2) 0)), (bV ((p.2) 1)), (bV ((p.2) 2)), (bV ((p.2) 3)), (bV ((p.2) 4)), (bV ((p.2) 5)), (bV ((p.2) 6)), (V.map 3)]])), (3, (Ob.map (([] : List (Int × Bool)).map encM3_4)))], 4⟩ : St)) (fun n (p : Int × (Nat → Bool)) => M73_L1 F a1 k2 n p.1 p.2 = some r) (fun p h => by simp [M73_L1] at h) F (0, (fun _ => false)) h (gr [0, 1, 3, 2] rfl (hB rfl rfl rfl (hB rfl rfl rfl (hB rfl rfl rfl (hM rfl rfl .nil)))) rfl) (fun n p h => ?_)
    obtain ⟨n6, f7⟩ := p
    unfold M73_L1 at h
    refine rn 5 rfl ?_
    refine spC h rfl (fun hb8 h => ?_) (fun hb8 h => ?_)
    · refine rn 5 rfl ?_
      refine ixl h rfl rfl (fun x9 hx10 h => ?_)
      refine rn 6 rfl ?_
      refine ck h (fun hc11 h => ?_)
      refine aops_index_arr tArr99 wants_none rfl rfl hc11.1 hc11.2 rfl ?_
      refine aops_store [(bV true)] [[(bV ((upd f7 x9.toNat true) 0)), (bV ((upd f7 x9.toNat true) 1)), (bV ((upd f7 x9.toNat true) 2)), (bV ((upd f7 x9.toNat true) 3)), (bV ((upd f7 x9.toNat true) 4)), (bV ((upd f7 x9.toNat true) 5)), (bV ((upd f7 x9.toNat true) 6)), (V.map 3)]] tS4 wants_none rfl rfl rfl rfl rfl rfl (arr_ble hc11.2 (by simp)) (congrArg (fun r => [r]) (arr_set [] [(V.map 3)] (fun x => (bV x)) f7 true hc11.2 rfl (by simp))) ?_
      refine fo (rn 6 rfl ?_)
      exact jX ((w64 (n6 + 1)), (upd f7 x9.toNat true)) h (gr [0, 1, 2, 3] rfl (hB rfl rfl rfl (hB rfl rfl rfl (hB rfl rfl rfl (hM rfl rfl .nil)))) rfl)
    refine rn 1 rfl ?_
    exact jX f7 h (gr [0, 1, 2, 3] rfl (hB rfl rfl rfl (hB rfl rfl rfl (hB rfl rfl rfl (hM rfl rfl .nil)))) rfl)
  intro f3 h
  refine rn 5 rfl ?_
  refine ln rfl rfl ?_
  refine rn 2 rfl ?_
  refine jK h (fun (p : (List (Int × Bool))) => (⟨[(2, (V.ptr 0 8 0 0)), (3, (V.ptr 1 8 0 0))], [(0, (Ob.arr 106 8 [[(bV false), (bV false), (bV false), (bV false), (bV false), (bV false), (bV false), (V.con (.map none))]])), (1, (Ob.arr 106 8 [[(bV (f3 0)), (bV (f3 1)), (bV (f3 2)), (bV (f3 3)), (bV (f3 4)), (bV (f3 5)), (bV (f3 6)), (V.map 2)]])), (2, (Ob.map (p.map encM3_4)))], 3⟩ : St)) (fun k12 (p : (List (Int × Bool))) => k12 p = some r) (fun k12 h => ?_) ?_
  · refine rn 1 rfl ?_
    refine lC (fun (p : Int × (List (Int × Bool))) => (⟨[(2, (V.ptr 0 8 0 0)), (3, (V.ptr 1 8 0 0)), (22, (V.lst 1 (a1.Holidays.map encI_i64))), (23, (iV ((a1.Holidays.length : Nat) : Int))), (24, (iV (p.1)))], [(0, (Ob.arr 106 8 [[(bV false), (bV false), (bV false), (bV false), (bV false), (bV false), (bV false), (V.con (.map none))]])), (1, (Ob.arr 106 8 [[(bV (f3 0)), (bV (f3 1)), (bV (f3 2)), (bV (f3 3)), (bV (f3 4)), (bV (f3 5)), (bV (f3 6)), (V.map 2)]])), (2, (Ob.map ((p.2).map encM3_4)))], 3⟩ : St)) (fun n (p : Int × (List (Int × Bool))) => M73_L2 F a1 k12 n p.1 p.2 = some r) (fun p h => by simp [M73_L2] at h) F (0, ([] : List (Int × Bool))) h (gr [1, 2, 3] rfl (hB rfl rfl rfl (hB rfl rfl rfl (hM rfl rfl .nil))) rfl) (fun n p h => ?_)
    obtain ⟨n16, m17⟩ := p
    unfold M73_L2 at h
    refine rn 5 rfl ?_
    refine spC h rfl (fun hb18 h => ?_) (fun hb18 h => ?_)
    · refine rn 5 rfl ?_
      refine ixl h rfl rfl (fun x19 hx20 h => ?_)
      refine rn 7 rfl ?_
      refine aops_mapUpdate ((mput m17 x19 true).map encM3_4) tMap104 tKey3 wants_none rfl rfl (.con rfl) ⟨_, rfl⟩ encM3_4_good rfl (encM3_4_puts m17 x19 true) ?_
      refine fo (rn 6 rfl ?_)
      exact jX ((w64 (n16 + 1)), (mput m17 x19 true)) h (gr [0, 1, 2] rfl (hB rfl rfl rfl (hB rfl rfl rfl (hM rfl rfl .nil))) rfl)
    refine rn 1 rfl ?_
    exact jX m17 h (gr [0, 1, 2] rfl (hB rfl rfl rfl (hB rfl rfl rfl (hM rfl rfl .nil))) rfl)
  intro m13 h
  refine rn 5 rfl ?_
  refine awp_ghost (ghost_frzMC 2 0 (Ob.arr 106 8 [[(bV (f3 0)), (bV (f3 1)), (bV (f3 2)), (bV (f3 3)), (bV (f3 4)), (bV (f3 5)), (bV (f3 6)), (V.imap (m13.map encM3_4))]]) rfl encM3_4_imm (ObSub.box (.cons Sub.keepM (.cons Sub.keepM (.cons Sub.keepM (.cons Sub.keepM (.cons Sub.keepM (.cons Sub.keepM (.cons Sub.keepM (.cons Sub.frzM .nil)))))))))) ?_
  refine fa ?_
  exact rt h rfl
theorem W74 (F : Nat) (a1 : Tprovenderref11_calendar) (a2 : Int) (r : Bool) (h : M74 F a1 a2 = some r) : Pure Try.prog 74 [(V.agg [(bV (a1.free 0)), (bV (a1.free 1)), (bV (a1.free 2)), (bV (a1.free 3)), (bV (a1.free 4)), (bV (a1.free 5)), (bV (a1.free 6)), (V.imap (a1.holidays.map encM3_4))]), (iV a2)] (bV r) := by
  refine pin (fun r => (bV r)) r rfl Try.func74 rfl rfl rfl rfl rfl (fun w0 m0 => ?_)
  unfold M74 at h
  refine rn 10 rfl ?_
  refine ck h (fun hc3 h => ?_)
  refine aops_index_arr tArr99 wants_none rfl rfl hc3.1 hc3.2 rfl ?_
  refine aops_load_cell (bV (a1.free (Int.tmod a2 7).toNat)) tC4 wants_none rfl rfl rfl (arr_get [] [(V.imap (a1.holidays.map encM3_4))] (fun i => (bV (a1.free i))) hc3.2 rfl (by simp)) rfl ?_
  refine fo (rn 2 rfl ?_)
  refine spO 11 h rfl (fun hb4 h => ?_) (fun hb4 h => ?_)
  · refine rn 3 rfl ?_
    refine aops_lookup _ (bV false) (bV ((mget a1.holidays a2).getD false)) tMap104 tKey3 tZo4 (irel_con _) (wants_some (c := true) (b := true) 11 rfl rfl rfl) rfl .imm (.con rfl) ⟨_, rfl⟩ encM3_4_good (encM3_4_look a1.holidays a2) (getD_map (encM3_4_val) (mget a1.holidays a2) false) rfl ?_
    refine fo (rn 4 rfl ?_)
    exact rt h rfl
  refine rn 8 rfl ?_
  exact rt h rfl
theorem W17 (F : Nat) (a1 : TCalendar) (a2 : Int) (a3 : Int) (r : (Int × Int)) (h : M17 F a1 a2 a3 = some r) : Pure Try.prog 17 [(V.agg (encTCalendar a1)), (iV a2), (iV a3)] (V.tup [(iV (r.1)), (iV (r.2))]) := by
  refine pin (fun r => (V.tup [(iV (r.1)), (iV (r.2))])) r rfl Try.func17 rfl rfl rfl rfl rfl (fun w0 m0 => ?_)
  unfold M17 at h
  refine rn 10 rfl ?_
  refine cl h rfl rfl rfl (W21 _ _) rfl (fun y4 hx5 h => ?_)
  refine rn 7 rfl ?_
  refine spC h rfl (fun hb6 h => ?_) (fun hb6 h => ?_)
  · refine rn 6 rfl ?_
    exact rt h rfl
  refine rn 5 rfl ?_
  refine cl h rfl rfl rfl (W69 _ _) rfl (fun y7 hx8 h => ?_)
  refine rn 2 rfl ?_
  refine spO 18 h rfl (fun hb9 h => ?_) (fun hb9 h => ?_)
  · refine rn 16 rfl ?_
    exact rt h rfl
  refine rn 1 rfl ?_
  refine cl h rfl rfl rfl (W69 _ _) rfl (fun y10 hx11 h => ?_)
  refine rn 3 rfl ?_
  refine spO 23 h rfl (fun hb12 h => ?_) (fun hb12 h => ?_)
  · refine rn 11 rfl ?_
    exact rt h rfl
  refine rn 5 rfl ?_
  refine spC h rfl (fun hb13 h => ?_) (fun hb13 h => ?_)
  · refine rn 5 rfl ?_
    exact rt h rfl
  refine rn 4 rfl ?_
  refine cl h rfl rfl rfl (W70 _ _) rfl (fun y14 hx15 h => ?_)
  obtain ⟨y16, hx17, h⟩ := bind_some h
  obtain ⟨y18, hx19, h⟩ := bind_some h
  refine rn 4 rfl ?_
  refine dr mixed (vs 2 rfl (cD rfl rfl rfl rfl (W71 _ _ _ _ hx17) rfl (vs 2 rfl (cD rfl rfl rfl rfl (W71 _ _ _ _ hx19) rfl (vs 3 rfl .nil))))) (by kernel_rfl) ?_
  exact rt h rfl
theorem W75 (F : Nat) (a1 : Tprovenderref11_calendar) (a2 : Int) (a3 : Int) (r : Int) (h : M75 F a1 a2 a3 = some r) : Pure Try.prog 75 [(V.agg [(bV (a1.free 0)), (bV (a1.free 1)), (bV (a1.free 2)), (bV (a1.free 3)), (bV (a1.free 4)), (bV (a1.free 5)), (bV (a1.free 6)), (V.imap (a1.holidays.map encM3_4))]), (iV a2), (iV a3)] (iV r) := by
  refine pin (fun r => (iV r)) r rfl Try.func75 rfl rfl rfl rfl rfl (fun w0 m0 => ?_)
  unfold M75 at h
  refine rn 15 rfl ?_
  refine jK h (fun (p : Int) => (⟨[(7, (iV p))], [], 0⟩ : St)) (fun k4 (p : Int) => k4 p = some r) (fun k4 h => ?_) ?_
  · refine rn 1 rfl ?_
    refine lC (fun (p : Int × Int) => (⟨[(2, (iV a3)), (3, (V.ptr 0 8 0 0)), (7, (iV (p.1))), (8, (iV (p.2)))], [(0, (Ob.arr 106 8 [[(bV (a1.free 0)), (bV (a1.free 1)), (bV (a1.free 2)), (bV (a1.free 3)), (bV (a1.free 4)), (bV (a1.free 5)), (bV (a1.free 6)), (V.imap (a1.holidays.map encM3_4))]]))], 1⟩ : St)) (fun n (p : Int × Int) => M75_L1 F a1 a3 k4 n p.1 p.2 = some r) (fun p h => by simp [M75_L1] at h) F (0, a2) h (gr [0] rfl (hB rfl rfl rfl .nil) rfl) (fun n p h => ?_)
    obtain ⟨n8, n9⟩ := p
    unfold M75_L1 at h
    refine rn 7 rfl ?_
    refine spC h rfl (fun hb10 h => ?_) (fun hb10 h => ?_)
    · refine rn 7 rfl ?_
      refine cl h rfl rfl rfl (W74 _ _ _) rfl (fun y11 hx12 h => ?_)
      refine rn 1 rfl ?_
      refine jK h (fun (p : Int) => (⟨[(2, (iV a3)), (3, (V.ptr 0 8 0 0)), (7, (iV p)), (8, (iV n9))], [(0, (Ob.arr 106 8 [[(bV (a1.free 0)), (bV (a1.free 1)), (bV (a1.free 2)), (bV (a1.free 3)), (bV (a1.free 4)), (bV (a1.free 5)), (bV (a1.free 6)), (V.imap (a1.holidays.map encM3_4))]]))], 1⟩ : St)) (fun k13 (p : Int) => k13 p = some r) (fun k13 h => ?_) ?_
      · refine spC h rfl (fun hb15 h => ?_) (fun hb15 h => ?_)
        · refine rn 5 rfl ?_
          exact jX (w64 (n8 + 1)) h (gr [0] rfl (hB rfl rfl rfl .nil) rfl)
        refine rn 1 rfl ?_
        exact jX n8 h (gr [0] rfl (hB rfl rfl rfl .nil) rfl)
      intro n14 h
      refine rn 6 rfl ?_
      exact jX (n14, (w64 (n9 + 1))) h (gr [0] rfl (hB rfl rfl rfl .nil) rfl)
    refine rn 1 rfl ?_
    exact jX n8 h (g0 rfl rfl)
  intro n5 h
  refine rn 5 rfl ?_
  exact rt h rfl
theorem W126 (F : Nat) (a1 : Int) (a2 : Bool) (a3 : Bool) (a4 : Bool) (a5 : Bool) (a6 : Bool) (a7 : Bool) (a8 : Bool) (a9 : Int) (a10 : List Int) (a11 : Int) (a12 : Int) (r : Bool) (h : M126 F a1 a2 a3 a4 a5 a6 a7 a8 a9 a10 a11 a12 = some r) : Pure Try.prog 126 [(iV a1), (V.iptr [(bV a2), (bV a3), (bV a4), (bV a5), (bV a6), (bV a7), (bV a8), (iV a9), (V.lst 1 (a10.map encI_i64))] 0), (V.iptr [(iV a11)] 0), (V.iptr [(iV a12)] 0)] (bV r) := by
  refine pin (fun r => (bV r)) r rfl Try.func126 rfl rfl rfl rfl rfl (fun w0 m0 => ?_)
  unfold M126 at h
  obtain ⟨y13, hx14, h⟩ := bind_some h
  refine rn 5 rfl ?_
  refine dr mixed (vs 4 rfl (cD rfl rfl rfl rfl (W71 _ _ _ _ hx14) rfl (vs 3 rfl .nil))) (by kernel_rfl) ?_
  exact rt h rfl
theorem W125 (F : Nat) (a1 : Int) (a2 : Bool) (a3 : Bool) (a4 : Bool) (a5 : Bool) (a6 : Bool) (a7 : Bool) (a8 : Bool) (a9 : Int) (a10 : List Int) (a11 : Int) (a12 : Int) (r : Int) (h : M125 F a1 a2 a3 a4 a5 a6 a7 a8 a9 a10 a11 a12 = some r) : Pure Try.prog 125 [(iV a1), (V.fn (.func 126) [] [(V.iptr [(bV a2), (bV a3), (bV a4), (bV a5), (bV a6), (bV a7), (bV a8), (iV a9), (V.lst 1 (a10.map encI_i64))] 0), (V.iptr [(iV a11)] 0), (V.iptr [(iV a12)] 0)])] (iV r) := by
  refine pin (fun r => (iV r)) r rfl Try.func125 rfl rfl rfl rfl rfl (fun w0 m0 => ?_)
  unfold M125 at h
  refine rn 11 rfl ?_
  refine jK h (fun (p : Int) => (⟨[(5, (iV p))], [], 0⟩ : St)) (fun k13 (p : Int) => k13 p = some r) (fun k13 h => ?_) ?_
  · refine rn 1 rfl ?_
    refine lC (fun (p : Int × Int) => (⟨[(1, (V.fn (.func 126) [] [(V.iptr [(bV a2), (bV a3), (bV a4), (bV a5), (bV a6), (bV a7), (bV a8), (iV a9), (V.lst 1 (a10.map encI_i64))] 0), (V.iptr [(iV a11)] 0), (V.iptr [(iV a12)] 0)])), (5, (iV (p.1))), (6, (iV (p.2)))], [], 0⟩ : St)) (fun n (p : Int × Int) => M125_L1 F a2 a3 a4 a5 a6 a7 a8 a9 a10 a11 a12 k13 n p.1 p.2 = some r) (fun p h => by simp [M125_L1] at h) F (0, a1) h (g0 rfl rfl) (fun n p h => ?_)
    obtain ⟨n17, n18⟩ := p
    unfold M125_L1 at h
    refine rn 7 rfl ?_
    refine spC h rfl (fun hb19 h => ?_) (fun hb19 h => ?_)
    · refine rn 16 rfl ?_
      refine cl h rfl rfl rfl (W126 _ _ _ _ _ _ _ _ _ _ _ _ _) rfl (fun y20 hx21 h => ?_)
      refine rn 2 rfl ?_
      refine jK h (fun (p : Int × Int) => (⟨[(1, (V.fn (.func 126) [] [(V.iptr [(bV a2), (bV a3), (bV a4), (bV a5), (bV a6), (bV a7), (bV a8), (iV a9), (V.lst 1 (a10.map encI_i64))] 0), (V.iptr [(iV a11)] 0), (V.iptr [(iV a12)] 0)])), (5, (iV (p.1))), (6, (iV (p.2)))], [], 0⟩ : St)) (fun k22 (p : Int × Int) => k22 p.1 p.2 = some r) (fun k22 h => ?_) ?_
      · refine spC h rfl (fun hb25 h => ?_) (fun hb25 h => ?_)
        · refine rn 5 rfl ?_
          exact jX ((w64 ((w64 (Int.fdiv (IntKind.wrap .u64 (w64 (n17 + n18))) (2 ^ (min (Int.toNat 1) (IntKind.bits .u64))))) + 1)), n18) h (g0 rfl rfl)
        refine rn 4 rfl ?_
        exact jX (n17, (w64 (Int.fdiv (IntKind.wrap .u64 (w64 (n17 + n18))) (2 ^ (min (Int.toNat 1) (IntKind.bits .u64)))))) h (g0 rfl rfl)
      rintro ⟨n23, n24⟩ h
      refine rn 1 rfl ?_
      exact jX (n23, n24) h (g0 rfl rfl)
    refine rn 1 rfl ?_
    exact jX n17 h (g0 rfl rfl)
  intro n14 h
  refine rn 5 rfl ?_
  exact rt h rfl
theorem W76 (F : Nat) (a1 : Thistory_week) (a2 : Int) (a3 : Int) (r : (Int × Bool)) (h : M76 F a1 a2 a3 = some r) : Pure Try.prog 76 [(V.agg [(bV (a1.free 0)), (bV (a1.free 1)), (bV (a1.free 2)), (bV (a1.free 3)), (bV (a1.free 4)), (bV (a1.free 5)), (bV (a1.free 6)), (iV a1.work), (V.lst 1 (a1.holidays.map encI_i64))]), (iV a2), (iV a3)] (V.tup [(iV (r.1)), (bV (r.2))]) := by
  refine pin (fun r => (V.tup [(iV (r.1)), (bV (r.2))])) r rfl Try.func76 rfl rfl rfl rfl rfl (fun w0 m0 => ?_)
  unfold M76 at h
  refine rn 11 rfl ?_
  refine cl h rfl rfl rfl (W71 _ _ _) rfl (fun y4 hx5 h => ?_)
  obtain ⟨y6, hx7, h⟩ := bind_some h
  refine rn 6 rfl ?_
  refine dr mixed (vs 4 rfl (xD (OD.mk [(17, (iV (w64 (1000001 - a2)))), (18, (V.fn (.func 126) [] [(V.ptr 0 9 0 0), (V.ptr 1 1 0 0), (V.ptr 2 1 0 0)]))] [(0, (Ob.arr 101 9 [[(bV (a1.free 0)), (bV (a1.free 1)), (bV (a1.free 2)), (bV (a1.free 3)), (bV (a1.free 4)), (bV (a1.free 5)), (bV (a1.free 6)), (iV a1.work), (V.lst 1 (a1.holidays.map encI_i64))]])), (1, (Ob.arr 3 1 [[(iV a2)]])), (2, (Ob.arr 3 1 [[(iV (w64 (y4 + a3)))]]))] [(19, (iV y6))] []) ⟨⟨rfl, rfl, trivial⟩, ⟨rfl, rfl, rfl, trivial⟩⟩ (by exact fun S hn h hh => aops_lend_call (iV y6) [(iV (w64 (1000001 - a2))), (V.fn (.func 126) [] [(V.iptr [(bV (a1.free 0)), (bV (a1.free 1)), (bV (a1.free 2)), (bV (a1.free 3)), (bV (a1.free 4)), (bV (a1.free 5)), (bV (a1.free 6)), (iV a1.work), (V.lst 1 (a1.holidays.map encI_i64))] 0), (V.iptr [(iV a2)] 0), (V.iptr [(iV (w64 (y4 + a3)))] 0)])] fOk125 (Ghost.trans (ghost_frzV 0 18 (V.fn (.func 126) [] [(V.iptr [(bV (a1.free 0)), (bV (a1.free 1)), (bV (a1.free 2)), (bV (a1.free 3)), (bV (a1.free 4)), (bV (a1.free 5)), (bV (a1.free 6)), (iV a1.work), (V.lst 1 (a1.holidays.map encI_i64))] 0), (V.ptr 1 1 0 0), (V.ptr 2 1 0 0)]) hh.1 (imms_rows (.cons (.cons (Imm.con _) (.cons (Imm.con _) (.cons (Imm.con _) (.cons (Imm.con _) (.cons (Imm.con _) (.cons (Imm.con _) (.cons (Imm.con _) (.cons (Imm.con _) (.cons (Imm.lst _ _) .nil))))))))) .nil)) h.2.1 (Sub.fnc (.cons (Sub.frzptr rfl) (.cons Sub.keep (.cons Sub.keep .nil))))) (Ghost.trans (ghost_frzV 1 18 (V.fn (.func 126) [] [(V.iptr [(bV (a1.free 0)), (bV (a1.free 1)), (bV (a1.free 2)), (bV (a1.free 3)), (bV (a1.free 4)), (bV (a1.free 5)), (bV (a1.free 6)), (iV a1.work), (V.lst 1 (a1.holidays.map encI_i64))] 0), (V.iptr [(iV a2)] 0), (V.ptr 2 1 0 0)]) hh.2.1 (imms_rows (.cons (.cons (Imm.con _) .nil) .nil)) rfl (Sub.fnc (.cons Sub.keep (.cons (Sub.frzptr rfl) (.cons Sub.keep .nil))))) (ghost_frzV 2 18 (V.fn (.func 126) [] [(V.iptr [(bV (a1.free 0)), (bV (a1.free 1)), (bV (a1.free 2)), (bV (a1.free 3)), (bV (a1.free 4)), (bV (a1.free 5)), (bV (a1.free 6)), (iV a1.work), (V.lst 1 (a1.holidays.map encI_i64))] 0), (V.iptr [(iV a2)] 0), (V.iptr [(iV (w64 (y4 + a3)))] 0)]) hh.2.2.1 (imms_rows (.cons (.cons (Imm.con _) .nil) .nil)) rfl (Sub.fnc (.cons Sub.keep (.cons Sub.keep (.cons (Sub.frzptr rfl) .nil))))))) (Flat.con _) wants_none (evm_cons h.1 (evm_cons rfl evm_nil)) (.cons (Imm.con _) (.cons (Imm.fn .nil (.cons (Imm.iptr _ _) (.cons (Imm.iptr _ _) (.cons (Imm.iptr _ _) .nil)))) .nil)) (W125 F (w64 (1000001 - a2)) (a1.free 0) (a1.free 1) (a1.free 2) (a1.free 3) (a1.free 4) (a1.free 5) (a1.free 6) a1.work a1.holidays a2 (w64 (y4 + a3)) y6 hx7) rfl (aops_nil ⟨rfl, rfl⟩)) rfl (vs 2 rfl .nil))) (by kernel_rfl) ?_
  refine rn 8 rfl ?_
  exact rt h rfl
theorem W77 (F : Nat) (a1 : Tprovenderref11_calendar) (a2 : Int) (a3 : Int) (r : (Int × Bool)) (h : M77 F a1 a2 a3 = some r) : Pure Try.prog 77 [(V.agg [(bV (a1.free 0)), (bV (a1.free 1)), (bV (a1.free 2)), (bV (a1.free 3)), (bV (a1.free 4)), (bV (a1.free 5)), (bV (a1.free 6)), (V.imap (a1.holidays.map encM3_4))]), (iV a2), (iV a3)] (V.tup [(iV (r.1)), (bV (r.2))]) := by
  refine pin (fun r => (V.tup [(iV (r.1)), (bV (r.2))])) r rfl Try.func77 rfl rfl rfl rfl rfl (fun w0 m0 => ?_)
  unfold M77 at h
  refine rn 12 rfl ?_
  refine jK h (fun (p : Int × Int) => (⟨[(2, (iV (p.1))), (8, (iV (p.2)))], [], 0⟩ : St)) (fun k4 (p : Int × Int) => k4 p.1 p.2 = some r) (fun k4 h => ?_) ?_
  · refine rn 1 rfl ?_
    refine lC (fun (p : Int × Int) => (⟨[(2, (iV (p.1))), (3, (V.ptr 0 8 0 0)), (8, (iV (p.2)))], [(0, (Ob.arr 106 8 [[(bV (a1.free 0)), (bV (a1.free 1)), (bV (a1.free 2)), (bV (a1.free 3)), (bV (a1.free 4)), (bV (a1.free 5)), (bV (a1.free 6)), (V.imap (a1.holidays.map encM3_4))]]))], 1⟩ : St)) (fun n (p : Int × Int) => M77_L1 F a1 k4 n p.1 p.2 = some r) (fun p h => by simp [M77_L1] at h) F (a3, a2) h (gr [0] rfl (hB rfl rfl rfl .nil) rfl) (fun n p h => ?_)
    obtain ⟨n9, n10⟩ := p
    unfold M77_L1 at h
    refine rn 6 rfl ?_
    refine spO 12 h rfl (fun hb11 h => ?_) (fun hb11 h => ?_)
    · refine rn 4 rfl ?_
      refine spC h rfl (fun hb12 h => ?_) (fun hb12 h => ?_)
      · refine rn 7 rfl ?_
        refine cl h rfl rfl rfl (W74 _ _ _) rfl (fun y13 hx14 h => ?_)
        refine rn 1 rfl ?_
        refine jK h (fun (p : Int) => (⟨[(2, (iV p)), (3, (V.ptr 0 8 0 0)), (8, (iV n10)), (13, (iV n10)), (14, (bV (decide (n10 ≤ 1000000))))], [(0, (Ob.arr 106 8 [[(bV (a1.free 0)), (bV (a1.free 1)), (bV (a1.free 2)), (bV (a1.free 3)), (bV (a1.free 4)), (bV (a1.free 5)), (bV (a1.free 6)), (V.imap (a1.holidays.map encM3_4))]]))], 1⟩ : St)) (fun k15 (p : Int) => k15 p = some r) (fun k15 h => ?_) ?_
        · refine spC h rfl (fun hb17 h => ?_) (fun hb17 h => ?_)
          · refine rn 5 rfl ?_
            exact jX (w64 (n9 - 1)) h (gr [0] rfl (hB rfl rfl rfl .nil) rfl)
          refine rn 1 rfl ?_
          exact jX n9 h (gr [0] rfl (hB rfl rfl rfl .nil) rfl)
        intro n16 h
        refine rn 6 rfl ?_
        exact jX (n16, (w64 (n10 + 1))) h (gr [0] rfl (hB rfl rfl rfl .nil) rfl)
      refine rn 1 rfl ?_
      exact jX (n9, n10) h (g0 rfl rfl)
    refine rn 6 rfl ?_
    exact jX (n9, n10) h (g0 rfl rfl)
  rintro ⟨n5, n6⟩ h
  refine rn 6 rfl ?_
  refine spO 26 h rfl (fun hb18 h => ?_) (fun hb18 h => ?_)
  · refine rn 6 rfl ?_
    exact rt h rfl
  refine rn 6 rfl ?_
  exact rt h rfl
theorem W23 (F : Nat) (r : Bool) (h : M23 F  = some r) : Pure Try.prog 23 [] (bV r) := by
  refine pin (fun r => (bV r)) r rfl Try.func23 rfl rfl rfl rfl rfl (fun w0 m0 => ?_)
  unfold M23 at h
  refine rn 6 rfl ?_
  refine aops_buildSlice [(0, (iV 5)), (1, (iV 6))] [[(iV 5)], [(iV 6)]] tEl22 tZ3 rfl rfl rfl rfl wants_none (evp_cons rfl (evp_cons rfl evp_nil)) rfl rfl (by simp) rfl ?_
  obtain ⟨y1, hx2, h⟩ := bind_some h
  refine fo (rn 1 rfl ?_)
  refine aops_lend_call (V.tup [(iV (y1.1)), (iV (y1.2))]) [(V.agg [(V.lst 1 (([5, 6] : List Int).map encI_i64)), (V.lst 1 (([] : List Int).map encI_i64))]), (iV 0), (iV 14)] fOk17 (Ghost.trans (ghost_frzV 0 5 (V.agg [(V.lst 1 (([5, 6] : List Int).map encI_i64)), nV]) rfl (imms_rows (.cons (.cons (Imm.con _) .nil) (.cons (.cons (Imm.con _) .nil) .nil))) rfl (Sub.agg (.cons (Sub.frzAll (rows := ([5, 6] : List Int).map encI_i64) rfl) (.cons Sub.keep .nil)))) (ghost_tell 5 (V.agg [(V.lst 1 (([5, 6] : List Int).map encI_i64)), (V.lst 1 (([] : List Int).map encI_i64))]) rfl (Sub.agg (.cons Sub.keepI (.cons (Sub.nil _) .nil))))) (Flat.tup (by simp)) wants_none (evm_cons rfl (evm_cons rfl (evm_cons rfl evm_nil))) (.cons (Imm.agg (.cons (Imm.lst _ _) (.cons (Imm.lst _ _) .nil))) (.cons (Imm.con _) (.cons (Imm.con _) .nil))) (W17 F (TCalendar.mk ([5, 6] : List Int) ([] : List Int)) 0 14 y1 hx2) rfl ?_
  refine fo (rn 11 rfl ?_)
  refine spO 11 h rfl (fun hb3 h => ?_) (fun hb3 h => ?_)
  · refine rn 5 rfl ?_
    exact rt h rfl
  refine rn 5 rfl ?_
  exact rt h rfl
end Go.Proofs.Ytkciogeafbbggaa
