/- Part of the proof: HW3a. -/
import Derived.Test.YtkciogeafbbggaaNHM
import Derived.KernelRfl
namespace Go.Proofs.Ytkciogeafbbggaa
open Go Go.Pv
set_option linter.unusedVariables false
set_option maxRecDepth 100000
theorem W78 (F : Nat) (a1 : (List Int)) (a2 : Int) (r : Int) (h : M78 F a1 a2 = some r) : Pure Try.prog 78 [(V.lst 1 (a1.map encI_i64)), (iV a2)] (iV r) := by
  refine pin (fun r => (iV r)) r rfl Try.func78 rfl rfl rfl rfl rfl (fun w0 m0 => ?_)
  unfold M78 at h
  refine rn 8 rfl ?_
  refine ln rfl rfl ?_
  refine rn 2 rfl ?_
  refine jK h (fun _ : Unit => (⟨[], [], 0⟩ : St)) (fun k3 (_ : Unit) => k3 = some r) (fun k3 h => ?_) ?_
  · refine rn 1 rfl ?_
    refine lC (fun (p : Int) => (⟨[(0, (V.lst 1 (a1.map encI_i64))), (1, (iV a2)), (7, (V.lst 1 (a1.map encI_i64))), (8, (iV ((a1.length : Nat) : Int))), (9, (iV p))], [], 0⟩ : St)) (fun n (p : Int) => M78_L1 F a1 a2 k3 n p = some r) (fun p h => by simp [M78_L1] at h) F 0 h (g0 rfl rfl) (fun n n5 h => ?_)
    unfold M78_L1 at h
    refine rn 5 rfl ?_
    refine spC h rfl (fun hb6 h => ?_) (fun hb6 h => ?_)
    · refine rn 6 rfl ?_
      refine ixl h rfl rfl (fun x7 hx8 h => ?_)
      refine rn 10 rfl ?_
      refine spO 17 h rfl (fun hb9 h => ?_) (fun hb9 h => ?_)
      · refine rn 11 rfl ?_
        exact rt h rfl
      refine rn 6 rfl ?_
      refine jK h (fun _ : Unit => (⟨[(0, (V.lst 1 (a1.map encI_i64))), (1, (iV a2)), (7, (V.lst 1 (a1.map encI_i64))), (8, (iV ((a1.length : Nat) : Int))), (9, (iV n5)), (18, (iV x7)), (19, (iV a2)), (20, (bV (decide (x7 > a2))))], [], 0⟩ : St)) (fun k10 (_ : Unit) => k10 = some r) (fun k10 h => ?_) ?_
      · refine spC h rfl (fun hb11 h => ?_) (fun hb11 h => ?_)
        · refine rn 4 rfl ?_
          exact rt h rfl
        refine rn 5 rfl ?_
        refine spO 25 h rfl (fun hb12 h => ?_) (fun hb12 h => ?_)
        · refine rn 4 rfl ?_
          refine ixl h rfl rfl (fun x13 hx14 h => ?_)
          refine rn 5 rfl ?_
          refine spC h rfl (fun hb15 h => ?_) (fun hb15 h => ?_)
          · refine rn 4 rfl ?_
            exact rt h rfl
          refine rn 1 rfl ?_
          exact jX () h (g0 rfl rfl)
        refine rn 12 rfl ?_
        exact jX () h (g0 rfl rfl)
      intro _ h
      refine rn 6 rfl ?_
      exact jX (w64 (n5 + 1)) h (g0 rfl rfl)
    refine rn 1 rfl ?_
    exact jX () h (g0 rfl rfl)
  intro _ h
  refine rn 4 rfl ?_
  exact rt h rfl
theorem W21 (F : Nat) (a1 : TCalendar) (r : Int) (h : M21 F a1 = some r) : Pure Try.prog 21 [(V.agg (encTCalendar a1))] (iV r) := by
  refine pin (fun r => (iV r)) r rfl Try.func21 rfl rfl rfl rfl rfl (fun w0 m0 => ?_)
  unfold M21 at h
  refine rn 10 rfl ?_
  refine ln rfl rfl ?_
  refine rn 2 rfl ?_
  refine spO 8 h rfl (fun hb2 h => ?_) (fun hb2 h => ?_)
  · refine rn 11 rfl ?_
    exact rt h rfl
  refine rn 2 rfl ?_
  refine ln rfl rfl ?_
  refine rn 3 rfl ?_
  refine spC h rfl (fun hb3 h => ?_) (fun hb3 h => ?_)
  · refine rn 4 rfl ?_
    exact rt h rfl
  refine rn 6 rfl ?_
  refine cl h rfl rfl rfl (W78 _ _ _) rfl (fun y4 hx5 h => ?_)
  refine rn 7 rfl ?_
  refine spC h rfl (fun hb6 h => ?_) (fun hb6 h => ?_)
  · refine rn 5 rfl ?_
    exact rt h rfl
  refine rn 5 rfl ?_
  refine cl h rfl rfl rfl (W78 _ _ _) rfl (fun y7 hx8 h => ?_)
  refine rn 2 rfl ?_
  exact rt h rfl
theorem W69 (F : Nat) (a1 : Int) (r : Bool) (h : M69 F a1 = some r) : Pure Try.prog 69 [(iV a1)] (bV r) := by
  refine pin (fun r => (bV r)) r rfl Try.func69 rfl rfl rfl rfl rfl (fun w0 m0 => ?_)
  unfold M69 at h
  refine rn 9 rfl ?_
  refine spO 5 h rfl (fun hb2 h => ?_) (fun hb2 h => ?_)
  · refine rn 5 rfl ?_
    exact rt h rfl
  refine rn 5 rfl ?_
  exact rt h rfl
theorem W70 (F : Nat) (a1 : TCalendar) (r : Thistory_week) (h : M70 F a1 = some r) : Pure Try.prog 70 [(V.agg (encTCalendar a1))] (V.agg [(bV (r.free 0)), (bV (r.free 1)), (bV (r.free 2)), (bV (r.free 3)), (bV (r.free 4)), (bV (r.free 5)), (bV (r.free 6)), (iV r.work), (V.lst 1 (r.holidays.map encI_i64))]) := by
  refine pin (fun r => (V.agg [(bV (r.free 0)), (bV (r.free 1)), (bV (r.free 2)), (bV (r.free 3)), (bV (r.free 4)), (bV (r.free 5)), (bV (r.free 6)), (iV r.work), (V.lst 1 (r.holidays.map encI_i64))])) r rfl Try.func70 rfl rfl rfl rfl rfl (fun w0 m0 => ?_)
  unfold M70 at h
  refine rn 9 rfl ?_
  refine ln rfl rfl ?_
  refine rn 10 rfl ?_
  refine ln rfl rfl ?_
  refine rn 2 rfl ?_
  refine jK h (fun (p : (Nat → Bool)) => (⟨[(1, (V.ptr 0 2 0 0)), (2, (V.ptr 1 9 0 0)), (3, (V.ptr 2 9 0 0))], [(0, (Ob.arr 24 2 [(encTCalendar a1)])), (1, (Ob.arr 101 9 [[(bV false), (bV false), (bV false), (bV false), (bV false), (bV false), (bV false), (iV 0), nV]])), (2, (Ob.arr 101 9 [[(bV (p 0)), (bV (p 1)), (bV (p 2)), (bV (p 3)), (bV (p 4)), (bV (p 5)), (bV (p 6)), (iV (w64 (7 - ((a1.Free.length : Nat) : Int)))), nV]]))], 3⟩ : St)) (fun k2 (p : (Nat → Bool)) => k2 p = some r) (fun k2 h => ?_) ?_
  · refine rn 1 rfl ?_
    refine lC (fun (p : Int × (Nat → Bool)) => (⟨[(1, (V.ptr 0 2 0 0)), (2, (V.ptr 1 9 0 0)), (3, (V.ptr 2 9 0 0)), (14, (V.lst 1 (a1.Free.map encI_i64))), (15, (iV ((a1.Free.length : Nat) : Int))), (16, (iV (p.1)))], [(0, (Ob.arr 24 2 [(encTCalendar a1)])), (1, (Ob.arr 101 9 [[(bV false), (bV false), (bV false), (bV false), (bV false), (bV false), (bV false), (iV 0), nV]])), (2, (Ob.arr 101 9 [[(bV ((p.2) 0)), (bV ((p.2) 1)), (bV ((p.2) 2)), (bV ((p.2) 3)), (bV ((p.2) 4)), (bV ((p.2) 5)), (bV ((p.2) 6)), (iV (w64 (7 - ((a1.Free.length : Nat) : Int)))), nV]]))], 3⟩ : St)) (fun n (p : Int × (Nat → Bool)) => M70_L1 F a1 k2 n p.1 p.2 = some r) (fun p h => by simp [M70_L1] at h) F (0, (fun _ => false)) h (gr [0, 1, 2] rfl (hB rfl rfl rfl (hB rfl rfl rfl (hB rfl rfl rfl .nil))) rfl) (fun n p h => ?_)
    obtain ⟨n6, f7⟩ := p
    unfold M70_L1 at h
    refine rn 5 rfl ?_
    refine spC h rfl (fun hb8 h => ?_) (fun hb8 h => ?_)
    · refine rn 5 rfl ?_
      refine ixl h rfl rfl (fun x9 hx10 h => ?_)
      refine rn 6 rfl ?_
      refine ck h (fun hc11 h => ?_)
      refine aops_index_arr tArr99 wants_none rfl rfl hc11.1 hc11.2 rfl ?_
      refine aops_store [(bV true)] [[(bV ((upd f7 x9.toNat true) 0)), (bV ((upd f7 x9.toNat true) 1)), (bV ((upd f7 x9.toNat true) 2)), (bV ((upd f7 x9.toNat true) 3)), (bV ((upd f7 x9.toNat true) 4)), (bV ((upd f7 x9.toNat true) 5)), (bV ((upd f7 x9.toNat true) 6)), (iV (w64 (7 - ((a1.Free.length : Nat) : Int)))), nV]] tS4 wants_none rfl rfl rfl rfl rfl rfl (arr_ble hc11.2 (by simp)) (congrArg (fun r => [r]) (arr_set [] [(iV (w64 (7 - ((a1.Free.length : Nat) : Int)))), nV] (fun x => (bV x)) f7 true hc11.2 rfl (by simp))) ?_
      refine fo (rn 6 rfl ?_)
      exact jX ((w64 (n6 + 1)), (upd f7 x9.toNat true)) h (gr [0, 1, 2] rfl (hB rfl rfl rfl (hB rfl rfl rfl (hB rfl rfl rfl .nil))) rfl)
    refine rn 1 rfl ?_
    exact jX f7 h (gr [0, 1, 2] rfl (hB rfl rfl rfl (hB rfl rfl rfl (hB rfl rfl rfl .nil))) rfl)
  intro f3 h
  refine rn 5 rfl ?_
  refine ln rfl rfl ?_
  refine rn 2 rfl ?_
  refine jK h (fun (p : (List Int)) => (⟨[(2, (V.ptr 0 9 0 0)), (3, (V.ptr 1 9 0 0))], [(0, (Ob.arr 101 9 [[(bV false), (bV false), (bV false), (bV false), (bV false), (bV false), (bV false), (iV 0), nV]])), (1, (Ob.arr 101 9 [[(bV (f3 0)), (bV (f3 1)), (bV (f3 2)), (bV (f3 3)), (bV (f3 4)), (bV (f3 5)), (bV (f3 6)), (iV (w64 (7 - ((a1.Free.length : Nat) : Int)))), (V.own 2 p.length)]])), (2, (Ob.arr 3 1 (p.map encI_i64)))], 3⟩ : St)) (fun k12 (p : (List Int)) => k12 p = some r) (fun k12 h => ?_) ?_
  · refine rn 1 rfl ?_
    refine lC (fun (p : Int × (List Int)) => (⟨[(2, (V.ptr 0 9 0 0)), (3, (V.ptr 1 9 0 0)), (25, (V.lst 1 (a1.Holidays.map encI_i64))), (26, (iV ((a1.Holidays.length : Nat) : Int))), (27, (iV (p.1)))], [(0, (Ob.arr 101 9 [[(bV false), (bV false), (bV false), (bV false), (bV false), (bV false), (bV false), (iV 0), nV]])), (1, (Ob.arr 101 9 [[(bV (f3 0)), (bV (f3 1)), (bV (f3 2)), (bV (f3 3)), (bV (f3 4)), (bV (f3 5)), (bV (f3 6)), (iV (w64 (7 - ((a1.Free.length : Nat) : Int)))), (V.own 2 (p.2).length)]])), (2, (Ob.arr 3 1 ((p.2).map encI_i64)))], 3⟩ : St)) (fun n (p : Int × (List Int)) => M70_L2 F a1 f3 k12 n p.1 p.2 = some r) (fun p h => by simp [M70_L2] at h) F (0, ([] : List Int)) h (Ghost.trans (ghost_nilC 2 3 1 (Ob.arr 101 9 [[(bV (f3 0)), (bV (f3 1)), (bV (f3 2)), (bV (f3 3)), (bV (f3 4)), (bV (f3 5)), (bV (f3 6)), (iV (w64 (7 - ((a1.Free.length : Nat) : Int)))), (V.own 3 0)]]) (ObSub.box (.cons Sub.keepNil (.cons Sub.keepNil (.cons Sub.keepNil (.cons Sub.keepNil (.cons Sub.keepNil (.cons Sub.keepNil (.cons Sub.keepNil (.cons Sub.keepNil (.cons Sub.mkNil .nil))))))))))) (ghost_ren 3 (fun i => ([1, 2, 3] : List Nat).getD i 0) _ _ (by decide) (EnvSub.get (.cons (Sub.ptr rfl rfl) (.cons (Sub.ptr rfl rfl) (.cons (Sub.imm (Imm.lst _ _)) (.cons (Sub.imm (Imm.con _)) (.cons (Sub.imm (Imm.con _)) .nil)))))) (HpSub.get (.cons rfl (ObSub.box (.cons (Sub.imm (Imm.con _)) (.cons (Sub.imm (Imm.con _)) (.cons (Sub.imm (Imm.con _)) (.cons (Sub.imm (Imm.con _)) (.cons (Sub.imm (Imm.con _)) (.cons (Sub.imm (Imm.con _)) (.cons (Sub.imm (Imm.con _)) (.cons (Sub.imm (Imm.con _)) (.cons (Sub.imm (Imm.con _)) .nil)))))))))) (.cons rfl (ObSub.box (.cons (Sub.imm (Imm.con _)) (.cons (Sub.imm (Imm.con _)) (.cons (Sub.imm (Imm.con _)) (.cons (Sub.imm (Imm.con _)) (.cons (Sub.imm (Imm.con _)) (.cons (Sub.imm (Imm.con _)) (.cons (Sub.imm (Imm.con _)) (.cons (Sub.imm (Imm.con _)) (.cons (Sub.ownE rfl rfl (by simp)) .nil)))))))))) (.cons rfl (ObSub.rows (rows_imm imms_encI_i64)) .nil)))) rfl)) (fun n p h => ?_)
    obtain ⟨n16, l17⟩ := p
    unfold M70_L2 at h
    refine rn 5 rfl ?_
    refine spC h rfl (fun hb18 h => ?_) (fun hb18 h => ?_)
    · refine rn 5 rfl ?_
      refine ixl h rfl rfl (fun x19 hx20 h => ?_)
      refine rn 8 rfl ?_
      refine ck h (fun hc21 h => ?_)
      refine aops_index_arr tArr99 wants_none rfl rfl hc21.1 hc21.2 rfl ?_
      refine aops_load_cell (bV (f3 (Int.tmod x19 7).toNat)) tC4 wants_none rfl rfl rfl (arr_get [] [(iV (w64 (7 - ((a1.Free.length : Nat) : Int)))), (V.own 2 l17.length)] (fun i => (bV (f3 i))) hc21.2 rfl (by simp)) rfl ?_
      refine fo (rn 2 rfl ?_)
      refine jK h (fun (p : (List Int)) => (⟨[(2, (V.ptr 0 9 0 0)), (3, (V.ptr 1 9 0 0)), (25, (V.lst 1 (a1.Holidays.map encI_i64))), (26, (iV ((a1.Holidays.length : Nat) : Int))), (27, (iV n16))], [(0, (Ob.arr 101 9 [[(bV false), (bV false), (bV false), (bV false), (bV false), (bV false), (bV false), (iV 0), nV]])), (1, (Ob.arr 101 9 [[(bV (f3 0)), (bV (f3 1)), (bV (f3 2)), (bV (f3 3)), (bV (f3 4)), (bV (f3 5)), (bV (f3 6)), (iV (w64 (7 - ((a1.Free.length : Nat) : Int)))), (V.own 2 p.length)]])), (2, (Ob.arr 3 1 (p.map encI_i64)))], 3⟩ : St)) (fun k22 (p : (List Int)) => k22 p = some r) (fun k22 h => ?_) ?_
      · refine spC h rfl (fun hb24 h => ?_) (fun hb24 h => ?_)
        · refine rn 4 rfl ?_
          refine aops_buildSlice [(0, (iV x19))] [[(iV x19)]] tEl22 tZ3 rfl rfl rfl rfl wants_none (evp_cons rfl evp_nil) rfl rfl (by simp) rfl ?_
          refine fo ?_
          refine apO encI_i64 h rfl rfl rfl rfl rfl rfl rfl rfl (fun h => ?_)
          refine rn 3 rfl ?_
          exact jX (l17 ++ ([x19] : List Int)) h (gr [0, 1, 4] rfl (hB rfl rfl rfl (hB rfl rfl rfl (hR rfl rfl .nil))) rfl)
        refine rn 1 rfl ?_
        exact jX l17 h (gr [0, 1, 2] rfl (hB rfl rfl rfl (hB rfl rfl rfl (hR rfl rfl .nil))) rfl)
      intro l23 h
      refine rn 5 rfl ?_
      exact jX ((w64 (n16 + 1)), l23) h (gr [0, 1, 2] rfl (hB rfl rfl rfl (hB rfl rfl rfl (hR rfl rfl .nil))) rfl)
    refine rn 1 rfl ?_
    exact jX l17 h (gr [0, 1, 2] rfl (hB rfl rfl rfl (hB rfl rfl rfl (hR rfl rfl .nil))) rfl)
  intro l13 h
  refine rn 5 rfl ?_
  refine awp_ghost (ghost_frzC 2 0 (Ob.arr 101 9 [[(bV (f3 0)), (bV (f3 1)), (bV (f3 2)), (bV (f3 3)), (bV (f3 4)), (bV (f3 5)), (bV (f3 6)), (iV (w64 (7 - ((a1.Free.length : Nat) : Int)))), (V.lst 1 (l13.map encI_i64))]]) rfl (rows_imm imms_encI_i64) (ObSub.box (.cons Sub.keep (.cons Sub.keep (.cons Sub.keep (.cons Sub.keep (.cons Sub.keep (.cons Sub.keep (.cons Sub.keep (.cons Sub.keep (.cons (Sub.frzAll (rows := l13.map encI_i64) (List.length_map ..).symm) .nil))))))))))) ?_
  refine fa ?_
  exact rt h rfl
theorem W140 (F : Nat) (a1 : Int) (r : Bool) (h : M140 F a1 = some r) : Pure Try.prog 140 [(iV a1)] (bV r) := by
  refine pin (fun r => (bV r)) r rfl Try.func140 rfl rfl rfl rfl rfl (fun w0 m0 => ?_)
  unfold M140 at h
  refine rn 11 rfl ?_
  exact rt h rfl
theorem W108 (F : Nat) (a1 : Int) (a2 : Int) (r : Bool) (h : M108 F a1 a2 = some r) : Pure Try.prog 108 [(iV a1), (iV a2)] (bV r) := by
  refine pin (fun r => (bV r)) r rfl Try.func108 rfl rfl rfl rfl rfl (fun w0 m0 => ?_)
  unfold M108 at h
  refine rn 7 rfl ?_
  refine cl h rfl rfl rfl (W140 _ _) rfl (fun y3 hx4 h => ?_)
  refine rn 1 rfl ?_
  refine spO 7 h rfl (fun hb5 h => ?_) (fun hb5 h => ?_)
  · refine rn 1 rfl ?_
    refine cl h rfl rfl rfl (W140 _ _) rfl (fun y6 hx7 h => ?_)
    refine rn 3 rfl ?_
    refine spO 12 h rfl (fun hb8 h => ?_) (fun hb8 h => ?_)
    · refine rn 6 rfl ?_
      exact rt h rfl
    refine rn 6 rfl ?_
    exact rt h rfl
  refine rn 11 rfl ?_
  exact rt h rfl
theorem W109 (F : Nat) (a1 : Int) (r : Bool) (h : M109 F a1 = some r) : Pure Try.prog 109 [(iV a1)] (bV r) := by
  refine pin (fun r => (bV r)) r rfl Try.func109 rfl rfl rfl rfl rfl (fun w0 m0 => ?_)
  unfold M109 at h
  refine rn 11 rfl ?_
  exact rt h rfl
theorem W53 (F : Nat) (a1 : (List Int)) (a2 : Int) (r : (Int × Bool)) (h : M53 F a1 a2 = some r) : Pure Try.prog 53 [(V.lst 1 (a1.map encI_i64)), (iV a2)] (V.tup [(iV (r.1)), (bV (r.2))]) := by
  refine pin (fun r => (V.tup [(iV (r.1)), (bV (r.2))])) r rfl Try.func53 rfl rfl rfl rfl rfl (fun w0 m0 => ?_)
  unfold M53 at h
  refine rn 8 rfl ?_
  refine ln rfl rfl ?_
  refine rn 9 rfl ?_
  refine jK h (fun (p : Int) => (⟨[(0, (V.lst 1 (a1.map encI_i64))), (1, (iV a2)), (6, (iV ((a1.length : Nat) : Int))), (7, (iV p))], [], 0⟩ : St)) (fun k3 (p : Int) => k3 p = some r) (fun k3 h => ?_) ?_
  · refine rn 1 rfl ?_
    refine lC (fun (p : Int × Int) => (⟨[(0, (V.lst 1 (a1.map encI_i64))), (1, (iV a2)), (6, (iV ((a1.length : Nat) : Int))), (7, (iV (p.1))), (8, (iV (p.2)))], [], 0⟩ : St)) (fun n (p : Int × Int) => M53_L1 F a1 a2 k3 n p.1 p.2 = some r) (fun p h => by simp [M53_L1] at h) F (0, ((a1.length : Nat) : Int)) h (g0 rfl rfl) (fun n p h => ?_)
    obtain ⟨n7, n8⟩ := p
    unfold M53_L1 at h
    refine rn 7 rfl ?_
    refine spC h rfl (fun hb9 h => ?_) (fun hb9 h => ?_)
    · refine rn 16 rfl ?_
      refine ixl h rfl rfl (fun x10 hx11 h => ?_)
      refine rn 2 rfl ?_
      refine cl h rfl rfl rfl (W108 _ _ _) rfl (fun y12 hx13 h => ?_)
      refine rn 1 rfl ?_
      refine jK h (fun (p : Int × Int) => (⟨[(0, (V.lst 1 (a1.map encI_i64))), (1, (iV a2)), (6, (iV ((a1.length : Nat) : Int))), (7, (iV (p.1))), (8, (iV (p.2)))], [], 0⟩ : St)) (fun k14 (p : Int × Int) => k14 p.1 p.2 = some r) (fun k14 h => ?_) ?_
      · refine spC h rfl (fun hb17 h => ?_) (fun hb17 h => ?_)
        · refine rn 5 rfl ?_
          exact jX ((w64 ((w64 (Int.fdiv (IntKind.wrap .u64 (w64 (n7 + n8))) (2 ^ (min (Int.toNat 1) (IntKind.bits .u64))))) + 1)), n8) h (g0 rfl rfl)
        refine rn 4 rfl ?_
        exact jX (n7, (w64 (Int.fdiv (IntKind.wrap .u64 (w64 (n7 + n8))) (2 ^ (min (Int.toNat 1) (IntKind.bits .u64)))))) h (g0 rfl rfl)
      rintro ⟨n15, n16⟩ h
      refine rn 1 rfl ?_
      exact jX (n15, n16) h (g0 rfl rfl)
    refine rn 1 rfl ?_
    exact jX n7 h (g0 rfl rfl)
  intro n4 h
  refine rn 7 rfl ?_
  refine spO 35 h rfl (fun hb18 h => ?_) (fun hb18 h => ?_)
  · refine rn 2 rfl ?_
    refine ixl h rfl rfl (fun x19 hx20 h => ?_)
    refine rn 4 rfl ?_
    refine spO 42 h rfl (fun hb21 h => ?_) (fun hb21 h => ?_)
    · refine rn 14 rfl ?_
      exact rt h rfl
    refine rn 2 rfl ?_
    refine ixl h rfl rfl (fun x22 hx23 h => ?_)
    refine rn 1 rfl ?_
    refine cl h rfl rfl rfl (W109 _ _) rfl (fun y24 hx25 h => ?_)
    refine rn 1 rfl ?_
    refine spO 48 h rfl (fun hb26 h => ?_) (fun hb26 h => ?_)
    · refine rn 1 rfl ?_
      refine cl h rfl rfl rfl (W109 _ _) rfl (fun y27 hx28 h => ?_)
      refine rn 6 rfl ?_
      exact rt h rfl
    refine rn 8 rfl ?_
    exact rt h rfl
  refine rn 21 rfl ?_
  exact rt h rfl
theorem W71 (F : Nat) (a1 : Thistory_week) (a2 : Int) (r : Int) (h : M71 F a1 a2 = some r) : Pure Try.prog 71 [(V.agg [(bV (a1.free 0)), (bV (a1.free 1)), (bV (a1.free 2)), (bV (a1.free 3)), (bV (a1.free 4)), (bV (a1.free 5)), (bV (a1.free 6)), (iV a1.work), (V.lst 1 (a1.holidays.map encI_i64))]), (iV a2)] (iV r) := by
  refine pin (fun r => (iV r)) r rfl Try.func71 rfl rfl rfl rfl rfl (fun w0 m0 => ?_)
  unfold M71 at h
  refine rn 21 rfl ?_
  refine jK h (fun (p : Int) => (⟨[(1, (iV a2)), (2, (V.ptr 0 9 0 0)), (5, (iV p))], [(0, (Ob.arr 101 9 [[(bV (a1.free 0)), (bV (a1.free 1)), (bV (a1.free 2)), (bV (a1.free 3)), (bV (a1.free 4)), (bV (a1.free 5)), (bV (a1.free 6)), (iV a1.work), (V.lst 1 (a1.holidays.map encI_i64))]]))], 1⟩ : St)) (fun k3 (p : Int) => k3 p = some r) (fun k3 h => ?_) ?_
  · refine rn 1 rfl ?_
    refine lC (fun (p : Int × Int) => (⟨[(1, (iV a2)), (2, (V.ptr 0 9 0 0)), (5, (iV (p.1))), (15, (iV (Int.tmod a2 7))), (16, (iV (p.2)))], [(0, (Ob.arr 101 9 [[(bV (a1.free 0)), (bV (a1.free 1)), (bV (a1.free 2)), (bV (a1.free 3)), (bV (a1.free 4)), (bV (a1.free 5)), (bV (a1.free 6)), (iV a1.work), (V.lst 1 (a1.holidays.map encI_i64))]]))], 1⟩ : St)) (fun n (p : Int × Int) => M71_L1 F a1 a2 k3 n p.1 p.2 = some r) (fun p h => by simp [M71_L1] at h) F ((w64 ((w64 (Int.tdiv a2 7)) * a1.work)), 0) h (gr [0] rfl (hB rfl rfl rfl .nil) rfl) (fun n p h => ?_)
    obtain ⟨n7, n8⟩ := p
    unfold M71_L1 at h
    refine rn 5 rfl ?_
    refine spC h rfl (fun hb9 h => ?_) (fun hb9 h => ?_)
    · refine rn 12 rfl ?_
      refine ck h (fun hc10 h => ?_)
      refine aops_index_arr tArr99 wants_none rfl rfl hc10.1 hc10.2 rfl ?_
      refine aops_load_cell (bV (a1.free n8.toNat)) tC4 wants_none rfl rfl rfl (arr_get [] [(iV a1.work), (V.lst 1 (a1.holidays.map encI_i64))] (fun i => (bV (a1.free i))) hc10.2 rfl (by simp)) rfl ?_
      refine fo (rn 2 rfl ?_)
      refine jK h (fun (p : Int) => (⟨[(1, (iV a2)), (2, (V.ptr 0 9 0 0)), (5, (iV p)), (15, (iV (Int.tmod a2 7))), (16, (iV n8))], [(0, (Ob.arr 101 9 [[(bV (a1.free 0)), (bV (a1.free 1)), (bV (a1.free 2)), (bV (a1.free 3)), (bV (a1.free 4)), (bV (a1.free 5)), (bV (a1.free 6)), (iV a1.work), (V.lst 1 (a1.holidays.map encI_i64))]]))], 1⟩ : St)) (fun k11 (p : Int) => k11 p = some r) (fun k11 h => ?_) ?_
      · refine spC h rfl (fun hb13 h => ?_) (fun hb13 h => ?_)
        · refine rn 5 rfl ?_
          exact jX (w64 (n7 + 1)) h (gr [0] rfl (hB rfl rfl rfl .nil) rfl)
        refine rn 1 rfl ?_
        exact jX n7 h (gr [0] rfl (hB rfl rfl rfl .nil) rfl)
      intro n12 h
      refine rn 5 rfl ?_
      exact jX (n12, (w64 (n8 + 1))) h (gr [0] rfl (hB rfl rfl rfl .nil) rfl)
    refine rn 1 rfl ?_
    exact jX n7 h (gr [0] rfl (hB rfl rfl rfl .nil) rfl)
  intro n4 h
  refine rn 5 rfl ?_
  refine cl h rfl rfl rfl (W53 _ _ _) rfl (fun y14 hx15 h => ?_)
  refine rn 13 rfl ?_
  exact rt h rfl
theorem W72 (F : Nat) (a1 : Int) (r : Bool) (h : M72 F a1 = some r) : Pure Try.prog 72 [(iV a1)] (bV r) := by
  refine pin (fun r => (bV r)) r rfl Try.func72 rfl rfl rfl rfl rfl (fun w0 m0 => ?_)
  unfold M72 at h
  refine rn 9 rfl ?_
  refine spO 5 h rfl (fun hb2 h => ?_) (fun hb2 h => ?_)
  · refine rn 5 rfl ?_
    exact rt h rfl
  refine rn 5 rfl ?_
  exact rt h rfl
theorem W17 (F : Nat) (a1 : TCalendar) (a2 : Int) (a3 : Int) (r : (Int × Int)) (h : M17 F a1 a2 a3 = some r) : Pure Try.prog 17 [(V.agg (encTCalendar a1)), (iV a2), (iV a3)] (V.tup [(iV (r.1)), (iV (r.2))]) := by
  refine pin (fun r => (V.tup [(iV (r.1)), (iV (r.2))])) r rfl Try.func17 rfl rfl rfl rfl rfl (fun w0 m0 => ?_)
  unfold M17 at h
  refine rn 10 rfl ?_
  refine cl h rfl rfl rfl (W21 _ _) rfl (fun y4 hx5 h => ?_)
  refine rn 7 rfl ?_
  refine spC h rfl (fun hb6 h => ?_) (fun hb6 h => ?_)
  · refine rn 6 rfl ?_
    exact rt h rfl
  refine rn 5 rfl ?_
  refine cl h rfl rfl rfl (W69 _ _) rfl (fun y7 hx8 h => ?_)
  refine rn 2 rfl ?_
  refine spO 18 h rfl (fun hb9 h => ?_) (fun hb9 h => ?_)
  · refine rn 16 rfl ?_
    exact rt h rfl
  refine rn 1 rfl ?_
  refine cl h rfl rfl rfl (W69 _ _) rfl (fun y10 hx11 h => ?_)
  refine rn 3 rfl ?_
  refine spO 23 h rfl (fun hb12 h => ?_) (fun hb12 h => ?_)
  · refine rn 11 rfl ?_
    exact rt h rfl
  refine rn 5 rfl ?_
  refine spC h rfl (fun hb13 h => ?_) (fun hb13 h => ?_)
  · refine rn 5 rfl ?_
    exact rt h rfl
  refine rn 4 rfl ?_
  refine cl h rfl rfl rfl (W70 _ _) rfl (fun y14 hx15 h => ?_)
  obtain ⟨y16, hx17, h⟩ := bind_some h
  obtain ⟨y18, hx19, h⟩ := bind_some h
  refine rn 4 rfl ?_
  refine dr mixed (vs 2 rfl (cD rfl rfl rfl rfl (W71 _ _ _ _ hx17) rfl (vs 2 rfl (cD rfl rfl rfl rfl (W71 _ _ _ _ hx19) rfl (vs 3 rfl .nil))))) (by kernel_rfl) ?_
  exact rt h rfl
theorem W23 (F : Nat) (r : Bool) (h : M23 F  = some r) : Pure Try.prog 23 [] (bV r) := by
  refine pin (fun r => (bV r)) r rfl Try.func23 rfl rfl rfl rfl rfl (fun w0 m0 => ?_)
  unfold M23 at h
  refine rn 6 rfl ?_
  refine aops_buildSlice [(0, (iV 5)), (1, (iV 6))] [[(iV 5)], [(iV 6)]] tEl22 tZ3 rfl rfl rfl rfl wants_none (evp_cons rfl (evp_cons rfl evp_nil)) rfl rfl (by simp) rfl ?_
  obtain ⟨y1, hx2, h⟩ := bind_some h
  refine fo (rn 1 rfl ?_)
  refine aops_lend_call (V.tup [(iV (y1.1)), (iV (y1.2))]) [(V.agg [(V.lst 1 (([5, 6] : List Int).map encI_i64)), (V.lst 1 (([] : List Int).map encI_i64))]), (iV 0), (iV 14)] fOk17 (Ghost.trans (ghost_frzV 0 5 (V.agg [(V.lst 1 (([5, 6] : List Int).map encI_i64)), nV]) rfl (imms_rows (.cons (.cons (Imm.con _) .nil) (.cons (.cons (Imm.con _) .nil) .nil))) rfl (Sub.agg (.cons (Sub.frzAll (rows := ([5, 6] : List Int).map encI_i64) rfl) (.cons Sub.keep .nil)))) (ghost_tell 5 (V.agg [(V.lst 1 (([5, 6] : List Int).map encI_i64)), (V.lst 1 (([] : List Int).map encI_i64))]) rfl (Sub.agg (.cons Sub.keepI (.cons (Sub.nil _) .nil))))) (Flat.tup (by simp)) wants_none (evm_cons rfl (evm_cons rfl (evm_cons rfl evm_nil))) (.cons (Imm.agg (.cons (Imm.lst _ _) (.cons (Imm.lst _ _) .nil))) (.cons (Imm.con _) (.cons (Imm.con _) .nil))) (W17 F (TCalendar.mk ([5, 6] : List Int) ([] : List Int)) 0 14 y1 hx2) rfl ?_
  refine fo (rn 11 rfl ?_)
  refine spO 11 h rfl (fun hb3 h => ?_) (fun hb3 h => ?_)
  · refine rn 5 rfl ?_
    exact rt h rfl
  refine rn 5 rfl ?_
  exact rt h rfl
end Go.Proofs.Ytkciogeafbbggaa
