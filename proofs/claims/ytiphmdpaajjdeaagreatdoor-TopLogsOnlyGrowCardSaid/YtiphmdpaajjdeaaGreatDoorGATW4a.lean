/- Part of the proof: ATW4a. -/
import Derived.Test.YtiphmdpaajjdeaaGreatDoorGATM
import Derived.Test.YtiphmdpaajjdeaaGreatDoorGATRep
import Derived.Test.YtiphmdpaajjdeaaGreatDoorGKE
import Derived.KernelRfl
namespace Go.Proofs.YtiphmdpaajjdeaaGreatDoor
open Go Go.Pv
set_option linter.unusedVariables false
set_option maxRecDepth 100000
theorem W14 (F : Nat) (r : Unit) (h : M14 F  = some r) : MutG gl Tryz.prog 14 [] 0 [] (resV [(V.ptr 0 1 0 0)]) 1 [(0, (Ob.arr 95 1 [[nV]]))] := by
  refine mut_enter Tryz.func14 rfl rfl (l := [.tmp 0]) rfl rfl [] rfl (fun w0 m0 β0 hg => en ?_)
  unfold M14 at h
  refine rn 10 rfl ?_
  replace h := Option.some.inj h
  subst h
  exact wR ⟨.inl rfl, [(0, (V.ptr 0 1 0 0))], (gr [0] rfl (hB rfl rfl rfl .nil) rfl), (.cons (.tmp rfl) .nil)⟩
theorem W113 (F : Nat) (a1 : Int) (r : (List UInt8)) (h : M113 F a1 = some r) : PureG gl Tryz.prog 113 [(iV a1)] (sV r) := by
  refine pin (fun r => (sV r)) r rfl Tryz.func113 rfl rfl rfl rfl rfl (fun w0 m0 hg => ?_)
  unfold M113 at h
  refine rn 10 rfl ?_
  refine spC h rfl (fun hb2 h => ?_) (fun hb2 h => ?_)
  · refine rn 5 rfl ?_
    refine ck h (fun hc3 h => ?_)
    refine aops_sliceT (a1.toNat) ((w64 (a1 + 1)).toNat) ((([48, 49, 50, 51, 52, 53, 54, 55, 56, 57, 97, 98, 99, 100, 101, 102, 103, 104, 105, 106, 107, 108, 109, 110, 111, 112, 113, 114, 115, 116, 117, 118, 119, 120, 121, 122] : List UInt8).drop a1.toNat).take ((w64 (a1 + 1)).toNat - a1.toNat)) tStr9 wants_none rfl ⟨_, (by rw [Int.toNat_of_nonneg hc3.1]; exact rfl)⟩ ⟨_, (by rw [Int.toNat_of_nonneg hc3.2.1]; exact rfl)⟩ hc3.2.2.1 hc3.2.2.2 rfl rfl ?_
    refine fo (rn 2 rfl ?_)
    exact rt h rfl
  refine rn 8 rfl ?_
  refine ck h (fun hc4 h => ?_)
  refine aops_sliceT ((w64 (a1 * 2)).toNat) ((w64 ((w64 (a1 * 2)) + 2)).toNat) ((([48, 48, 48, 49, 48, 50, 48, 51, 48, 52, 48, 53, 48, 54, 48, 55, 48, 56, 48, 57, 49, 48, 49, 49, 49, 50, 49, 51, 49, 52, 49, 53, 49, 54, 49, 55, 49, 56, 49, 57, 50, 48, 50, 49, 50, 50, 50, 51, 50, 52, 50, 53, 50, 54, 50, 55, 50, 56, 50, 57, 51, 48, 51, 49, 51, 50, 51, 51, 51, 52, 51, 53, 51, 54, 51, 55, 51, 56, 51, 57, 52, 48, 52, 49, 52, 50, 52, 51, 52, 52, 52, 53, 52, 54, 52, 55, 52, 56, 52, 57, 53, 48, 53, 49, 53, 50, 53, 51, 53, 52, 53, 53, 53, 54, 53, 55, 53, 56, 53, 57, 54, 48, 54, 49, 54, 50, 54, 51, 54, 52, 54, 53, 54, 54, 54, 55, 54, 56, 54, 57, 55, 48, 55, 49, 55, 50, 55, 51, 55, 52, 55, 53, 55, 54, 55, 55, 55, 56, 55, 57, 56, 48, 56, 49, 56, 50, 56, 51, 56, 52, 56, 53, 56, 54, 56, 55, 56, 56, 56, 57, 57, 48, 57, 49, 57, 50, 57, 51, 57, 52, 57, 53, 57, 54, 57, 55, 57, 56, 57, 57] : List UInt8).drop (w64 (a1 * 2)).toNat).take ((w64 ((w64 (a1 * 2)) + 2)).toNat - (w64 (a1 * 2)).toNat)) tStr9 wants_none rfl ⟨_, (by rw [Int.toNat_of_nonneg hc4.1]; exact rfl)⟩ ⟨_, (by rw [Int.toNat_of_nonneg hc4.2.1]; exact rfl)⟩ hc4.2.2.1 hc4.2.2.2 rfl rfl ?_
  refine fo (rn 2 rfl ?_)
  exact rt h rfl
theorem W133 (F : Nat) (a1 : Int) (r : Bool) (h : M133 F a1 = some r) : PureG gl Tryz.prog 133 [(iV a1)] (bV r) := by
  refine pin (fun r => (bV r)) r rfl Tryz.func133 rfl rfl rfl rfl rfl (fun w0 m0 hg => ?_)
  unfold M133 at h
  refine rn 13 rfl ?_
  exact rt h rfl
theorem W149 (F : Nat) (a1 : Int) (r : Int) (h : M149 F a1 = some r) : PureG gl Tryz.prog 149 [(V.con (.int .u64 a1))] (iV r) := by
  refine pin (fun r => (iV r)) r rfl Tryz.func149 rfl rfl rfl rfl rfl (fun w0 m0 hg => ?_)
  unfold M149 at h
  refine rn 10 rfl ?_
  refine spC h rfl (fun hb2 h => ?_) (fun hb2 h => ?_)
  · refine rn 4 rfl ?_
    exact rt h rfl
  refine rn 9 rfl ?_
  refine ck h (fun hc3 h => ?_)
  refine aops_index_iarr tArr244 wants_none rfl rfl hc3.1 hc3.2 rfl ?_
  refine aops_iload_cell (V.con (.int .u8 (tab3 (Int.fdiv (IntKind.wrap .u64 ((IntKind.wrap .u64 ((BitVec.ofInt (IntKind.bits .u64) a1 &&& BitVec.ofInt (IntKind.bits .u64) (IntKind.wrap .u64 (0 - a1))).toNat : Int)) * 285870213051353865)) (2 ^ (min (Int.toNat 58) (IntKind.bits .u64)))).toNat))) tC5 wants_none rfl (arr_get [] [] (fun i => (V.con (.int .u8 (tab3 i)))) hc3.2 rfl (by simp)) rfl ?_
  refine fo (rn 3 rfl ?_)
  exact rt h rfl
theorem W134 (F : Nat) (a1 : Int) (r : Int) (h : M134 F a1 = some r) : PureG gl Tryz.prog 134 [(V.con (.int .u64 a1))] (iV r) := by
  refine pin (fun r => (iV r)) r rfl Tryz.func134 rfl rfl rfl rfl rfl (fun w0 m0 hg => ?_)
  unfold M134 at h
  refine rn 10 rfl ?_
  refine cl h rfl rfl rfl (W149 _ _) rfl (fun y2 hx3 h => ?_)
  refine rn 2 rfl ?_
  exact rt h rfl
theorem W116 (F : Nat) (a1 : (List Int)) (a2 : Int) (a3 : Int) (a4 : Bool) (a5 : Bool) (r : ((List Int) × (List UInt8))) (h : M116 F a1 a2 a3 a4 a5 = some r) : PureG gl Tryz.prog 116 [(V.lst 1 (a1.map encI_u8)), (V.con (.int .u64 a2)), (iV a3), (bV a4), (bV a5)] (V.tup [(V.lst 1 ((r.1).map encI_u8)), (sV (r.2))]) := by
  refine pin (fun r => (V.tup [(V.lst 1 ((r.1).map encI_u8)), (sV (r.2))])) r rfl Tryz.func116 rfl rfl rfl rfl rfl (fun w0 m0 hg => ?_)
  unfold M116 at h
  refine rn 11 rfl ?_
  refine spO 21 h rfl (fun hb6 h => ?_) (fun hb6 h => ?_)
  · exact absurd h (by simp)
  refine rn 4 rfl ?_
  refine spO 25 h rfl (fun hb7 h => ?_) (fun hb7 h => ?_)
  · exact absurd h (by simp)
  refine rn 4 rfl ?_
  refine spC h rfl (fun hb8 h => ?_) (fun hb8 h => ?_)
  · exact absurd h (by simp)
  refine rn 14 rfl ?_
  refine jK h (fun (p : Int) => (⟨[(0, (V.lst 1 (a1.map encI_u8))), (1, (V.con (.int .u64 p))), (2, (iV a3)), (3, (bV a4)), (4, (bV a5)), (10, nV), (11, (sV ([] : List UInt8))), (12, (V.ptr 0 65 0 0)), (13, (iV 65))], [(0, (Ob.arr 204 65 [[(V.con (.int .u8 0)), (V.con (.int .u8 0)), (V.con (.int .u8 0)), (V.con (.int .u8 0)), (V.con (.int .u8 0)), (V.con (.int .u8 0)), (V.con (.int .u8 0)), (V.con (.int .u8 0)), (V.con (.int .u8 0)), (V.con (.int .u8 0)), (V.con (.int .u8 0)), (V.con (.int .u8 0)), (V.con (.int .u8 0)), (V.con (.int .u8 0)), (V.con (.int .u8 0)), (V.con (.int .u8 0)), (V.con (.int .u8 0)), (V.con (.int .u8 0)), (V.con (.int .u8 0)), (V.con (.int .u8 0)), (V.con (.int .u8 0)), (V.con (.int .u8 0)), (V.con (.int .u8 0)), (V.con (.int .u8 0)), (V.con (.int .u8 0)), (V.con (.int .u8 0)), (V.con (.int .u8 0)), (V.con (.int .u8 0)), (V.con (.int .u8 0)), (V.con (.int .u8 0)), (V.con (.int .u8 0)), (V.con (.int .u8 0)), (V.con (.int .u8 0)), (V.con (.int .u8 0)), (V.con (.int .u8 0)), (V.con (.int .u8 0)), (V.con (.int .u8 0)), (V.con (.int .u8 0)), (V.con (.int .u8 0)), (V.con (.int .u8 0)), (V.con (.int .u8 0)), (V.con (.int .u8 0)), (V.con (.int .u8 0)), (V.con (.int .u8 0)), (V.con (.int .u8 0)), (V.con (.int .u8 0)), (V.con (.int .u8 0)), (V.con (.int .u8 0)), (V.con (.int .u8 0)), (V.con (.int .u8 0)), (V.con (.int .u8 0)), (V.con (.int .u8 0)), (V.con (.int .u8 0)), (V.con (.int .u8 0)), (V.con (.int .u8 0)), (V.con (.int .u8 0)), (V.con (.int .u8 0)), (V.con (.int .u8 0)), (V.con (.int .u8 0)), (V.con (.int .u8 0)), (V.con (.int .u8 0)), (V.con (.int .u8 0)), (V.con (.int .u8 0)), (V.con (.int .u8 0)), (V.con (.int .u8 0))]]))], 1⟩ : St)) (fun k9 (p : Int) => k9 p = some r) (fun k9 h => ?_) ?_
  · refine spC h rfl (fun hb11 h => ?_) (fun hb11 h => ?_)
    · refine rn 5 rfl ?_
      exact jX (IntKind.wrap .u64 (0 - a2)) h (gr [0] rfl (hB rfl rfl rfl .nil) rfl)
    refine rn 1 rfl ?_
    exact jX a2 h (gr [0] rfl (hB rfl rfl rfl .nil) rfl)
  intro n10 h
  refine rn 4 rfl ?_
  refine cl h rfl rfl rfl (W133 _ _) rfl (fun y12 hx13 h => ?_)
  refine rn 1 rfl ?_
  refine jK h (fun (p : Int × (Nat → Int)) => (⟨[(0, (V.lst 1 (a1.map encI_u8))), (3, (bV a4)), (4, (bV a5)), (10, nV), (11, (sV ([] : List UInt8))), (12, (V.ptr 0 65 0 0)), (13, (iV (p.1)))], [(0, (Ob.arr 204 65 [[(V.con (.int .u8 ((p.2) 0))), (V.con (.int .u8 ((p.2) 1))), (V.con (.int .u8 ((p.2) 2))), (V.con (.int .u8 ((p.2) 3))), (V.con (.int .u8 ((p.2) 4))), (V.con (.int .u8 ((p.2) 5))), (V.con (.int .u8 ((p.2) 6))), (V.con (.int .u8 ((p.2) 7))), (V.con (.int .u8 ((p.2) 8))), (V.con (.int .u8 ((p.2) 9))), (V.con (.int .u8 ((p.2) 10))), (V.con (.int .u8 ((p.2) 11))), (V.con (.int .u8 ((p.2) 12))), (V.con (.int .u8 ((p.2) 13))), (V.con (.int .u8 ((p.2) 14))), (V.con (.int .u8 ((p.2) 15))), (V.con (.int .u8 ((p.2) 16))), (V.con (.int .u8 ((p.2) 17))), (V.con (.int .u8 ((p.2) 18))), (V.con (.int .u8 ((p.2) 19))), (V.con (.int .u8 ((p.2) 20))), (V.con (.int .u8 ((p.2) 21))), (V.con (.int .u8 ((p.2) 22))), (V.con (.int .u8 ((p.2) 23))), (V.con (.int .u8 ((p.2) 24))), (V.con (.int .u8 ((p.2) 25))), (V.con (.int .u8 ((p.2) 26))), (V.con (.int .u8 ((p.2) 27))), (V.con (.int .u8 ((p.2) 28))), (V.con (.int .u8 ((p.2) 29))), (V.con (.int .u8 ((p.2) 30))), (V.con (.int .u8 ((p.2) 31))), (V.con (.int .u8 ((p.2) 32))), (V.con (.int .u8 ((p.2) 33))), (V.con (.int .u8 ((p.2) 34))), (V.con (.int .u8 ((p.2) 35))), (V.con (.int .u8 ((p.2) 36))), (V.con (.int .u8 ((p.2) 37))), (V.con (.int .u8 ((p.2) 38))), (V.con (.int .u8 ((p.2) 39))), (V.con (.int .u8 ((p.2) 40))), (V.con (.int .u8 ((p.2) 41))), (V.con (.int .u8 ((p.2) 42))), (V.con (.int .u8 ((p.2) 43))), (V.con (.int .u8 ((p.2) 44))), (V.con (.int .u8 ((p.2) 45))), (V.con (.int .u8 ((p.2) 46))), (V.con (.int .u8 ((p.2) 47))), (V.con (.int .u8 ((p.2) 48))), (V.con (.int .u8 ((p.2) 49))), (V.con (.int .u8 ((p.2) 50))), (V.con (.int .u8 ((p.2) 51))), (V.con (.int .u8 ((p.2) 52))), (V.con (.int .u8 ((p.2) 53))), (V.con (.int .u8 ((p.2) 54))), (V.con (.int .u8 ((p.2) 55))), (V.con (.int .u8 ((p.2) 56))), (V.con (.int .u8 ((p.2) 57))), (V.con (.int .u8 ((p.2) 58))), (V.con (.int .u8 ((p.2) 59))), (V.con (.int .u8 ((p.2) 60))), (V.con (.int .u8 ((p.2) 61))), (V.con (.int .u8 ((p.2) 62))), (V.con (.int .u8 ((p.2) 63))), (V.con (.int .u8 ((p.2) 64)))]]))], 1⟩ : St)) (fun k14 (p : Int × (Nat → Int)) => k14 p.1 p.2 = some r) (fun k14 h => ?_) ?_
  · refine spC h rfl (fun hb17 h => ?_) (fun hb17 h => ?_)
    · refine rn 4 rfl ?_
      refine cl h rfl rfl rfl (W134 _ _) rfl (fun y18 hx19 h => ?_)
      refine rn 17 rfl ?_
      refine jK h (fun (p : Int × Int × (Nat → Int)) => (⟨[(0, (V.lst 1 (a1.map encI_u8))), (1, (V.con (.int .u64 (p.1)))), (3, (bV a4)), (4, (bV a5)), (10, nV), (11, (sV ([] : List UInt8))), (12, (V.ptr 0 65 0 0)), (13, (iV (p.2.1)))], [(0, (Ob.arr 204 65 [[(V.con (.int .u8 ((p.2.2) 0))), (V.con (.int .u8 ((p.2.2) 1))), (V.con (.int .u8 ((p.2.2) 2))), (V.con (.int .u8 ((p.2.2) 3))), (V.con (.int .u8 ((p.2.2) 4))), (V.con (.int .u8 ((p.2.2) 5))), (V.con (.int .u8 ((p.2.2) 6))), (V.con (.int .u8 ((p.2.2) 7))), (V.con (.int .u8 ((p.2.2) 8))), (V.con (.int .u8 ((p.2.2) 9))), (V.con (.int .u8 ((p.2.2) 10))), (V.con (.int .u8 ((p.2.2) 11))), (V.con (.int .u8 ((p.2.2) 12))), (V.con (.int .u8 ((p.2.2) 13))), (V.con (.int .u8 ((p.2.2) 14))), (V.con (.int .u8 ((p.2.2) 15))), (V.con (.int .u8 ((p.2.2) 16))), (V.con (.int .u8 ((p.2.2) 17))), (V.con (.int .u8 ((p.2.2) 18))), (V.con (.int .u8 ((p.2.2) 19))), (V.con (.int .u8 ((p.2.2) 20))), (V.con (.int .u8 ((p.2.2) 21))), (V.con (.int .u8 ((p.2.2) 22))), (V.con (.int .u8 ((p.2.2) 23))), (V.con (.int .u8 ((p.2.2) 24))), (V.con (.int .u8 ((p.2.2) 25))), (V.con (.int .u8 ((p.2.2) 26))), (V.con (.int .u8 ((p.2.2) 27))), (V.con (.int .u8 ((p.2.2) 28))), (V.con (.int .u8 ((p.2.2) 29))), (V.con (.int .u8 ((p.2.2) 30))), (V.con (.int .u8 ((p.2.2) 31))), (V.con (.int .u8 ((p.2.2) 32))), (V.con (.int .u8 ((p.2.2) 33))), (V.con (.int .u8 ((p.2.2) 34))), (V.con (.int .u8 ((p.2.2) 35))), (V.con (.int .u8 ((p.2.2) 36))), (V.con (.int .u8 ((p.2.2) 37))), (V.con (.int .u8 ((p.2.2) 38))), (V.con (.int .u8 ((p.2.2) 39))), (V.con (.int .u8 ((p.2.2) 40))), (V.con (.int .u8 ((p.2.2) 41))), (V.con (.int .u8 ((p.2.2) 42))), (V.con (.int .u8 ((p.2.2) 43))), (V.con (.int .u8 ((p.2.2) 44))), (V.con (.int .u8 ((p.2.2) 45))), (V.con (.int .u8 ((p.2.2) 46))), (V.con (.int .u8 ((p.2.2) 47))), (V.con (.int .u8 ((p.2.2) 48))), (V.con (.int .u8 ((p.2.2) 49))), (V.con (.int .u8 ((p.2.2) 50))), (V.con (.int .u8 ((p.2.2) 51))), (V.con (.int .u8 ((p.2.2) 52))), (V.con (.int .u8 ((p.2.2) 53))), (V.con (.int .u8 ((p.2.2) 54))), (V.con (.int .u8 ((p.2.2) 55))), (V.con (.int .u8 ((p.2.2) 56))), (V.con (.int .u8 ((p.2.2) 57))), (V.con (.int .u8 ((p.2.2) 58))), (V.con (.int .u8 ((p.2.2) 59))), (V.con (.int .u8 ((p.2.2) 60))), (V.con (.int .u8 ((p.2.2) 61))), (V.con (.int .u8 ((p.2.2) 62))), (V.con (.int .u8 ((p.2.2) 63))), (V.con (.int .u8 ((p.2.2) 64)))]]))], 1⟩ : St)) (fun k20 (p : Int × Int × (Nat → Int)) => k20 p.1 p.2.1 p.2.2 = some r) (fun k20 h => ?_) ?_
      · refine rn 1 rfl ?_
        refine lC (fun (p : Int × Int × (Nat → Int)) => (⟨[(0, (V.lst 1 (a1.map encI_u8))), (1, (V.con (.int .u64 (p.1)))), (3, (bV a4)), (4, (bV a5)), (10, nV), (11, (sV ([] : List UInt8))), (12, (V.ptr 0 65 0 0)), (13, (iV (p.2.1))), (14, (V.con (.int .u64 (IntKind.wrap .u64 y18)))), (15, (V.con (.int .u64 (IntKind.wrap .u64 a3)))), (16, (V.con (.int .u64 (IntKind.wrap .u64 ((IntKind.wrap .u64 a3) - 1)))))], [(0, (Ob.arr 204 65 [[(V.con (.int .u8 ((p.2.2) 0))), (V.con (.int .u8 ((p.2.2) 1))), (V.con (.int .u8 ((p.2.2) 2))), (V.con (.int .u8 ((p.2.2) 3))), (V.con (.int .u8 ((p.2.2) 4))), (V.con (.int .u8 ((p.2.2) 5))), (V.con (.int .u8 ((p.2.2) 6))), (V.con (.int .u8 ((p.2.2) 7))), (V.con (.int .u8 ((p.2.2) 8))), (V.con (.int .u8 ((p.2.2) 9))), (V.con (.int .u8 ((p.2.2) 10))), (V.con (.int .u8 ((p.2.2) 11))), (V.con (.int .u8 ((p.2.2) 12))), (V.con (.int .u8 ((p.2.2) 13))), (V.con (.int .u8 ((p.2.2) 14))), (V.con (.int .u8 ((p.2.2) 15))), (V.con (.int .u8 ((p.2.2) 16))), (V.con (.int .u8 ((p.2.2) 17))), (V.con (.int .u8 ((p.2.2) 18))), (V.con (.int .u8 ((p.2.2) 19))), (V.con (.int .u8 ((p.2.2) 20))), (V.con (.int .u8 ((p.2.2) 21))), (V.con (.int .u8 ((p.2.2) 22))), (V.con (.int .u8 ((p.2.2) 23))), (V.con (.int .u8 ((p.2.2) 24))), (V.con (.int .u8 ((p.2.2) 25))), (V.con (.int .u8 ((p.2.2) 26))), (V.con (.int .u8 ((p.2.2) 27))), (V.con (.int .u8 ((p.2.2) 28))), (V.con (.int .u8 ((p.2.2) 29))), (V.con (.int .u8 ((p.2.2) 30))), (V.con (.int .u8 ((p.2.2) 31))), (V.con (.int .u8 ((p.2.2) 32))), (V.con (.int .u8 ((p.2.2) 33))), (V.con (.int .u8 ((p.2.2) 34))), (V.con (.int .u8 ((p.2.2) 35))), (V.con (.int .u8 ((p.2.2) 36))), (V.con (.int .u8 ((p.2.2) 37))), (V.con (.int .u8 ((p.2.2) 38))), (V.con (.int .u8 ((p.2.2) 39))), (V.con (.int .u8 ((p.2.2) 40))), (V.con (.int .u8 ((p.2.2) 41))), (V.con (.int .u8 ((p.2.2) 42))), (V.con (.int .u8 ((p.2.2) 43))), (V.con (.int .u8 ((p.2.2) 44))), (V.con (.int .u8 ((p.2.2) 45))), (V.con (.int .u8 ((p.2.2) 46))), (V.con (.int .u8 ((p.2.2) 47))), (V.con (.int .u8 ((p.2.2) 48))), (V.con (.int .u8 ((p.2.2) 49))), (V.con (.int .u8 ((p.2.2) 50))), (V.con (.int .u8 ((p.2.2) 51))), (V.con (.int .u8 ((p.2.2) 52))), (V.con (.int .u8 ((p.2.2) 53))), (V.con (.int .u8 ((p.2.2) 54))), (V.con (.int .u8 ((p.2.2) 55))), (V.con (.int .u8 ((p.2.2) 56))), (V.con (.int .u8 ((p.2.2) 57))), (V.con (.int .u8 ((p.2.2) 58))), (V.con (.int .u8 ((p.2.2) 59))), (V.con (.int .u8 ((p.2.2) 60))), (V.con (.int .u8 ((p.2.2) 61))), (V.con (.int .u8 ((p.2.2) 62))), (V.con (.int .u8 ((p.2.2) 63))), (V.con (.int .u8 ((p.2.2) 64)))]]))], 1⟩ : St)) (fun n (p : Int × Int × (Nat → Int)) => M116_L1 F a3 y18 k20 n p.1 p.2.1 p.2.2 = some r) (fun p h => by simp [M116_L1] at h) F (n10, 65, (fun _ => 0)) h (gr [0] rfl (hB rfl rfl rfl .nil) rfl) (fun n p h => ?_)
        obtain ⟨n27, n28, f29⟩ := p
        unfold M116_L1 at h
        refine rn 7 rfl ?_
        refine spC h rfl (fun hb30 h => ?_) (fun hb30 h => ?_)
        · refine rn 14 rfl ?_
          refine ixs h rfl rfl (fun c31 hx32 h => ?_)
          refine ck h (fun hc33 h => ?_)
          refine aops_index_arr tArr204 wants_none rfl rfl hc33.1 hc33.2 rfl ?_
          refine aops_store [(V.con (.int .u8 (c31.toNat : Int)))] [[(V.con (.int .u8 ((upd f29 (w64 (n28 - 1)).toNat (c31.toNat : Int)) 0))), (V.con (.int .u8 ((upd f29 (w64 (n28 - 1)).toNat (c31.toNat : Int)) 1))), (V.con (.int .u8 ((upd f29 (w64 (n28 - 1)).toNat (c31.toNat : Int)) 2))), (V.con (.int .u8 ((upd f29 (w64 (n28 - 1)).toNat (c31.toNat : Int)) 3))), (V.con (.int .u8 ((upd f29 (w64 (n28 - 1)).toNat (c31.toNat : Int)) 4))), (V.con (.int .u8 ((upd f29 (w64 (n28 - 1)).toNat (c31.toNat : Int)) 5))), (V.con (.int .u8 ((upd f29 (w64 (n28 - 1)).toNat (c31.toNat : Int)) 6))), (V.con (.int .u8 ((upd f29 (w64 (n28 - 1)).toNat (c31.toNat : Int)) 7))), (V.con (.int .u8 ((upd f29 (w64 (n28 - 1)).toNat (c31.toNat : Int)) 8))), (V.con (.int .u8 ((upd f29 (w64 (n28 - 1)).toNat (c31.toNat : Int)) 9))), (V.con (.int .u8 ((upd f29 (w64 (n28 - 1)).toNat (c31.toNat : Int)) 10))), (V.con (.int .u8 ((upd f29 (w64 (n28 - 1)).toNat (c31.toNat : Int)) 11))), (V.con (.int .u8 ((upd f29 (w64 (n28 - 1)).toNat (c31.toNat : Int)) 12))), (V.con (.int .u8 ((upd f29 (w64 (n28 - 1)).toNat (c31.toNat : Int)) 13))), (V.con (.int .u8 ((upd f29 (w64 (n28 - 1)).toNat (c31.toNat : Int)) 14))), (V.con (.int .u8 ((upd f29 (w64 (n28 - 1)).toNat (c31.toNat : Int)) 15))), (V.con (.int .u8 ((upd f29 (w64 (n28 - 1)).toNat (c31.toNat : Int)) 16))), (V.con (.int .u8 ((upd f29 (w64 (n28 - 1)).toNat (c31.toNat : Int)) 17))), (V.con (.int .u8 ((upd f29 (w64 (n28 - 1)).toNat (c31.toNat : Int)) 18))), (V.con (.int .u8 ((upd f29 (w64 (n28 - 1)).toNat (c31.toNat : Int)) 19))), (V.con (.int .u8 ((upd f29 (w64 (n28 - 1)).toNat (c31.toNat : Int)) 20))), (V.con (.int .u8 ((upd f29 (w64 (n28 - 1)).toNat (c31.toNat : Int)) 21))), (V.con (.int .u8 ((upd f29 (w64 (n28 - 1)).toNat (c31.toNat : Int)) 22))), (V.con (.int .u8 ((upd f29 (w64 (n28 - 1)).toNat (c31.toNat : Int)) 23))), (V.con (.int .u8 ((upd f29 (w64 (n28 - 1)).toNat (c31.toNat : Int)) 24))), (V.con (.int .u8 ((upd f29 (w64 (n28 - 1)).toNat (c31.toNat : Int)) 25))), (V.con (.int .u8 ((upd f29 (w64 (n28 - 1)).toNat (c31.toNat : Int)) 26))), (V.con (.int .u8 ((upd f29 (w64 (n28 - 1)).toNat (c31.toNat : Int)) 27))), (V.con (.int .u8 ((upd f29 (w64 (n28 - 1)).toNat (c31.toNat : Int)) 28))), (V.con (.int .u8 ((upd f29 (w64 (n28 - 1)).toNat (c31.toNat : Int)) 29))), (V.con (.int .u8 ((upd f29 (w64 (n28 - 1)).toNat (c31.toNat : Int)) 30))), (V.con (.int .u8 ((upd f29 (w64 (n28 - 1)).toNat (c31.toNat : Int)) 31))), (V.con (.int .u8 ((upd f29 (w64 (n28 - 1)).toNat (c31.toNat : Int)) 32))), (V.con (.int .u8 ((upd f29 (w64 (n28 - 1)).toNat (c31.toNat : Int)) 33))), (V.con (.int .u8 ((upd f29 (w64 (n28 - 1)).toNat (c31.toNat : Int)) 34))), (V.con (.int .u8 ((upd f29 (w64 (n28 - 1)).toNat (c31.toNat : Int)) 35))), (V.con (.int .u8 ((upd f29 (w64 (n28 - 1)).toNat (c31.toNat : Int)) 36))), (V.con (.int .u8 ((upd f29 (w64 (n28 - 1)).toNat (c31.toNat : Int)) 37))), (V.con (.int .u8 ((upd f29 (w64 (n28 - 1)).toNat (c31.toNat : Int)) 38))), (V.con (.int .u8 ((upd f29 (w64 (n28 - 1)).toNat (c31.toNat : Int)) 39))), (V.con (.int .u8 ((upd f29 (w64 (n28 - 1)).toNat (c31.toNat : Int)) 40))), (V.con (.int .u8 ((upd f29 (w64 (n28 - 1)).toNat (c31.toNat : Int)) 41))), (V.con (.int .u8 ((upd f29 (w64 (n28 - 1)).toNat (c31.toNat : Int)) 42))), (V.con (.int .u8 ((upd f29 (w64 (n28 - 1)).toNat (c31.toNat : Int)) 43))), (V.con (.int .u8 ((upd f29 (w64 (n28 - 1)).toNat (c31.toNat : Int)) 44))), (V.con (.int .u8 ((upd f29 (w64 (n28 - 1)).toNat (c31.toNat : Int)) 45))), (V.con (.int .u8 ((upd f29 (w64 (n28 - 1)).toNat (c31.toNat : Int)) 46))), (V.con (.int .u8 ((upd f29 (w64 (n28 - 1)).toNat (c31.toNat : Int)) 47))), (V.con (.int .u8 ((upd f29 (w64 (n28 - 1)).toNat (c31.toNat : Int)) 48))), (V.con (.int .u8 ((upd f29 (w64 (n28 - 1)).toNat (c31.toNat : Int)) 49))), (V.con (.int .u8 ((upd f29 (w64 (n28 - 1)).toNat (c31.toNat : Int)) 50))), (V.con (.int .u8 ((upd f29 (w64 (n28 - 1)).toNat (c31.toNat : Int)) 51))), (V.con (.int .u8 ((upd f29 (w64 (n28 - 1)).toNat (c31.toNat : Int)) 52))), (V.con (.int .u8 ((upd f29 (w64 (n28 - 1)).toNat (c31.toNat : Int)) 53))), (V.con (.int .u8 ((upd f29 (w64 (n28 - 1)).toNat (c31.toNat : Int)) 54))), (V.con (.int .u8 ((upd f29 (w64 (n28 - 1)).toNat (c31.toNat : Int)) 55))), (V.con (.int .u8 ((upd f29 (w64 (n28 - 1)).toNat (c31.toNat : Int)) 56))), (V.con (.int .u8 ((upd f29 (w64 (n28 - 1)).toNat (c31.toNat : Int)) 57))), (V.con (.int .u8 ((upd f29 (w64 (n28 - 1)).toNat (c31.toNat : Int)) 58))), (V.con (.int .u8 ((upd f29 (w64 (n28 - 1)).toNat (c31.toNat : Int)) 59))), (V.con (.int .u8 ((upd f29 (w64 (n28 - 1)).toNat (c31.toNat : Int)) 60))), (V.con (.int .u8 ((upd f29 (w64 (n28 - 1)).toNat (c31.toNat : Int)) 61))), (V.con (.int .u8 ((upd f29 (w64 (n28 - 1)).toNat (c31.toNat : Int)) 62))), (V.con (.int .u8 ((upd f29 (w64 (n28 - 1)).toNat (c31.toNat : Int)) 63))), (V.con (.int .u8 ((upd f29 (w64 (n28 - 1)).toNat (c31.toNat : Int)) 64)))]] tS5 wants_none rfl rfl rfl rfl rfl rfl (arr_ble hc33.2 (by simp)) (congrArg (fun r => [r]) (arr_set [] [] (fun x => (V.con (.int .u8 x))) f29 (c31.toNat : Int) hc33.2 rfl (by simp))) ?_
          refine fo (rn 4 rfl ?_)
          refine ck h (fun hc34 h => ?_)
          refine aops_bin (.int .u64 (Int.fdiv n27 (2 ^ (min (Int.toNat (IntKind.wrap .u64 y18)) (IntKind.bits .u64))))) wants_none rfl rfl (binS_shr hc34) rfl ?_
          refine fo (rn 3 rfl ?_)
          exact jX ((Int.fdiv n27 (2 ^ (min (Int.toNat (IntKind.wrap .u64 y18)) (IntKind.bits .u64)))), (w64 (n28 - 1)), (upd f29 (w64 (n28 - 1)).toNat (c31.toNat : Int))) h (gr [0] rfl (hB rfl rfl rfl .nil) rfl)
        refine rn 1 rfl ?_
        exact jX (n27, n28, f29) h (gr [0] rfl (hB rfl rfl rfl .nil) rfl)
      rintro ⟨n21, n22, f23⟩ h
      refine rn 9 rfl ?_
      refine ixs h rfl rfl (fun c35 hx36 h => ?_)
      refine ck h (fun hc37 h => ?_)
      refine aops_index_arr tArr204 wants_none rfl rfl hc37.1 hc37.2 rfl ?_
      refine aops_store [(V.con (.int .u8 (c35.toNat : Int)))] [[(V.con (.int .u8 ((upd f23 (w64 (n22 - 1)).toNat (c35.toNat : Int)) 0))), (V.con (.int .u8 ((upd f23 (w64 (n22 - 1)).toNat (c35.toNat : Int)) 1))), (V.con (.int .u8 ((upd f23 (w64 (n22 - 1)).toNat (c35.toNat : Int)) 2))), (V.con (.int .u8 ((upd f23 (w64 (n22 - 1)).toNat (c35.toNat : Int)) 3))), (V.con (.int .u8 ((upd f23 (w64 (n22 - 1)).toNat (c35.toNat : Int)) 4))), (V.con (.int .u8 ((upd f23 (w64 (n22 - 1)).toNat (c35.toNat : Int)) 5))), (V.con (.int .u8 ((upd f23 (w64 (n22 - 1)).toNat (c35.toNat : Int)) 6))), (V.con (.int .u8 ((upd f23 (w64 (n22 - 1)).toNat (c35.toNat : Int)) 7))), (V.con (.int .u8 ((upd f23 (w64 (n22 - 1)).toNat (c35.toNat : Int)) 8))), (V.con (.int .u8 ((upd f23 (w64 (n22 - 1)).toNat (c35.toNat : Int)) 9))), (V.con (.int .u8 ((upd f23 (w64 (n22 - 1)).toNat (c35.toNat : Int)) 10))), (V.con (.int .u8 ((upd f23 (w64 (n22 - 1)).toNat (c35.toNat : Int)) 11))), (V.con (.int .u8 ((upd f23 (w64 (n22 - 1)).toNat (c35.toNat : Int)) 12))), (V.con (.int .u8 ((upd f23 (w64 (n22 - 1)).toNat (c35.toNat : Int)) 13))), (V.con (.int .u8 ((upd f23 (w64 (n22 - 1)).toNat (c35.toNat : Int)) 14))), (V.con (.int .u8 ((upd f23 (w64 (n22 - 1)).toNat (c35.toNat : Int)) 15))), (V.con (.int .u8 ((upd f23 (w64 (n22 - 1)).toNat (c35.toNat : Int)) 16))), (V.con (.int .u8 ((upd f23 (w64 (n22 - 1)).toNat (c35.toNat : Int)) 17))), (V.con (.int .u8 ((upd f23 (w64 (n22 - 1)).toNat (c35.toNat : Int)) 18))), (V.con (.int .u8 ((upd f23 (w64 (n22 - 1)).toNat (c35.toNat : Int)) 19))), (V.con (.int .u8 ((upd f23 (w64 (n22 - 1)).toNat (c35.toNat : Int)) 20))), (V.con (.int .u8 ((upd f23 (w64 (n22 - 1)).toNat (c35.toNat : Int)) 21))), (V.con (.int .u8 ((upd f23 (w64 (n22 - 1)).toNat (c35.toNat : Int)) 22))), (V.con (.int .u8 ((upd f23 (w64 (n22 - 1)).toNat (c35.toNat : Int)) 23))), (V.con (.int .u8 ((upd f23 (w64 (n22 - 1)).toNat (c35.toNat : Int)) 24))), (V.con (.int .u8 ((upd f23 (w64 (n22 - 1)).toNat (c35.toNat : Int)) 25))), (V.con (.int .u8 ((upd f23 (w64 (n22 - 1)).toNat (c35.toNat : Int)) 26))), (V.con (.int .u8 ((upd f23 (w64 (n22 - 1)).toNat (c35.toNat : Int)) 27))), (V.con (.int .u8 ((upd f23 (w64 (n22 - 1)).toNat (c35.toNat : Int)) 28))), (V.con (.int .u8 ((upd f23 (w64 (n22 - 1)).toNat (c35.toNat : Int)) 29))), (V.con (.int .u8 ((upd f23 (w64 (n22 - 1)).toNat (c35.toNat : Int)) 30))), (V.con (.int .u8 ((upd f23 (w64 (n22 - 1)).toNat (c35.toNat : Int)) 31))), (V.con (.int .u8 ((upd f23 (w64 (n22 - 1)).toNat (c35.toNat : Int)) 32))), (V.con (.int .u8 ((upd f23 (w64 (n22 - 1)).toNat (c35.toNat : Int)) 33))), (V.con (.int .u8 ((upd f23 (w64 (n22 - 1)).toNat (c35.toNat : Int)) 34))), (V.con (.int .u8 ((upd f23 (w64 (n22 - 1)).toNat (c35.toNat : Int)) 35))), (V.con (.int .u8 ((upd f23 (w64 (n22 - 1)).toNat (c35.toNat : Int)) 36))), (V.con (.int .u8 ((upd f23 (w64 (n22 - 1)).toNat (c35.toNat : Int)) 37))), (V.con (.int .u8 ((upd f23 (w64 (n22 - 1)).toNat (c35.toNat : Int)) 38))), (V.con (.int .u8 ((upd f23 (w64 (n22 - 1)).toNat (c35.toNat : Int)) 39))), (V.con (.int .u8 ((upd f23 (w64 (n22 - 1)).toNat (c35.toNat : Int)) 40))), (V.con (.int .u8 ((upd f23 (w64 (n22 - 1)).toNat (c35.toNat : Int)) 41))), (V.con (.int .u8 ((upd f23 (w64 (n22 - 1)).toNat (c35.toNat : Int)) 42))), (V.con (.int .u8 ((upd f23 (w64 (n22 - 1)).toNat (c35.toNat : Int)) 43))), (V.con (.int .u8 ((upd f23 (w64 (n22 - 1)).toNat (c35.toNat : Int)) 44))), (V.con (.int .u8 ((upd f23 (w64 (n22 - 1)).toNat (c35.toNat : Int)) 45))), (V.con (.int .u8 ((upd f23 (w64 (n22 - 1)).toNat (c35.toNat : Int)) 46))), (V.con (.int .u8 ((upd f23 (w64 (n22 - 1)).toNat (c35.toNat : Int)) 47))), (V.con (.int .u8 ((upd f23 (w64 (n22 - 1)).toNat (c35.toNat : Int)) 48))), (V.con (.int .u8 ((upd f23 (w64 (n22 - 1)).toNat (c35.toNat : Int)) 49))), (V.con (.int .u8 ((upd f23 (w64 (n22 - 1)).toNat (c35.toNat : Int)) 50))), (V.con (.int .u8 ((upd f23 (w64 (n22 - 1)).toNat (c35.toNat : Int)) 51))), (V.con (.int .u8 ((upd f23 (w64 (n22 - 1)).toNat (c35.toNat : Int)) 52))), (V.con (.int .u8 ((upd f23 (w64 (n22 - 1)).toNat (c35.toNat : Int)) 53))), (V.con (.int .u8 ((upd f23 (w64 (n22 - 1)).toNat (c35.toNat : Int)) 54))), (V.con (.int .u8 ((upd f23 (w64 (n22 - 1)).toNat (c35.toNat : Int)) 55))), (V.con (.int .u8 ((upd f23 (w64 (n22 - 1)).toNat (c35.toNat : Int)) 56))), (V.con (.int .u8 ((upd f23 (w64 (n22 - 1)).toNat (c35.toNat : Int)) 57))), (V.con (.int .u8 ((upd f23 (w64 (n22 - 1)).toNat (c35.toNat : Int)) 58))), (V.con (.int .u8 ((upd f23 (w64 (n22 - 1)).toNat (c35.toNat : Int)) 59))), (V.con (.int .u8 ((upd f23 (w64 (n22 - 1)).toNat (c35.toNat : Int)) 60))), (V.con (.int .u8 ((upd f23 (w64 (n22 - 1)).toNat (c35.toNat : Int)) 61))), (V.con (.int .u8 ((upd f23 (w64 (n22 - 1)).toNat (c35.toNat : Int)) 62))), (V.con (.int .u8 ((upd f23 (w64 (n22 - 1)).toNat (c35.toNat : Int)) 63))), (V.con (.int .u8 ((upd f23 (w64 (n22 - 1)).toNat (c35.toNat : Int)) 64)))]] tS5 wants_none rfl rfl rfl rfl rfl rfl (arr_ble hc37.2 (by simp)) (congrArg (fun r => [r]) (arr_set [] [] (fun x => (V.con (.int .u8 x))) f23 (c35.toNat : Int) hc37.2 rfl (by simp))) ?_
      refine fo (rn 1 rfl ?_)
      exact jX ((w64 (n22 - 1)), (upd f23 (w64 (n22 - 1)).toNat (c35.toNat : Int))) h (gr [0] rfl (hB rfl rfl rfl .nil) rfl)
    refine rn 7 rfl ?_
    refine jK h (fun (p : Int × Int × (Nat → Int)) => (⟨[(0, (V.lst 1 (a1.map encI_u8))), (1, (V.con (.int .u64 (p.1)))), (3, (bV a4)), (4, (bV a5)), (10, nV), (11, (sV ([] : List UInt8))), (12, (V.ptr 0 65 0 0)), (13, (iV (p.2.1)))], [(0, (Ob.arr 204 65 [[(V.con (.int .u8 ((p.2.2) 0))), (V.con (.int .u8 ((p.2.2) 1))), (V.con (.int .u8 ((p.2.2) 2))), (V.con (.int .u8 ((p.2.2) 3))), (V.con (.int .u8 ((p.2.2) 4))), (V.con (.int .u8 ((p.2.2) 5))), (V.con (.int .u8 ((p.2.2) 6))), (V.con (.int .u8 ((p.2.2) 7))), (V.con (.int .u8 ((p.2.2) 8))), (V.con (.int .u8 ((p.2.2) 9))), (V.con (.int .u8 ((p.2.2) 10))), (V.con (.int .u8 ((p.2.2) 11))), (V.con (.int .u8 ((p.2.2) 12))), (V.con (.int .u8 ((p.2.2) 13))), (V.con (.int .u8 ((p.2.2) 14))), (V.con (.int .u8 ((p.2.2) 15))), (V.con (.int .u8 ((p.2.2) 16))), (V.con (.int .u8 ((p.2.2) 17))), (V.con (.int .u8 ((p.2.2) 18))), (V.con (.int .u8 ((p.2.2) 19))), (V.con (.int .u8 ((p.2.2) 20))), (V.con (.int .u8 ((p.2.2) 21))), (V.con (.int .u8 ((p.2.2) 22))), (V.con (.int .u8 ((p.2.2) 23))), (V.con (.int .u8 ((p.2.2) 24))), (V.con (.int .u8 ((p.2.2) 25))), (V.con (.int .u8 ((p.2.2) 26))), (V.con (.int .u8 ((p.2.2) 27))), (V.con (.int .u8 ((p.2.2) 28))), (V.con (.int .u8 ((p.2.2) 29))), (V.con (.int .u8 ((p.2.2) 30))), (V.con (.int .u8 ((p.2.2) 31))), (V.con (.int .u8 ((p.2.2) 32))), (V.con (.int .u8 ((p.2.2) 33))), (V.con (.int .u8 ((p.2.2) 34))), (V.con (.int .u8 ((p.2.2) 35))), (V.con (.int .u8 ((p.2.2) 36))), (V.con (.int .u8 ((p.2.2) 37))), (V.con (.int .u8 ((p.2.2) 38))), (V.con (.int .u8 ((p.2.2) 39))), (V.con (.int .u8 ((p.2.2) 40))), (V.con (.int .u8 ((p.2.2) 41))), (V.con (.int .u8 ((p.2.2) 42))), (V.con (.int .u8 ((p.2.2) 43))), (V.con (.int .u8 ((p.2.2) 44))), (V.con (.int .u8 ((p.2.2) 45))), (V.con (.int .u8 ((p.2.2) 46))), (V.con (.int .u8 ((p.2.2) 47))), (V.con (.int .u8 ((p.2.2) 48))), (V.con (.int .u8 ((p.2.2) 49))), (V.con (.int .u8 ((p.2.2) 50))), (V.con (.int .u8 ((p.2.2) 51))), (V.con (.int .u8 ((p.2.2) 52))), (V.con (.int .u8 ((p.2.2) 53))), (V.con (.int .u8 ((p.2.2) 54))), (V.con (.int .u8 ((p.2.2) 55))), (V.con (.int .u8 ((p.2.2) 56))), (V.con (.int .u8 ((p.2.2) 57))), (V.con (.int .u8 ((p.2.2) 58))), (V.con (.int .u8 ((p.2.2) 59))), (V.con (.int .u8 ((p.2.2) 60))), (V.con (.int .u8 ((p.2.2) 61))), (V.con (.int .u8 ((p.2.2) 62))), (V.con (.int .u8 ((p.2.2) 63))), (V.con (.int .u8 ((p.2.2) 64)))]]))], 1⟩ : St)) (fun k38 (p : Int × Int × (Nat → Int)) => k38 p.1 p.2.1 p.2.2 = some r) (fun k38 h => ?_) ?_
    · refine rn 1 rfl ?_
      refine lC (fun (p : Int × Int × (Nat → Int)) => (⟨[(0, (V.lst 1 (a1.map encI_u8))), (1, (V.con (.int .u64 (p.1)))), (3, (bV a4)), (4, (bV a5)), (10, nV), (11, (sV ([] : List UInt8))), (12, (V.ptr 0 65 0 0)), (13, (iV (p.2.1))), (17, (V.con (.int .u64 (IntKind.wrap .u64 a3))))], [(0, (Ob.arr 204 65 [[(V.con (.int .u8 ((p.2.2) 0))), (V.con (.int .u8 ((p.2.2) 1))), (V.con (.int .u8 ((p.2.2) 2))), (V.con (.int .u8 ((p.2.2) 3))), (V.con (.int .u8 ((p.2.2) 4))), (V.con (.int .u8 ((p.2.2) 5))), (V.con (.int .u8 ((p.2.2) 6))), (V.con (.int .u8 ((p.2.2) 7))), (V.con (.int .u8 ((p.2.2) 8))), (V.con (.int .u8 ((p.2.2) 9))), (V.con (.int .u8 ((p.2.2) 10))), (V.con (.int .u8 ((p.2.2) 11))), (V.con (.int .u8 ((p.2.2) 12))), (V.con (.int .u8 ((p.2.2) 13))), (V.con (.int .u8 ((p.2.2) 14))), (V.con (.int .u8 ((p.2.2) 15))), (V.con (.int .u8 ((p.2.2) 16))), (V.con (.int .u8 ((p.2.2) 17))), (V.con (.int .u8 ((p.2.2) 18))), (V.con (.int .u8 ((p.2.2) 19))), (V.con (.int .u8 ((p.2.2) 20))), (V.con (.int .u8 ((p.2.2) 21))), (V.con (.int .u8 ((p.2.2) 22))), (V.con (.int .u8 ((p.2.2) 23))), (V.con (.int .u8 ((p.2.2) 24))), (V.con (.int .u8 ((p.2.2) 25))), (V.con (.int .u8 ((p.2.2) 26))), (V.con (.int .u8 ((p.2.2) 27))), (V.con (.int .u8 ((p.2.2) 28))), (V.con (.int .u8 ((p.2.2) 29))), (V.con (.int .u8 ((p.2.2) 30))), (V.con (.int .u8 ((p.2.2) 31))), (V.con (.int .u8 ((p.2.2) 32))), (V.con (.int .u8 ((p.2.2) 33))), (V.con (.int .u8 ((p.2.2) 34))), (V.con (.int .u8 ((p.2.2) 35))), (V.con (.int .u8 ((p.2.2) 36))), (V.con (.int .u8 ((p.2.2) 37))), (V.con (.int .u8 ((p.2.2) 38))), (V.con (.int .u8 ((p.2.2) 39))), (V.con (.int .u8 ((p.2.2) 40))), (V.con (.int .u8 ((p.2.2) 41))), (V.con (.int .u8 ((p.2.2) 42))), (V.con (.int .u8 ((p.2.2) 43))), (V.con (.int .u8 ((p.2.2) 44))), (V.con (.int .u8 ((p.2.2) 45))), (V.con (.int .u8 ((p.2.2) 46))), (V.con (.int .u8 ((p.2.2) 47))), (V.con (.int .u8 ((p.2.2) 48))), (V.con (.int .u8 ((p.2.2) 49))), (V.con (.int .u8 ((p.2.2) 50))), (V.con (.int .u8 ((p.2.2) 51))), (V.con (.int .u8 ((p.2.2) 52))), (V.con (.int .u8 ((p.2.2) 53))), (V.con (.int .u8 ((p.2.2) 54))), (V.con (.int .u8 ((p.2.2) 55))), (V.con (.int .u8 ((p.2.2) 56))), (V.con (.int .u8 ((p.2.2) 57))), (V.con (.int .u8 ((p.2.2) 58))), (V.con (.int .u8 ((p.2.2) 59))), (V.con (.int .u8 ((p.2.2) 60))), (V.con (.int .u8 ((p.2.2) 61))), (V.con (.int .u8 ((p.2.2) 62))), (V.con (.int .u8 ((p.2.2) 63))), (V.con (.int .u8 ((p.2.2) 64)))]]))], 1⟩ : St)) (fun n (p : Int × Int × (Nat → Int)) => M116_L2 F a3 k38 n p.1 p.2.1 p.2.2 = some r) (fun p h => by simp [M116_L2] at h) F (n10, 65, (fun _ => 0)) h (gr [0] rfl (hB rfl rfl rfl .nil) rfl) (fun n p h => ?_)
      obtain ⟨n45, n46, f47⟩ := p
      unfold M116_L2 at h
      refine rn 7 rfl ?_
      refine spC h rfl (fun hb48 h => ?_) (fun hb48 h => ?_)
      · refine rn 12 rfl ?_
        refine ck h (fun hc49 h => ?_)
        refine aops_bin (.int .u64 (IntKind.wrap .u64 (Int.tdiv n45 (IntKind.wrap .u64 a3)))) wants_none rfl rfl (binS_quo hc49) rfl ?_
        refine fo (rn 10 rfl ?_)
        refine ixs h rfl rfl (fun c50 hx51 h => ?_)
        refine ck h (fun hc52 h => ?_)
        refine aops_index_arr tArr204 wants_none rfl rfl hc52.1 hc52.2 rfl ?_
        refine aops_store [(V.con (.int .u8 (c50.toNat : Int)))] [[(V.con (.int .u8 ((upd f47 (w64 (n46 - 1)).toNat (c50.toNat : Int)) 0))), (V.con (.int .u8 ((upd f47 (w64 (n46 - 1)).toNat (c50.toNat : Int)) 1))), (V.con (.int .u8 ((upd f47 (w64 (n46 - 1)).toNat (c50.toNat : Int)) 2))), (V.con (.int .u8 ((upd f47 (w64 (n46 - 1)).toNat (c50.toNat : Int)) 3))), (V.con (.int .u8 ((upd f47 (w64 (n46 - 1)).toNat (c50.toNat : Int)) 4))), (V.con (.int .u8 ((upd f47 (w64 (n46 - 1)).toNat (c50.toNat : Int)) 5))), (V.con (.int .u8 ((upd f47 (w64 (n46 - 1)).toNat (c50.toNat : Int)) 6))), (V.con (.int .u8 ((upd f47 (w64 (n46 - 1)).toNat (c50.toNat : Int)) 7))), (V.con (.int .u8 ((upd f47 (w64 (n46 - 1)).toNat (c50.toNat : Int)) 8))), (V.con (.int .u8 ((upd f47 (w64 (n46 - 1)).toNat (c50.toNat : Int)) 9))), (V.con (.int .u8 ((upd f47 (w64 (n46 - 1)).toNat (c50.toNat : Int)) 10))), (V.con (.int .u8 ((upd f47 (w64 (n46 - 1)).toNat (c50.toNat : Int)) 11))), (V.con (.int .u8 ((upd f47 (w64 (n46 - 1)).toNat (c50.toNat : Int)) 12))), (V.con (.int .u8 ((upd f47 (w64 (n46 - 1)).toNat (c50.toNat : Int)) 13))), (V.con (.int .u8 ((upd f47 (w64 (n46 - 1)).toNat (c50.toNat : Int)) 14))), (V.con (.int .u8 ((upd f47 (w64 (n46 - 1)).toNat (c50.toNat : Int)) 15))), (V.con (.int .u8 ((upd f47 (w64 (n46 - 1)).toNat (c50.toNat : Int)) 16))), (V.con (.int .u8 ((upd f47 (w64 (n46 - 1)).toNat (c50.toNat : Int)) 17))), (V.con (.int .u8 ((upd f47 (w64 (n46 - 1)).toNat (c50.toNat : Int)) 18))), (V.con (.int .u8 ((upd f47 (w64 (n46 - 1)).toNat (c50.toNat : Int)) 19))), (V.con (.int .u8 ((upd f47 (w64 (n46 - 1)).toNat (c50.toNat : Int)) 20))), (V.con (.int .u8 ((upd f47 (w64 (n46 - 1)).toNat (c50.toNat : Int)) 21))), (V.con (.int .u8 ((upd f47 (w64 (n46 - 1)).toNat (c50.toNat : Int)) 22))), (V.con (.int .u8 ((upd f47 (w64 (n46 - 1)).toNat (c50.toNat : Int)) 23))), (V.con (.int .u8 ((upd f47 (w64 (n46 - 1)).toNat (c50.toNat : Int)) 24))), (V.con (.int .u8 ((upd f47 (w64 (n46 - 1)).toNat (c50.toNat : Int)) 25))), (V.con (.int .u8 ((upd f47 (w64 (n46 - 1)).toNat (c50.toNat : Int)) 26))), (V.con (.int .u8 ((upd f47 (w64 (n46 - 1)).toNat (c50.toNat : Int)) 27))), (V.con (.int .u8 ((upd f47 (w64 (n46 - 1)).toNat (c50.toNat : Int)) 28))), (V.con (.int .u8 ((upd f47 (w64 (n46 - 1)).toNat (c50.toNat : Int)) 29))), (V.con (.int .u8 ((upd f47 (w64 (n46 - 1)).toNat (c50.toNat : Int)) 30))), (V.con (.int .u8 ((upd f47 (w64 (n46 - 1)).toNat (c50.toNat : Int)) 31))), (V.con (.int .u8 ((upd f47 (w64 (n46 - 1)).toNat (c50.toNat : Int)) 32))), (V.con (.int .u8 ((upd f47 (w64 (n46 - 1)).toNat (c50.toNat : Int)) 33))), (V.con (.int .u8 ((upd f47 (w64 (n46 - 1)).toNat (c50.toNat : Int)) 34))), (V.con (.int .u8 ((upd f47 (w64 (n46 - 1)).toNat (c50.toNat : Int)) 35))), (V.con (.int .u8 ((upd f47 (w64 (n46 - 1)).toNat (c50.toNat : Int)) 36))), (V.con (.int .u8 ((upd f47 (w64 (n46 - 1)).toNat (c50.toNat : Int)) 37))), (V.con (.int .u8 ((upd f47 (w64 (n46 - 1)).toNat (c50.toNat : Int)) 38))), (V.con (.int .u8 ((upd f47 (w64 (n46 - 1)).toNat (c50.toNat : Int)) 39))), (V.con (.int .u8 ((upd f47 (w64 (n46 - 1)).toNat (c50.toNat : Int)) 40))), (V.con (.int .u8 ((upd f47 (w64 (n46 - 1)).toNat (c50.toNat : Int)) 41))), (V.con (.int .u8 ((upd f47 (w64 (n46 - 1)).toNat (c50.toNat : Int)) 42))), (V.con (.int .u8 ((upd f47 (w64 (n46 - 1)).toNat (c50.toNat : Int)) 43))), (V.con (.int .u8 ((upd f47 (w64 (n46 - 1)).toNat (c50.toNat : Int)) 44))), (V.con (.int .u8 ((upd f47 (w64 (n46 - 1)).toNat (c50.toNat : Int)) 45))), (V.con (.int .u8 ((upd f47 (w64 (n46 - 1)).toNat (c50.toNat : Int)) 46))), (V.con (.int .u8 ((upd f47 (w64 (n46 - 1)).toNat (c50.toNat : Int)) 47))), (V.con (.int .u8 ((upd f47 (w64 (n46 - 1)).toNat (c50.toNat : Int)) 48))), (V.con (.int .u8 ((upd f47 (w64 (n46 - 1)).toNat (c50.toNat : Int)) 49))), (V.con (.int .u8 ((upd f47 (w64 (n46 - 1)).toNat (c50.toNat : Int)) 50))), (V.con (.int .u8 ((upd f47 (w64 (n46 - 1)).toNat (c50.toNat : Int)) 51))), (V.con (.int .u8 ((upd f47 (w64 (n46 - 1)).toNat (c50.toNat : Int)) 52))), (V.con (.int .u8 ((upd f47 (w64 (n46 - 1)).toNat (c50.toNat : Int)) 53))), (V.con (.int .u8 ((upd f47 (w64 (n46 - 1)).toNat (c50.toNat : Int)) 54))), (V.con (.int .u8 ((upd f47 (w64 (n46 - 1)).toNat (c50.toNat : Int)) 55))), (V.con (.int .u8 ((upd f47 (w64 (n46 - 1)).toNat (c50.toNat : Int)) 56))), (V.con (.int .u8 ((upd f47 (w64 (n46 - 1)).toNat (c50.toNat : Int)) 57))), (V.con (.int .u8 ((upd f47 (w64 (n46 - 1)).toNat (c50.toNat : Int)) 58))), (V.con (.int .u8 ((upd f47 (w64 (n46 - 1)).toNat (c50.toNat : Int)) 59))), (V.con (.int .u8 ((upd f47 (w64 (n46 - 1)).toNat (c50.toNat : Int)) 60))), (V.con (.int .u8 ((upd f47 (w64 (n46 - 1)).toNat (c50.toNat : Int)) 61))), (V.con (.int .u8 ((upd f47 (w64 (n46 - 1)).toNat (c50.toNat : Int)) 62))), (V.con (.int .u8 ((upd f47 (w64 (n46 - 1)).toNat (c50.toNat : Int)) 63))), (V.con (.int .u8 ((upd f47 (w64 (n46 - 1)).toNat (c50.toNat : Int)) 64)))]] tS5 wants_none rfl rfl rfl rfl rfl rfl (arr_ble hc52.2 (by simp)) (congrArg (fun r => [r]) (arr_set [] [] (fun x => (V.con (.int .u8 x))) f47 (c50.toNat : Int) hc52.2 rfl (by simp))) ?_
        refine fo (rn 6 rfl ?_)
        exact jX ((IntKind.wrap .u64 (Int.tdiv n45 (IntKind.wrap .u64 a3))), (w64 (n46 - 1)), (upd f47 (w64 (n46 - 1)).toNat (c50.toNat : Int))) h (gr [0] rfl (hB rfl rfl rfl .nil) rfl)
      refine rn 1 rfl ?_
      exact jX (n45, n46, f47) h (gr [0] rfl (hB rfl rfl rfl .nil) rfl)
    rintro ⟨n39, n40, f41⟩ h
    refine rn 9 rfl ?_
    refine ixs h rfl rfl (fun c53 hx54 h => ?_)
    refine ck h (fun hc55 h => ?_)
    refine aops_index_arr tArr204 wants_none rfl rfl hc55.1 hc55.2 rfl ?_
    refine aops_store [(V.con (.int .u8 (c53.toNat : Int)))] [[(V.con (.int .u8 ((upd f41 (w64 (n40 - 1)).toNat (c53.toNat : Int)) 0))), (V.con (.int .u8 ((upd f41 (w64 (n40 - 1)).toNat (c53.toNat : Int)) 1))), (V.con (.int .u8 ((upd f41 (w64 (n40 - 1)).toNat (c53.toNat : Int)) 2))), (V.con (.int .u8 ((upd f41 (w64 (n40 - 1)).toNat (c53.toNat : Int)) 3))), (V.con (.int .u8 ((upd f41 (w64 (n40 - 1)).toNat (c53.toNat : Int)) 4))), (V.con (.int .u8 ((upd f41 (w64 (n40 - 1)).toNat (c53.toNat : Int)) 5))), (V.con (.int .u8 ((upd f41 (w64 (n40 - 1)).toNat (c53.toNat : Int)) 6))), (V.con (.int .u8 ((upd f41 (w64 (n40 - 1)).toNat (c53.toNat : Int)) 7))), (V.con (.int .u8 ((upd f41 (w64 (n40 - 1)).toNat (c53.toNat : Int)) 8))), (V.con (.int .u8 ((upd f41 (w64 (n40 - 1)).toNat (c53.toNat : Int)) 9))), (V.con (.int .u8 ((upd f41 (w64 (n40 - 1)).toNat (c53.toNat : Int)) 10))), (V.con (.int .u8 ((upd f41 (w64 (n40 - 1)).toNat (c53.toNat : Int)) 11))), (V.con (.int .u8 ((upd f41 (w64 (n40 - 1)).toNat (c53.toNat : Int)) 12))), (V.con (.int .u8 ((upd f41 (w64 (n40 - 1)).toNat (c53.toNat : Int)) 13))), (V.con (.int .u8 ((upd f41 (w64 (n40 - 1)).toNat (c53.toNat : Int)) 14))), (V.con (.int .u8 ((upd f41 (w64 (n40 - 1)).toNat (c53.toNat : Int)) 15))), (V.con (.int .u8 ((upd f41 (w64 (n40 - 1)).toNat (c53.toNat : Int)) 16))), (V.con (.int .u8 ((upd f41 (w64 (n40 - 1)).toNat (c53.toNat : Int)) 17))), (V.con (.int .u8 ((upd f41 (w64 (n40 - 1)).toNat (c53.toNat : Int)) 18))), (V.con (.int .u8 ((upd f41 (w64 (n40 - 1)).toNat (c53.toNat : Int)) 19))), (V.con (.int .u8 ((upd f41 (w64 (n40 - 1)).toNat (c53.toNat : Int)) 20))), (V.con (.int .u8 ((upd f41 (w64 (n40 - 1)).toNat (c53.toNat : Int)) 21))), (V.con (.int .u8 ((upd f41 (w64 (n40 - 1)).toNat (c53.toNat : Int)) 22))), (V.con (.int .u8 ((upd f41 (w64 (n40 - 1)).toNat (c53.toNat : Int)) 23))), (V.con (.int .u8 ((upd f41 (w64 (n40 - 1)).toNat (c53.toNat : Int)) 24))), (V.con (.int .u8 ((upd f41 (w64 (n40 - 1)).toNat (c53.toNat : Int)) 25))), (V.con (.int .u8 ((upd f41 (w64 (n40 - 1)).toNat (c53.toNat : Int)) 26))), (V.con (.int .u8 ((upd f41 (w64 (n40 - 1)).toNat (c53.toNat : Int)) 27))), (V.con (.int .u8 ((upd f41 (w64 (n40 - 1)).toNat (c53.toNat : Int)) 28))), (V.con (.int .u8 ((upd f41 (w64 (n40 - 1)).toNat (c53.toNat : Int)) 29))), (V.con (.int .u8 ((upd f41 (w64 (n40 - 1)).toNat (c53.toNat : Int)) 30))), (V.con (.int .u8 ((upd f41 (w64 (n40 - 1)).toNat (c53.toNat : Int)) 31))), (V.con (.int .u8 ((upd f41 (w64 (n40 - 1)).toNat (c53.toNat : Int)) 32))), (V.con (.int .u8 ((upd f41 (w64 (n40 - 1)).toNat (c53.toNat : Int)) 33))), (V.con (.int .u8 ((upd f41 (w64 (n40 - 1)).toNat (c53.toNat : Int)) 34))), (V.con (.int .u8 ((upd f41 (w64 (n40 - 1)).toNat (c53.toNat : Int)) 35))), (V.con (.int .u8 ((upd f41 (w64 (n40 - 1)).toNat (c53.toNat : Int)) 36))), (V.con (.int .u8 ((upd f41 (w64 (n40 - 1)).toNat (c53.toNat : Int)) 37))), (V.con (.int .u8 ((upd f41 (w64 (n40 - 1)).toNat (c53.toNat : Int)) 38))), (V.con (.int .u8 ((upd f41 (w64 (n40 - 1)).toNat (c53.toNat : Int)) 39))), (V.con (.int .u8 ((upd f41 (w64 (n40 - 1)).toNat (c53.toNat : Int)) 40))), (V.con (.int .u8 ((upd f41 (w64 (n40 - 1)).toNat (c53.toNat : Int)) 41))), (V.con (.int .u8 ((upd f41 (w64 (n40 - 1)).toNat (c53.toNat : Int)) 42))), (V.con (.int .u8 ((upd f41 (w64 (n40 - 1)).toNat (c53.toNat : Int)) 43))), (V.con (.int .u8 ((upd f41 (w64 (n40 - 1)).toNat (c53.toNat : Int)) 44))), (V.con (.int .u8 ((upd f41 (w64 (n40 - 1)).toNat (c53.toNat : Int)) 45))), (V.con (.int .u8 ((upd f41 (w64 (n40 - 1)).toNat (c53.toNat : Int)) 46))), (V.con (.int .u8 ((upd f41 (w64 (n40 - 1)).toNat (c53.toNat : Int)) 47))), (V.con (.int .u8 ((upd f41 (w64 (n40 - 1)).toNat (c53.toNat : Int)) 48))), (V.con (.int .u8 ((upd f41 (w64 (n40 - 1)).toNat (c53.toNat : Int)) 49))), (V.con (.int .u8 ((upd f41 (w64 (n40 - 1)).toNat (c53.toNat : Int)) 50))), (V.con (.int .u8 ((upd f41 (w64 (n40 - 1)).toNat (c53.toNat : Int)) 51))), (V.con (.int .u8 ((upd f41 (w64 (n40 - 1)).toNat (c53.toNat : Int)) 52))), (V.con (.int .u8 ((upd f41 (w64 (n40 - 1)).toNat (c53.toNat : Int)) 53))), (V.con (.int .u8 ((upd f41 (w64 (n40 - 1)).toNat (c53.toNat : Int)) 54))), (V.con (.int .u8 ((upd f41 (w64 (n40 - 1)).toNat (c53.toNat : Int)) 55))), (V.con (.int .u8 ((upd f41 (w64 (n40 - 1)).toNat (c53.toNat : Int)) 56))), (V.con (.int .u8 ((upd f41 (w64 (n40 - 1)).toNat (c53.toNat : Int)) 57))), (V.con (.int .u8 ((upd f41 (w64 (n40 - 1)).toNat (c53.toNat : Int)) 58))), (V.con (.int .u8 ((upd f41 (w64 (n40 - 1)).toNat (c53.toNat : Int)) 59))), (V.con (.int .u8 ((upd f41 (w64 (n40 - 1)).toNat (c53.toNat : Int)) 60))), (V.con (.int .u8 ((upd f41 (w64 (n40 - 1)).toNat (c53.toNat : Int)) 61))), (V.con (.int .u8 ((upd f41 (w64 (n40 - 1)).toNat (c53.toNat : Int)) 62))), (V.con (.int .u8 ((upd f41 (w64 (n40 - 1)).toNat (c53.toNat : Int)) 63))), (V.con (.int .u8 ((upd f41 (w64 (n40 - 1)).toNat (c53.toNat : Int)) 64)))]] tS5 wants_none rfl rfl rfl rfl rfl rfl (arr_ble hc55.2 (by simp)) (congrArg (fun r => [r]) (arr_set [] [] (fun x => (V.con (.int .u8 x))) f41 (c53.toNat : Int) hc55.2 rfl (by simp))) ?_
    refine fo (rn 1 rfl ?_)
    exact jX ((w64 (n40 - 1)), (upd f41 (w64 (n40 - 1)).toNat (c53.toNat : Int))) h (gr [0] rfl (hB rfl rfl rfl .nil) rfl)
  rintro ⟨n15, f16⟩ h
  refine rn 5 rfl ?_
  refine jK h (fun (p : Int × (Nat → Int)) => (⟨[(0, (V.lst 1 (a1.map encI_u8))), (4, (bV a5)), (10, nV), (11, (sV ([] : List UInt8))), (12, (V.ptr 0 65 0 0)), (13, (iV (p.1)))], [(0, (Ob.arr 204 65 [[(V.con (.int .u8 ((p.2) 0))), (V.con (.int .u8 ((p.2) 1))), (V.con (.int .u8 ((p.2) 2))), (V.con (.int .u8 ((p.2) 3))), (V.con (.int .u8 ((p.2) 4))), (V.con (.int .u8 ((p.2) 5))), (V.con (.int .u8 ((p.2) 6))), (V.con (.int .u8 ((p.2) 7))), (V.con (.int .u8 ((p.2) 8))), (V.con (.int .u8 ((p.2) 9))), (V.con (.int .u8 ((p.2) 10))), (V.con (.int .u8 ((p.2) 11))), (V.con (.int .u8 ((p.2) 12))), (V.con (.int .u8 ((p.2) 13))), (V.con (.int .u8 ((p.2) 14))), (V.con (.int .u8 ((p.2) 15))), (V.con (.int .u8 ((p.2) 16))), (V.con (.int .u8 ((p.2) 17))), (V.con (.int .u8 ((p.2) 18))), (V.con (.int .u8 ((p.2) 19))), (V.con (.int .u8 ((p.2) 20))), (V.con (.int .u8 ((p.2) 21))), (V.con (.int .u8 ((p.2) 22))), (V.con (.int .u8 ((p.2) 23))), (V.con (.int .u8 ((p.2) 24))), (V.con (.int .u8 ((p.2) 25))), (V.con (.int .u8 ((p.2) 26))), (V.con (.int .u8 ((p.2) 27))), (V.con (.int .u8 ((p.2) 28))), (V.con (.int .u8 ((p.2) 29))), (V.con (.int .u8 ((p.2) 30))), (V.con (.int .u8 ((p.2) 31))), (V.con (.int .u8 ((p.2) 32))), (V.con (.int .u8 ((p.2) 33))), (V.con (.int .u8 ((p.2) 34))), (V.con (.int .u8 ((p.2) 35))), (V.con (.int .u8 ((p.2) 36))), (V.con (.int .u8 ((p.2) 37))), (V.con (.int .u8 ((p.2) 38))), (V.con (.int .u8 ((p.2) 39))), (V.con (.int .u8 ((p.2) 40))), (V.con (.int .u8 ((p.2) 41))), (V.con (.int .u8 ((p.2) 42))), (V.con (.int .u8 ((p.2) 43))), (V.con (.int .u8 ((p.2) 44))), (V.con (.int .u8 ((p.2) 45))), (V.con (.int .u8 ((p.2) 46))), (V.con (.int .u8 ((p.2) 47))), (V.con (.int .u8 ((p.2) 48))), (V.con (.int .u8 ((p.2) 49))), (V.con (.int .u8 ((p.2) 50))), (V.con (.int .u8 ((p.2) 51))), (V.con (.int .u8 ((p.2) 52))), (V.con (.int .u8 ((p.2) 53))), (V.con (.int .u8 ((p.2) 54))), (V.con (.int .u8 ((p.2) 55))), (V.con (.int .u8 ((p.2) 56))), (V.con (.int .u8 ((p.2) 57))), (V.con (.int .u8 ((p.2) 58))), (V.con (.int .u8 ((p.2) 59))), (V.con (.int .u8 ((p.2) 60))), (V.con (.int .u8 ((p.2) 61))), (V.con (.int .u8 ((p.2) 62))), (V.con (.int .u8 ((p.2) 63))), (V.con (.int .u8 ((p.2) 64)))]]))], 1⟩ : St)) (fun k56 (p : Int × (Nat → Int)) => k56 p.1 p.2 = some r) (fun k56 h => ?_) ?_
  · refine spC h rfl (fun hb59 h => ?_) (fun hb59 h => ?_)
    · refine rn 8 rfl ?_
      refine ck h (fun hc60 h => ?_)
      refine aops_index_arr tArr204 wants_none rfl rfl hc60.1 hc60.2 rfl ?_
      refine aops_store [(V.con (.int .u8 45))] [[(V.con (.int .u8 ((upd f16 (w64 (n15 - 1)).toNat 45) 0))), (V.con (.int .u8 ((upd f16 (w64 (n15 - 1)).toNat 45) 1))), (V.con (.int .u8 ((upd f16 (w64 (n15 - 1)).toNat 45) 2))), (V.con (.int .u8 ((upd f16 (w64 (n15 - 1)).toNat 45) 3))), (V.con (.int .u8 ((upd f16 (w64 (n15 - 1)).toNat 45) 4))), (V.con (.int .u8 ((upd f16 (w64 (n15 - 1)).toNat 45) 5))), (V.con (.int .u8 ((upd f16 (w64 (n15 - 1)).toNat 45) 6))), (V.con (.int .u8 ((upd f16 (w64 (n15 - 1)).toNat 45) 7))), (V.con (.int .u8 ((upd f16 (w64 (n15 - 1)).toNat 45) 8))), (V.con (.int .u8 ((upd f16 (w64 (n15 - 1)).toNat 45) 9))), (V.con (.int .u8 ((upd f16 (w64 (n15 - 1)).toNat 45) 10))), (V.con (.int .u8 ((upd f16 (w64 (n15 - 1)).toNat 45) 11))), (V.con (.int .u8 ((upd f16 (w64 (n15 - 1)).toNat 45) 12))), (V.con (.int .u8 ((upd f16 (w64 (n15 - 1)).toNat 45) 13))), (V.con (.int .u8 ((upd f16 (w64 (n15 - 1)).toNat 45) 14))), (V.con (.int .u8 ((upd f16 (w64 (n15 - 1)).toNat 45) 15))), (V.con (.int .u8 ((upd f16 (w64 (n15 - 1)).toNat 45) 16))), (V.con (.int .u8 ((upd f16 (w64 (n15 - 1)).toNat 45) 17))), (V.con (.int .u8 ((upd f16 (w64 (n15 - 1)).toNat 45) 18))), (V.con (.int .u8 ((upd f16 (w64 (n15 - 1)).toNat 45) 19))), (V.con (.int .u8 ((upd f16 (w64 (n15 - 1)).toNat 45) 20))), (V.con (.int .u8 ((upd f16 (w64 (n15 - 1)).toNat 45) 21))), (V.con (.int .u8 ((upd f16 (w64 (n15 - 1)).toNat 45) 22))), (V.con (.int .u8 ((upd f16 (w64 (n15 - 1)).toNat 45) 23))), (V.con (.int .u8 ((upd f16 (w64 (n15 - 1)).toNat 45) 24))), (V.con (.int .u8 ((upd f16 (w64 (n15 - 1)).toNat 45) 25))), (V.con (.int .u8 ((upd f16 (w64 (n15 - 1)).toNat 45) 26))), (V.con (.int .u8 ((upd f16 (w64 (n15 - 1)).toNat 45) 27))), (V.con (.int .u8 ((upd f16 (w64 (n15 - 1)).toNat 45) 28))), (V.con (.int .u8 ((upd f16 (w64 (n15 - 1)).toNat 45) 29))), (V.con (.int .u8 ((upd f16 (w64 (n15 - 1)).toNat 45) 30))), (V.con (.int .u8 ((upd f16 (w64 (n15 - 1)).toNat 45) 31))), (V.con (.int .u8 ((upd f16 (w64 (n15 - 1)).toNat 45) 32))), (V.con (.int .u8 ((upd f16 (w64 (n15 - 1)).toNat 45) 33))), (V.con (.int .u8 ((upd f16 (w64 (n15 - 1)).toNat 45) 34))), (V.con (.int .u8 ((upd f16 (w64 (n15 - 1)).toNat 45) 35))), (V.con (.int .u8 ((upd f16 (w64 (n15 - 1)).toNat 45) 36))), (V.con (.int .u8 ((upd f16 (w64 (n15 - 1)).toNat 45) 37))), (V.con (.int .u8 ((upd f16 (w64 (n15 - 1)).toNat 45) 38))), (V.con (.int .u8 ((upd f16 (w64 (n15 - 1)).toNat 45) 39))), (V.con (.int .u8 ((upd f16 (w64 (n15 - 1)).toNat 45) 40))), (V.con (.int .u8 ((upd f16 (w64 (n15 - 1)).toNat 45) 41))), (V.con (.int .u8 ((upd f16 (w64 (n15 - 1)).toNat 45) 42))), (V.con (.int .u8 ((upd f16 (w64 (n15 - 1)).toNat 45) 43))), (V.con (.int .u8 ((upd f16 (w64 (n15 - 1)).toNat 45) 44))), (V.con (.int .u8 ((upd f16 (w64 (n15 - 1)).toNat 45) 45))), (V.con (.int .u8 ((upd f16 (w64 (n15 - 1)).toNat 45) 46))), (V.con (.int .u8 ((upd f16 (w64 (n15 - 1)).toNat 45) 47))), (V.con (.int .u8 ((upd f16 (w64 (n15 - 1)).toNat 45) 48))), (V.con (.int .u8 ((upd f16 (w64 (n15 - 1)).toNat 45) 49))), (V.con (.int .u8 ((upd f16 (w64 (n15 - 1)).toNat 45) 50))), (V.con (.int .u8 ((upd f16 (w64 (n15 - 1)).toNat 45) 51))), (V.con (.int .u8 ((upd f16 (w64 (n15 - 1)).toNat 45) 52))), (V.con (.int .u8 ((upd f16 (w64 (n15 - 1)).toNat 45) 53))), (V.con (.int .u8 ((upd f16 (w64 (n15 - 1)).toNat 45) 54))), (V.con (.int .u8 ((upd f16 (w64 (n15 - 1)).toNat 45) 55))), (V.con (.int .u8 ((upd f16 (w64 (n15 - 1)).toNat 45) 56))), (V.con (.int .u8 ((upd f16 (w64 (n15 - 1)).toNat 45) 57))), (V.con (.int .u8 ((upd f16 (w64 (n15 - 1)).toNat 45) 58))), (V.con (.int .u8 ((upd f16 (w64 (n15 - 1)).toNat 45) 59))), (V.con (.int .u8 ((upd f16 (w64 (n15 - 1)).toNat 45) 60))), (V.con (.int .u8 ((upd f16 (w64 (n15 - 1)).toNat 45) 61))), (V.con (.int .u8 ((upd f16 (w64 (n15 - 1)).toNat 45) 62))), (V.con (.int .u8 ((upd f16 (w64 (n15 - 1)).toNat 45) 63))), (V.con (.int .u8 ((upd f16 (w64 (n15 - 1)).toNat 45) 64)))]] tS5 wants_none rfl rfl rfl rfl rfl rfl (arr_ble hc60.2 (by simp)) (congrArg (fun r => [r]) (arr_set [] [] (fun x => (V.con (.int .u8 x))) f16 45 hc60.2 rfl (by simp))) ?_
      refine fo (rn 1 rfl ?_)
      exact jX ((w64 (n15 - 1)), (upd f16 (w64 (n15 - 1)).toNat 45)) h (gr [0] rfl (hB rfl rfl rfl .nil) rfl)
    refine rn 1 rfl ?_
    exact jX (n15, f16) h (gr [0] rfl (hB rfl rfl rfl .nil) rfl)
  rintro ⟨n57, f58⟩ h
  refine rn 5 rfl ?_
  refine spC h rfl (fun hb61 h => ?_) (fun hb61 h => ?_)
  · exact absurd h (by simp)
  refine rn 4 rfl ?_
  refine aops_ghost (ghost_frzP 0 12 rfl (imms_rows (.cons (.cons (Imm.con _) (.cons (Imm.con _) (.cons (Imm.con _) (.cons (Imm.con _) (.cons (Imm.con _) (.cons (Imm.con _) (.cons (Imm.con _) (.cons (Imm.con _) (.cons (Imm.con _) (.cons (Imm.con _) (.cons (Imm.con _) (.cons (Imm.con _) (.cons (Imm.con _) (.cons (Imm.con _) (.cons (Imm.con _) (.cons (Imm.con _) (.cons (Imm.con _) (.cons (Imm.con _) (.cons (Imm.con _) (.cons (Imm.con _) (.cons (Imm.con _) (.cons (Imm.con _) (.cons (Imm.con _) (.cons (Imm.con _) (.cons (Imm.con _) (.cons (Imm.con _) (.cons (Imm.con _) (.cons (Imm.con _) (.cons (Imm.con _) (.cons (Imm.con _) (.cons (Imm.con _) (.cons (Imm.con _) (.cons (Imm.con _) (.cons (Imm.con _) (.cons (Imm.con _) (.cons (Imm.con _) (.cons (Imm.con _) (.cons (Imm.con _) (.cons (Imm.con _) (.cons (Imm.con _) (.cons (Imm.con _) (.cons (Imm.con _) (.cons (Imm.con _) (.cons (Imm.con _) (.cons (Imm.con _) (.cons (Imm.con _) (.cons (Imm.con _) (.cons (Imm.con _) (.cons (Imm.con _) (.cons (Imm.con _) (.cons (Imm.con _) (.cons (Imm.con _) (.cons (Imm.con _) (.cons (Imm.con _) (.cons (Imm.con _) (.cons (Imm.con _) (.cons (Imm.con _) (.cons (Imm.con _) (.cons (Imm.con _) (.cons (Imm.con _) (.cons (Imm.con _) (.cons (Imm.con _) (.cons (Imm.con _) (.cons (Imm.con _) (.cons (Imm.con _) .nil))))))))))))))))))))))))))))))))))))))))))))))))))))))))))))))))) .nil)) rfl rfl) ?_
  refine ck h (fun hc63 h => ?_)
  refine aops_slice_iarr (a0 := n57.toNat) ((((List.range 65).map f58).drop n57.toNat).map encI_u8) tArr204 rfl wants_none rfl ⟨_, by rw [Int.toNat_of_nonneg hc63.1]; exact rfl⟩ hc63.2 (by simp) (arr_end f58 (fun x => (V.con (.int .u8 x))) 65 _ hc63.2) rfl ?_
  refine aops_bytesStr (((List.range 65).map f58).drop n57.toNat) tBy168 tStr9 wants_none rfl rfl ?_
  refine fo (rn 2 rfl ?_)
  exact rt h rfl
theorem W100 (F : Nat) (a1 : Int) (a2 : Int) (r : (List UInt8)) (h : M100 F a1 a2 = some r) : PureG gl Tryz.prog 100 [(V.con (.int .u64 a1)), (iV a2)] (sV r) := by
  refine pin (fun r => (sV r)) r rfl Tryz.func100 rfl rfl rfl rfl rfl (fun w0 m0 hg => ?_)
  unfold M100 at h
  refine rn 10 rfl ?_
  refine spC h rfl (fun hb3 h => ?_) (fun hb3 h => ?_)
  · refine rn 6 rfl ?_
    refine spC h rfl (fun hb4 h => ?_) (fun hb4 h => ?_)
    · refine rn 4 rfl ?_
      refine cl h rfl rfl rfl (W113 _ _) rfl (fun y5 hx6 h => ?_)
      refine rn 2 rfl ?_
      exact rt h rfl
    exact absurd h (by simp)
  refine rn 5 rfl ?_
  refine cl h rfl rfl rfl (W116 _ _ _ _ _ _) rfl (fun y9 hx10 h => ?_)
  refine rn 11 rfl ?_
  exact rt h rfl
theorem W88 (F : Nat) (a1 : Int) (a2 : Int) (r : (List UInt8)) (h : M88 F a1 a2 = some r) : PureG gl Tryz.prog 88 [(V.con (.int .u64 a1)), (iV a2)] (sV r) := by
  refine pin (fun r => (sV r)) r rfl Tryz.func88 rfl rfl rfl rfl rfl (fun w0 m0 hg => ?_)
  unfold M88 at h
  refine rn 8 rfl ?_
  refine cl h rfl rfl rfl (W100 _ _ _) rfl (fun y3 hx4 h => ?_)
  refine rn 2 rfl ?_
  exact rt h rfl
theorem W89 (F : Nat) (a1 : (List UInt8)) (a2 : Int) (r : (List UInt8)) (h : M89 F a1 a2 = some r) : PureG gl Tryz.prog 89 [(sV a1), (iV a2)] (sV r) := by
  unfold M89 at h
  obtain ⟨hc, h⟩ := chk_some h
  replace h := Option.some.inj h
  subst h
  exact pure_repeat hc (fun w m hm hl => Go.Proofs.Any.strings_Repeat Go.Proofs.Tryz.lays105 Go.Proofs.Tryz.Builder_Extra_105 _ m w hm hl)
theorem W68 (F : Nat) (a1 : (List UInt8)) (r : (List UInt8)) (h : M68 F a1 = some r) : PureG gl Tryz.prog 68 [(sV a1)] (sV r) := by
  refine pin (fun r => (sV r)) r rfl Tryz.func68 rfl rfl rfl rfl rfl (fun w0 m0 hg => ?_)
  unfold M68 at h
  refine rn 15 rfl ?_
  refine jK h (fun (p : Int) => (⟨[(3, (V.con (.int .u64 p)))], [], 0⟩ : St)) (fun k2 (p : Int) => k2 p = some r) (fun k2 h => ?_) ?_
  · refine rn 1 rfl ?_
    refine ck h (fun hA11 h => ?_)
    refine lC (fun (p : Int × Int) => (⟨[(0, (sV a1)), (3, (V.con (.int .u64 (p.1)))), (7, (iV (a1.length : Int))), (8, (iV (p.2)))], [], 0⟩ : St)) (fun n (p : Int × Int) => RC (a1.length : Int) (fun tl nn => M68_L1 F a1 k2 tl nn p.1 = some r) n p.2) (fun p h => RC.zero h) (Int.toNat (a1.length : Int) + 1) (14695981039346656037, 0) (RC.start h) (g0 rfl rfl) (fun n p h => ?_)
    obtain ⟨n6, n7⟩ := p
    refine rn 5 rfl ?_
    refine spL rfl (fun hb8 => ?_) (fun hb8 => ?_)
    · obtain ⟨tl, h, hk1⟩ := RC.t hA11 h hb8
      unfold M68_L1 at h
      refine rn 12 rfl ?_
      refine ixs h rfl rfl (fun c9 hx10 h => ?_)
      refine rn 10 rfl ?_
      exact jX ((IntKind.wrap .u64 ((IntKind.wrap .u64 ((BitVec.ofInt (IntKind.bits .u64) n6 ^^^ BitVec.ofInt (IntKind.bits .u64) (IntKind.wrap .u64 (c9.toNat : Int))).toNat : Int)) * 1099511628211)), (w64 (n7 + 1))) (hk1 _ h) (g0 rfl rfl)
    replace h := RC.f h hb8
    unfold M68_L1 at h
    refine rn 1 rfl ?_
    exact jX n6 h (g0 rfl rfl)
  intro n3 h
  refine rn 3 rfl ?_
  refine cl h rfl rfl rfl (W88 _ _ _) rfl (fun y12 hx13 h => ?_)
  refine rn 7 rfl ?_
  refine cl h rfl rfl rfl (W89 _ _ _) rfl (fun y14 hx15 h => ?_)
  refine rn 1 rfl ?_
  refine ck h (fun hc16 h => ?_)
  refine aops_binT (str (y14 ++ y12)) wants_none rfl rfl (if_pos hc16) rfl ?_
  refine fo (rn 2 rfl ?_)
  exact rt h rfl
theorem W39 (F : Nat) (a1 : (List UInt8)) (r : (List UInt8)) (h : M39 F a1 = some r) : PureG gl Tryz.prog 39 [(sV a1)] (sV r) := by
  refine pin (fun r => (sV r)) r rfl Tryz.func39 rfl rfl rfl rfl rfl (fun w0 m0 hg => ?_)
  unfold M39 at h
  refine rn 7 rfl ?_
  refine ck h (fun hc2 h => ?_)
  refine aops_binT (str (([0] : List UInt8) ++ a1)) wants_none rfl rfl (if_pos hc2) rfl ?_
  refine fo ?_
  refine cl h rfl rfl rfl (W68 _ _) rfl (fun y3 hx4 h => ?_)
  refine rn 2 rfl ?_
  exact rt h rfl
theorem W15 (F : Nat) (a1 : (List UInt8)) (a2 : List (List UInt8)) (r : (Int × Int × (List (List UInt8)))) (h : M15 F a1 a2 = some r) : MutG gl Tryz.prog 15 [(V.ptr 0 1 0 0), (sV a1)] 2 [(0, (Ob.arr 95 1 [[(V.own 1 a2.length)]])), (1, (Ob.arr 9 1 (a2.map encS)))] (resV [(iV (r.1)), (iV (r.2.1))]) 3 [(0, (Ob.arr 95 1 [[(V.own 2 (r.2.2).length)]])), (1, Ob.dead), (2, (Ob.arr 9 1 ((r.2.2).map encS)))] := by
  refine mut_enter Tryz.func15 rfl rfl (l := [.tmp 4, .tmp 5]) rfl rfl [(0, (V.ptr 0 1 0 0)), (1, (sV a1))] rfl (fun w0 m0 β0 hg => en ?_)
  unfold M15 at h
  refine rn 12 rfl ?_
  refine spO 9 h rfl (fun hb11 h => ?_) (fun hb11 h => ?_)
  · refine rn 14 rfl ?_
    replace h := Option.some.inj h
    subst h
    exact wR ⟨.inl rfl, [(4, (iV 0)), (5, (iV 3))], (Ghost.trans (ghost_mvC 1 0 2 9 1 (Ob.arr 95 1 [[(V.own 2 a2.length)]]) rfl rfl rfl (ObSub.box (.cons Sub.mv .nil)) rfl rfl) (gr [0, 1, 2] rfl (hB rfl rfl rfl (hD rfl (hR rfl rfl .nil))) rfl)), (.cons (.tmp rfl) (.cons (.tmp rfl) .nil))⟩
  refine rn 8 rfl ?_
  refine spC h rfl (fun hb12 h => ?_) (fun hb12 h => ?_)
  · refine rn 5 rfl ?_
    replace h := Option.some.inj h
    subst h
    exact wR ⟨.inl rfl, [(4, (iV 0)), (5, (iV 3))], (Ghost.trans (ghost_mvC 1 0 2 9 1 (Ob.arr 95 1 [[(V.own 2 a2.length)]]) rfl rfl rfl (ObSub.box (.cons Sub.mv .nil)) rfl rfl) (gr [0, 1, 2] rfl (hB rfl rfl rfl (hD rfl (hR rfl rfl .nil))) rfl)), (.cons (.tmp rfl) (.cons (.tmp rfl) .nil))⟩
  obtain ⟨y13, hx14, h⟩ := bind_some h
  refine rn 2 rfl ?_
  refine ck h (fun hc15 h => ?_)
  refine awp_ghost ghost_res ?_
  refine fa ?_
  refine dr mixed (vs 6 rfl (cD rfl rfl rfl rfl (W39 _ _ _ hx14) rfl (xD (OD.mk [(23, (sV y13))] [] [(24, (V.lst 1 (([y13] : List (List UInt8)).map encS)))] []) ⟨⟨rfl, trivial⟩, trivial⟩ (by exact fun S hn h hh => aops_buildSlice_imm [(0, (sV y13))] [[(sV y13)]] tEl50 tZ9 wants_none rfl rfl rfl rfl (evp_cons h.1 evp_nil) rfl rfl (by simp) (imms_rows (.cons (.cons (Imm.con _) .nil) .nil)) rfl (aops_nil ⟨rfl, rfl⟩)) rfl (xD (OD.mk [(21, (V.own 1 a2.length)), (24, (V.lst 1 (([y13] : List (List UInt8)).map encS)))] [(1, (Ob.arr 9 1 (a2.map encS))), (2, Ob.res)] [(25, (V.own 2 (a2 ++ ([y13] : List (List UInt8))).length))] [(2, (Ob.arr 9 1 ((a2 ++ ([y13] : List (List UInt8))).map encS))), (1, Ob.dead)]) ⟨⟨rfl, rfl, trivial⟩, ⟨rfl, rfl, trivial⟩⟩ (by exact fun S hn h hh => aops_append_at 2 rfl hn hh.2.1 (([y13] : List (List UInt8)).map encS) ((a2 ++ ([y13] : List (List UInt8))).map encS) tEl50 tIsSl50 rfl rfl wants_none h.1 hh.1 (by simp) h.2.1 (.lst (rows_one one_encS)) (map_snoc encS a2 ([y13] : List (List UInt8))) (List.length_map ..) hc15 rfl (aops_nil ⟨rfl, rfl⟩)) rfl (vs 3 rfl .nil))))) (by kernel_rfl) ?_
  refine rn 11 rfl ?_
  replace h := Option.some.inj h
  subst h
  exact wR ⟨.inl rfl, [(4, (iV (w64 ((((a2 ++ ([y13] : List (List UInt8))).length : Nat) : Int) - 1)))), (5, (iV 0))], (gr [0, 1, 2] rfl (hB rfl rfl rfl (hD rfl (hR rfl rfl .nil))) rfl), (.cons (.tmp rfl) (.cons (.tmp rfl) .nil))⟩
theorem W7 (F : Nat) (r : Bool) (h : M7 F = some r) : PureG gl Tryz.prog 7 [] (bV r) := by
  unfold M7 at h
  replace h := Option.some.inj h
  subst h
  exact told_pure
theorem W16 (F : Nat) (a1 : List (List UInt8)) (r : Unit) (h : M16 F a1 = some r) : MutG gl Tryz.prog 16 [(V.ptr 0 1 0 0)] 2 [(0, (Ob.arr 95 1 [[(V.own 1 a1.length)]])), (1, (Ob.arr 9 1 (a1.map encS)))] (resV [(iV ((a1.length : Nat) : Int))]) 2 [(0, (Ob.arr 95 1 [[(V.own 1 a1.length)]])), (1, (Ob.arr 9 1 (a1.map encS)))] := by
  refine mut_enter Tryz.func16 rfl rfl (l := [.tmp 2]) rfl rfl [(0, (V.ptr 0 1 0 0))] rfl (fun w0 m0 β0 hg => en ?_)
  unfold M16 at h
  refine rn 13 rfl ?_
  replace h := Option.some.inj h
  subst h
  exact wR ⟨.inl rfl, [(2, (iV ((a1.length : Nat) : Int)))], (gr [0, 1] rfl (hB rfl rfl rfl (hR rfl rfl .nil)) rfl), (.cons (.tmp rfl) .nil)⟩
theorem W69 (F : Nat) (a1 : Int) (r : Int) (h : M69 F a1 = some r) : PureG gl Tryz.prog 69 [(iV a1)] (iV r) := by
  refine pin (fun r => (iV r)) r rfl Tryz.func69 rfl rfl rfl rfl rfl (fun w0 m0 hg => ?_)
  unfold M69 at h
  refine rn 9 rfl ?_
  refine jK h (fun (p : Int) => (⟨[(3, (iV p))], [], 0⟩ : St)) (fun k2 (p : Int) => k2 p = some r) (fun k2 h => ?_) ?_
  · refine rn 1 rfl ?_
    refine lC (fun (p : Int) => (⟨[(0, (iV a1)), (3, (iV p))], [], 0⟩ : St)) (fun n (p : Int) => M69_L1 F a1 k2 n p = some r) (fun p h => by simp [M69_L1] at h) F 1 h (g0 rfl rfl) (fun n n5 h => ?_)
    unfold M69_L1 at h
    refine rn 8 rfl ?_
    refine spC h rfl (fun hb6 h => ?_) (fun hb6 h => ?_)
    · refine rn 8 rfl ?_
      exact jX (w64 (n5 * 2)) h (g0 rfl rfl)
    refine rn 1 rfl ?_
    exact jX n5 h (g0 rfl rfl)
  intro n3 h
  refine rn 5 rfl ?_
  exact rt h rfl
theorem W70 (F : Nat) (a1 : (List UInt8)) (a2 : (List UInt8)) (r : (List UInt8)) (h : M70 F a1 a2 = some r) : PureG gl Tryz.prog 70 [(sV a1), (sV a2)] (sV r) := by
  refine pin (fun r => (sV r)) r rfl Tryz.func70 rfl rfl rfl rfl rfl (fun w0 m0 hg => ?_)
  unfold M70 at h
  refine rn 7 rfl ?_
  refine ck h (fun hc3 h => ?_)
  refine aops_binT (str (([1] : List UInt8) ++ a1)) wants_none rfl rfl (if_pos hc3) rfl ?_
  refine fo (rn 1 rfl ?_)
  refine ck h (fun hc4 h => ?_)
  refine aops_binT (str ((([1] : List UInt8) ++ a1) ++ a2)) wants_none rfl rfl (if_pos hc4) rfl ?_
  refine fo ?_
  refine cl h rfl rfl rfl (W68 _ _) rfl (fun y5 hx6 h => ?_)
  refine rn 2 rfl ?_
  exact rt h rfl
theorem W40_B (R40 : (List (List UInt8)) → Option (List UInt8)) (hR40 : ∀ (a1 : (List (List UInt8))) (r : (List UInt8)), R40 a1 = some r → PureG gl Tryz.prog 40 [(V.lst 1 (a1.map encS))] (sV r)) (F : Nat) (a1 : (List (List UInt8))) (r : (List UInt8)) (h : M40_B R40 F a1 = some r) : PureG gl Tryz.prog 40 [(V.lst 1 (a1.map encS))] (sV r) := by
  refine pin (fun r => (sV r)) r rfl Tryz.func40 rfl rfl rfl rfl rfl (fun w0 m0 hg => ?_)
  unfold M40_B at h
  refine rn 8 rfl ?_
  refine ln rfl rfl ?_
  refine rn 7 rfl ?_
  refine spC h rfl (fun hb2 h => ?_) (fun hb2 h => ?_)
  · refine rn 2 rfl ?_
    refine cl h rfl rfl rfl (W68 _ _) rfl (fun y3 hx4 h => ?_)
    refine rn 2 rfl ?_
    exact rt h rfl
  refine rn 5 rfl ?_
  refine spC h rfl (fun hb5 h => ?_) (fun hb5 h => ?_)
  · refine rn 3 rfl ?_
    refine ixl h rfl rfl (fun x6 hx7 h => ?_)
    refine rn 3 rfl ?_
    exact rt h rfl
  refine rn 5 rfl ?_
  refine ln rfl rfl ?_
  refine cl h rfl rfl rfl (W69 _ _) rfl (fun y8 hx9 h => ?_)
  refine rn 3 rfl ?_
  refine ck h (fun hc10 h => ?_)
  obtain ⟨y11, hx12, h⟩ := bind_some h
  refine ck h (fun hc13 h => ?_)
  obtain ⟨y14, hx15, h⟩ := bind_some h
  obtain ⟨y16, hx17, h⟩ := bind_some h
  refine dr mixed (vs 2 rfl (xD (OD.mk [(17, (V.lst 1 (a1.map encS))), (18, (iV y8))] [] [(19, (V.lst 1 ((a1.take y8.toNat).map encS)))] []) ⟨⟨rfl, rfl, trivial⟩, trivial⟩ (by exact fun S hn h hh => aops_slice_lst (0) (y8.toNat) ((a1.take y8.toNat).map encS) tSl50 wants_none h.1 rfl ⟨_, (by rw [Int.toNat_of_nonneg hc10.1]; exact h.2.1)⟩ (Nat.zero_le _) (by simpa using hc10.2) slL_lo rfl (aops_nil ⟨rfl, rfl⟩)) rfl (cD rfl rfl rfl rfl (hR40 _ _ hx12) rfl (vs 2 rfl (xD (OD.mk [(21, (V.lst 1 (a1.map encS))), (22, (iV y8))] [] [(23, (V.lst 1 ((a1.drop y8.toNat).map encS)))] []) ⟨⟨rfl, rfl, trivial⟩, trivial⟩ (by exact fun S hn h hh => aops_slice_lst (y8.toNat) (a1.length) ((a1.drop y8.toNat).map encS) tSl50 wants_none h.1 ⟨_, (by rw [Int.toNat_of_nonneg hc13.1]; exact h.2.1)⟩ (List.length_map ..).symm hc13.2 (Nat.le_of_eq (List.length_map ..).symm) slL_hi rfl (aops_nil ⟨rfl, rfl⟩)) rfl (cD rfl rfl rfl rfl (hR40 _ _ hx15) rfl (cD rfl rfl rfl rfl (W70 _ _ _ _ hx17) rfl (vs 1 rfl .nil)))))))) (by kernel_rfl) ?_
  exact rt h rfl
theorem W40 : ∀ (F : Nat) (a1 : (List (List UInt8))) (r : (List UInt8)) (h : M40 F a1 = some r), PureG gl Tryz.prog 40 [(V.lst 1 (a1.map encS))] (sV r) := by
  intro F
  induction F with
  | zero => intros; simp [M40] at *
  | succ F ih => exact fun a1 r h => W40_B (M40 F) ih F a1 r h
theorem W17 (F : Nat) (a1 : Int) (a2 : List (List UInt8)) (r : ((List UInt8) × Int)) (h : M17 F a1 a2 = some r) : MutG gl Tryz.prog 17 [(V.ptr 0 1 0 0), (iV a1)] 2 [(0, (Ob.arr 95 1 [[(V.own 1 a2.length)]])), (1, (Ob.arr 9 1 (a2.map encS)))] (resV [(sV (r.1)), (iV (r.2))]) 2 [(0, (Ob.arr 95 1 [[(V.own 1 a2.length)]])), (1, (Ob.arr 9 1 (a2.map encS)))] := by
  refine mut_enter Tryz.func17 rfl rfl (l := [.tmp 4, .tmp 5]) rfl rfl [(0, (V.ptr 0 1 0 0)), (1, (iV a1))] rfl (fun w0 m0 β0 hg => en ?_)
  unfold M17 at h
  refine rn 11 rfl ?_
  refine spO 8 h rfl (fun hb10 h => ?_) (fun hb10 h => ?_)
  · refine rn 15 rfl ?_
    replace h := Option.some.inj h
    subst h
    exact wR ⟨.inl rfl, [(4, (sV ([] : List UInt8))), (5, (iV 9))], (gr [0, 1] rfl (hB rfl rfl rfl (hR rfl rfl .nil)) rfl), (.cons (.tmp rfl) (.cons (.tmp rfl) .nil))⟩
  refine rn 9 rfl ?_
  refine spC h rfl (fun hb11 h => ?_) (fun hb11 h => ?_)
  · refine rn 5 rfl ?_
    replace h := Option.some.inj h
    subst h
    exact wR ⟨.inl rfl, [(4, (sV ([] : List UInt8))), (5, (iV 9))], (gr [0, 1] rfl (hB rfl rfl rfl (hR rfl rfl .nil)) rfl), (.cons (.tmp rfl) (.cons (.tmp rfl) .nil))⟩
  refine rn 8 rfl ?_
  refine ck h (fun hc12 h => ?_)
  refine aops_slice_ownhi (b0 := a1.toNat) (rows := a2.map encS) tSl50 wants_none rfl rfl (by simp) ⟨_, (by rw [Int.toNat_of_nonneg hc12.1]; exact rfl)⟩ hc12.2 rfl ?_
  obtain ⟨y13, hx14, h⟩ := bind_some h
  refine aops_lend_call (sV y13) [(V.lst 1 ((a2.take a1.toNat).map encS))] fOk40 (ghost_frzEt 1 22 rfl (rows_imm imms_encS) rfl (by simp; omega) (List.map_take ..).symm) (Flat.con _) wants_none (evm_cons rfl evm_nil) (.cons (Imm.lst _ _) .nil) (W40 F (a2.take a1.toNat) y13 hx14) rfl ?_
  refine fo (rn 3 rfl ?_)
  replace h := Option.some.inj h
  subst h
  exact wR ⟨.inl rfl, [(4, (sV y13)), (5, (iV 0))], (gr [0, 1] rfl (hB rfl rfl rfl (hR rfl rfl .nil)) rfl), (.cons (.tmp rfl) (.cons (.tmp rfl) .nil))⟩
theorem W18 (F : Nat) (a1 : (List UInt8)) (r : ((List UInt8) × Int)) (h : M18 F a1 = some r) : PureG gl Tryz.prog 18 [(sV a1)] (V.tup [(sV (r.1)), (iV (r.2))]) := by
  refine pin (fun r => (V.tup [(sV (r.1)), (iV (r.2))])) r rfl Tryz.func18 rfl rfl rfl rfl rfl (fun w0 m0 hg => ?_)
  unfold M18 at h
  refine rn 12 rfl ?_
  refine spC h rfl (fun hb2 h => ?_) (fun hb2 h => ?_)
  · refine rn 5 rfl ?_
    exact rt h rfl
  refine rn 4 rfl ?_
  refine cl h rfl rfl rfl (W39 _ _) rfl (fun y3 hx4 h => ?_)
  refine rn 3 rfl ?_
  exact rt h rfl
theorem W73 (F : Nat) (a1 : (List UInt8)) (r : ((Nat → Int) × Bool)) (h : M73 F a1 = some r) : PureG gl Tryz.prog 73 [(sV a1)] (V.tup [(V.agg [(V.con (.int .u8 ((r.1) 0))), (V.con (.int .u8 ((r.1) 1))), (V.con (.int .u8 ((r.1) 2))), (V.con (.int .u8 ((r.1) 3))), (V.con (.int .u8 ((r.1) 4))), (V.con (.int .u8 ((r.1) 5))), (V.con (.int .u8 ((r.1) 6))), (V.con (.int .u8 ((r.1) 7))), (V.con (.int .u8 ((r.1) 8))), (V.con (.int .u8 ((r.1) 9))), (V.con (.int .u8 ((r.1) 10))), (V.con (.int .u8 ((r.1) 11))), (V.con (.int .u8 ((r.1) 12))), (V.con (.int .u8 ((r.1) 13))), (V.con (.int .u8 ((r.1) 14))), (V.con (.int .u8 ((r.1) 15)))]), (bV (r.2))]) := by
  refine pin (fun r => (V.tup [(V.agg [(V.con (.int .u8 ((r.1) 0))), (V.con (.int .u8 ((r.1) 1))), (V.con (.int .u8 ((r.1) 2))), (V.con (.int .u8 ((r.1) 3))), (V.con (.int .u8 ((r.1) 4))), (V.con (.int .u8 ((r.1) 5))), (V.con (.int .u8 ((r.1) 6))), (V.con (.int .u8 ((r.1) 7))), (V.con (.int .u8 ((r.1) 8))), (V.con (.int .u8 ((r.1) 9))), (V.con (.int .u8 ((r.1) 10))), (V.con (.int .u8 ((r.1) 11))), (V.con (.int .u8 ((r.1) 12))), (V.con (.int .u8 ((r.1) 13))), (V.con (.int .u8 ((r.1) 14))), (V.con (.int .u8 ((r.1) 15)))]), (bV (r.2))])) r rfl Tryz.func73 rfl rfl rfl rfl rfl (fun w0 m0 hg => ?_)
  unfold M73 at h
  refine rn 16 rfl ?_
  refine spC h rfl (fun hb2 h => ?_) (fun hb2 h => ?_)
  · refine rn 6 rfl ?_
    exact rt h rfl
  refine rn 8 rfl ?_
  refine jK h (fun (p : (Nat → Int)) => (⟨[(2, (V.ptr 0 16 0 0)), (4, (V.ptr 1 16 0 0))], [(0, (Ob.arr 137 16 [[(V.con (.int .u8 0)), (V.con (.int .u8 0)), (V.con (.int .u8 0)), (V.con (.int .u8 0)), (V.con (.int .u8 0)), (V.con (.int .u8 0)), (V.con (.int .u8 0)), (V.con (.int .u8 0)), (V.con (.int .u8 0)), (V.con (.int .u8 0)), (V.con (.int .u8 0)), (V.con (.int .u8 0)), (V.con (.int .u8 0)), (V.con (.int .u8 0)), (V.con (.int .u8 0)), (V.con (.int .u8 0))]])), (1, (Ob.arr 137 16 [[(V.con (.int .u8 (p 0))), (V.con (.int .u8 (p 1))), (V.con (.int .u8 (p 2))), (V.con (.int .u8 (p 3))), (V.con (.int .u8 (p 4))), (V.con (.int .u8 (p 5))), (V.con (.int .u8 (p 6))), (V.con (.int .u8 (p 7))), (V.con (.int .u8 (p 8))), (V.con (.int .u8 (p 9))), (V.con (.int .u8 (p 10))), (V.con (.int .u8 (p 11))), (V.con (.int .u8 (p 12))), (V.con (.int .u8 (p 13))), (V.con (.int .u8 (p 14))), (V.con (.int .u8 (p 15)))]]))], 2⟩ : St)) (fun k3 (p : (Nat → Int)) => k3 p = some r) (fun k3 h => ?_) ?_
  · refine rn 1 rfl ?_
    refine ck h (fun hA28 h => ?_)
    refine lC (fun (p : Int × (Nat → Int)) => (⟨[(0, (sV a1)), (2, (V.ptr 0 16 0 0)), (4, (V.ptr 1 16 0 0)), (12, (iV (a1.length : Int))), (13, (iV (p.1)))], [(0, (Ob.arr 137 16 [[(V.con (.int .u8 0)), (V.con (.int .u8 0)), (V.con (.int .u8 0)), (V.con (.int .u8 0)), (V.con (.int .u8 0)), (V.con (.int .u8 0)), (V.con (.int .u8 0)), (V.con (.int .u8 0)), (V.con (.int .u8 0)), (V.con (.int .u8 0)), (V.con (.int .u8 0)), (V.con (.int .u8 0)), (V.con (.int .u8 0)), (V.con (.int .u8 0)), (V.con (.int .u8 0)), (V.con (.int .u8 0))]])), (1, (Ob.arr 137 16 [[(V.con (.int .u8 ((p.2) 0))), (V.con (.int .u8 ((p.2) 1))), (V.con (.int .u8 ((p.2) 2))), (V.con (.int .u8 ((p.2) 3))), (V.con (.int .u8 ((p.2) 4))), (V.con (.int .u8 ((p.2) 5))), (V.con (.int .u8 ((p.2) 6))), (V.con (.int .u8 ((p.2) 7))), (V.con (.int .u8 ((p.2) 8))), (V.con (.int .u8 ((p.2) 9))), (V.con (.int .u8 ((p.2) 10))), (V.con (.int .u8 ((p.2) 11))), (V.con (.int .u8 ((p.2) 12))), (V.con (.int .u8 ((p.2) 13))), (V.con (.int .u8 ((p.2) 14))), (V.con (.int .u8 ((p.2) 15)))]]))], 2⟩ : St)) (fun n (p : Int × (Nat → Int)) => RC (a1.length : Int) (fun tl nn => M73_L1 F a1 k3 tl nn p.2 = some r) n p.1) (fun p h => RC.zero h) (Int.toNat (a1.length : Int) + 1) (0, (fun _ => 0)) (RC.start h) (gr [0, 1] rfl (hB rfl rfl rfl (hB rfl rfl rfl .nil)) rfl) (fun n p h => ?_)
    obtain ⟨n7, f8⟩ := p
    refine rn 5 rfl ?_
    refine spL rfl (fun hb9 => ?_) (fun hb9 => ?_)
    · obtain ⟨tl, h, hk1⟩ := RC.t hA28 h hb9
      unfold M73_L1 at h
      refine rn 2 rfl ?_
      refine jK h (fun (p : (Nat → Int)) => (⟨[(0, (sV a1)), (2, (V.ptr 0 16 0 0)), (4, (V.ptr 1 16 0 0)), (12, (iV (a1.length : Int))), (13, (iV n7))], [(0, (Ob.arr 137 16 [[(V.con (.int .u8 0)), (V.con (.int .u8 0)), (V.con (.int .u8 0)), (V.con (.int .u8 0)), (V.con (.int .u8 0)), (V.con (.int .u8 0)), (V.con (.int .u8 0)), (V.con (.int .u8 0)), (V.con (.int .u8 0)), (V.con (.int .u8 0)), (V.con (.int .u8 0)), (V.con (.int .u8 0)), (V.con (.int .u8 0)), (V.con (.int .u8 0)), (V.con (.int .u8 0)), (V.con (.int .u8 0))]])), (1, (Ob.arr 137 16 [[(V.con (.int .u8 (p 0))), (V.con (.int .u8 (p 1))), (V.con (.int .u8 (p 2))), (V.con (.int .u8 (p 3))), (V.con (.int .u8 (p 4))), (V.con (.int .u8 (p 5))), (V.con (.int .u8 (p 6))), (V.con (.int .u8 (p 7))), (V.con (.int .u8 (p 8))), (V.con (.int .u8 (p 9))), (V.con (.int .u8 (p 10))), (V.con (.int .u8 (p 11))), (V.con (.int .u8 (p 12))), (V.con (.int .u8 (p 13))), (V.con (.int .u8 (p 14))), (V.con (.int .u8 (p 15)))]]))], 2⟩ : St)) (fun k10 (p : (Nat → Int)) => k10 p = some r) (fun k10 h => ?_) ?_
      · refine rn 10 rfl ?_
        refine ixs h rfl rfl (fun c12 hx13 h => ?_)
        refine rn 8 rfl ?_
        refine spO 21 h rfl (fun hb14 h => ?_) (fun hb14 h => ?_)
        · refine rn 4 rfl ?_
          refine spO 25 h rfl (fun hb15 h => ?_) (fun hb15 h => ?_)
          · refine rn 9 rfl ?_
            refine spC h rfl (fun hb16 h => ?_) (fun hb16 h => ?_)
            · refine rn 6 rfl ?_
              exact rt h rfl
            refine rn 4 rfl ?_
            refine ck h (fun hc17 h => ?_)
            refine aops_index_arr tArr137 wants_none rfl rfl hc17.1 hc17.2 rfl ?_
            refine aops_store [(V.con (.int .u8 (c12.toNat : Int)))] [[(V.con (.int .u8 ((upd f8 n7.toNat (c12.toNat : Int)) 0))), (V.con (.int .u8 ((upd f8 n7.toNat (c12.toNat : Int)) 1))), (V.con (.int .u8 ((upd f8 n7.toNat (c12.toNat : Int)) 2))), (V.con (.int .u8 ((upd f8 n7.toNat (c12.toNat : Int)) 3))), (V.con (.int .u8 ((upd f8 n7.toNat (c12.toNat : Int)) 4))), (V.con (.int .u8 ((upd f8 n7.toNat (c12.toNat : Int)) 5))), (V.con (.int .u8 ((upd f8 n7.toNat (c12.toNat : Int)) 6))), (V.con (.int .u8 ((upd f8 n7.toNat (c12.toNat : Int)) 7))), (V.con (.int .u8 ((upd f8 n7.toNat (c12.toNat : Int)) 8))), (V.con (.int .u8 ((upd f8 n7.toNat (c12.toNat : Int)) 9))), (V.con (.int .u8 ((upd f8 n7.toNat (c12.toNat : Int)) 10))), (V.con (.int .u8 ((upd f8 n7.toNat (c12.toNat : Int)) 11))), (V.con (.int .u8 ((upd f8 n7.toNat (c12.toNat : Int)) 12))), (V.con (.int .u8 ((upd f8 n7.toNat (c12.toNat : Int)) 13))), (V.con (.int .u8 ((upd f8 n7.toNat (c12.toNat : Int)) 14))), (V.con (.int .u8 ((upd f8 n7.toNat (c12.toNat : Int)) 15)))]] tS5 wants_none rfl rfl rfl rfl rfl rfl (arr_ble hc17.2 (by simp)) (congrArg (fun r => [r]) (arr_set [] [] (fun x => (V.con (.int .u8 x))) f8 (c12.toNat : Int) hc17.2 rfl (by simp))) ?_
            refine fo (rn 2 rfl ?_)
            exact jX (upd f8 n7.toNat (c12.toNat : Int)) h (gr [0, 1] rfl (hB rfl rfl rfl (hB rfl rfl rfl .nil)) rfl)
          refine rn 3 rfl ?_
          refine spO 28 h rfl (fun hb18 h => ?_) (fun hb18 h => ?_)
          · refine rn 6 rfl ?_
            refine spC h rfl (fun hb19 h => ?_) (fun hb19 h => ?_)
            · refine rn 6 rfl ?_
              exact rt h rfl
            refine rn 4 rfl ?_
            refine ck h (fun hc20 h => ?_)
            refine aops_index_arr tArr137 wants_none rfl rfl hc20.1 hc20.2 rfl ?_
            refine aops_store [(V.con (.int .u8 (c12.toNat : Int)))] [[(V.con (.int .u8 ((upd f8 n7.toNat (c12.toNat : Int)) 0))), (V.con (.int .u8 ((upd f8 n7.toNat (c12.toNat : Int)) 1))), (V.con (.int .u8 ((upd f8 n7.toNat (c12.toNat : Int)) 2))), (V.con (.int .u8 ((upd f8 n7.toNat (c12.toNat : Int)) 3))), (V.con (.int .u8 ((upd f8 n7.toNat (c12.toNat : Int)) 4))), (V.con (.int .u8 ((upd f8 n7.toNat (c12.toNat : Int)) 5))), (V.con (.int .u8 ((upd f8 n7.toNat (c12.toNat : Int)) 6))), (V.con (.int .u8 ((upd f8 n7.toNat (c12.toNat : Int)) 7))), (V.con (.int .u8 ((upd f8 n7.toNat (c12.toNat : Int)) 8))), (V.con (.int .u8 ((upd f8 n7.toNat (c12.toNat : Int)) 9))), (V.con (.int .u8 ((upd f8 n7.toNat (c12.toNat : Int)) 10))), (V.con (.int .u8 ((upd f8 n7.toNat (c12.toNat : Int)) 11))), (V.con (.int .u8 ((upd f8 n7.toNat (c12.toNat : Int)) 12))), (V.con (.int .u8 ((upd f8 n7.toNat (c12.toNat : Int)) 13))), (V.con (.int .u8 ((upd f8 n7.toNat (c12.toNat : Int)) 14))), (V.con (.int .u8 ((upd f8 n7.toNat (c12.toNat : Int)) 15)))]] tS5 wants_none rfl rfl rfl rfl rfl rfl (arr_ble hc20.2 (by simp)) (congrArg (fun r => [r]) (arr_set [] [] (fun x => (V.con (.int .u8 x))) f8 (c12.toNat : Int) hc20.2 rfl (by simp))) ?_
            refine fo (rn 2 rfl ?_)
            exact jX (upd f8 n7.toNat (c12.toNat : Int)) h (gr [0, 1] rfl (hB rfl rfl rfl (hB rfl rfl rfl .nil)) rfl)
          refine rn 6 rfl ?_
          refine spC h rfl (fun hb21 h => ?_) (fun hb21 h => ?_)
          · refine rn 6 rfl ?_
            exact rt h rfl
          refine rn 4 rfl ?_
          refine ck h (fun hc22 h => ?_)
          refine aops_index_arr tArr137 wants_none rfl rfl hc22.1 hc22.2 rfl ?_
          refine aops_store [(V.con (.int .u8 (c12.toNat : Int)))] [[(V.con (.int .u8 ((upd f8 n7.toNat (c12.toNat : Int)) 0))), (V.con (.int .u8 ((upd f8 n7.toNat (c12.toNat : Int)) 1))), (V.con (.int .u8 ((upd f8 n7.toNat (c12.toNat : Int)) 2))), (V.con (.int .u8 ((upd f8 n7.toNat (c12.toNat : Int)) 3))), (V.con (.int .u8 ((upd f8 n7.toNat (c12.toNat : Int)) 4))), (V.con (.int .u8 ((upd f8 n7.toNat (c12.toNat : Int)) 5))), (V.con (.int .u8 ((upd f8 n7.toNat (c12.toNat : Int)) 6))), (V.con (.int .u8 ((upd f8 n7.toNat (c12.toNat : Int)) 7))), (V.con (.int .u8 ((upd f8 n7.toNat (c12.toNat : Int)) 8))), (V.con (.int .u8 ((upd f8 n7.toNat (c12.toNat : Int)) 9))), (V.con (.int .u8 ((upd f8 n7.toNat (c12.toNat : Int)) 10))), (V.con (.int .u8 ((upd f8 n7.toNat (c12.toNat : Int)) 11))), (V.con (.int .u8 ((upd f8 n7.toNat (c12.toNat : Int)) 12))), (V.con (.int .u8 ((upd f8 n7.toNat (c12.toNat : Int)) 13))), (V.con (.int .u8 ((upd f8 n7.toNat (c12.toNat : Int)) 14))), (V.con (.int .u8 ((upd f8 n7.toNat (c12.toNat : Int)) 15)))]] tS5 wants_none rfl rfl rfl rfl rfl rfl (arr_ble hc22.2 (by simp)) (congrArg (fun r => [r]) (arr_set [] [] (fun x => (V.con (.int .u8 x))) f8 (c12.toNat : Int) hc22.2 rfl (by simp))) ?_
          refine fo (rn 2 rfl ?_)
          exact jX (upd f8 n7.toNat (c12.toNat : Int)) h (gr [0, 1] rfl (hB rfl rfl rfl (hB rfl rfl rfl .nil)) rfl)
        refine rn 7 rfl ?_
        refine spO 28 h rfl (fun hb23 h => ?_) (fun hb23 h => ?_)
        · refine rn 6 rfl ?_
          refine spC h rfl (fun hb24 h => ?_) (fun hb24 h => ?_)
          · refine rn 6 rfl ?_
            exact rt h rfl
          refine rn 4 rfl ?_
          refine ck h (fun hc25 h => ?_)
          refine aops_index_arr tArr137 wants_none rfl rfl hc25.1 hc25.2 rfl ?_
          refine aops_store [(V.con (.int .u8 (c12.toNat : Int)))] [[(V.con (.int .u8 ((upd f8 n7.toNat (c12.toNat : Int)) 0))), (V.con (.int .u8 ((upd f8 n7.toNat (c12.toNat : Int)) 1))), (V.con (.int .u8 ((upd f8 n7.toNat (c12.toNat : Int)) 2))), (V.con (.int .u8 ((upd f8 n7.toNat (c12.toNat : Int)) 3))), (V.con (.int .u8 ((upd f8 n7.toNat (c12.toNat : Int)) 4))), (V.con (.int .u8 ((upd f8 n7.toNat (c12.toNat : Int)) 5))), (V.con (.int .u8 ((upd f8 n7.toNat (c12.toNat : Int)) 6))), (V.con (.int .u8 ((upd f8 n7.toNat (c12.toNat : Int)) 7))), (V.con (.int .u8 ((upd f8 n7.toNat (c12.toNat : Int)) 8))), (V.con (.int .u8 ((upd f8 n7.toNat (c12.toNat : Int)) 9))), (V.con (.int .u8 ((upd f8 n7.toNat (c12.toNat : Int)) 10))), (V.con (.int .u8 ((upd f8 n7.toNat (c12.toNat : Int)) 11))), (V.con (.int .u8 ((upd f8 n7.toNat (c12.toNat : Int)) 12))), (V.con (.int .u8 ((upd f8 n7.toNat (c12.toNat : Int)) 13))), (V.con (.int .u8 ((upd f8 n7.toNat (c12.toNat : Int)) 14))), (V.con (.int .u8 ((upd f8 n7.toNat (c12.toNat : Int)) 15)))]] tS5 wants_none rfl rfl rfl rfl rfl rfl (arr_ble hc25.2 (by simp)) (congrArg (fun r => [r]) (arr_set [] [] (fun x => (V.con (.int .u8 x))) f8 (c12.toNat : Int) hc25.2 rfl (by simp))) ?_
          refine fo (rn 2 rfl ?_)
          exact jX (upd f8 n7.toNat (c12.toNat : Int)) h (gr [0, 1] rfl (hB rfl rfl rfl (hB rfl rfl rfl .nil)) rfl)
        refine rn 6 rfl ?_
        refine spC h rfl (fun hb26 h => ?_) (fun hb26 h => ?_)
        · refine rn 6 rfl ?_
          exact rt h rfl
        refine rn 4 rfl ?_
        refine ck h (fun hc27 h => ?_)
        refine aops_index_arr tArr137 wants_none rfl rfl hc27.1 hc27.2 rfl ?_
        refine aops_store [(V.con (.int .u8 (c12.toNat : Int)))] [[(V.con (.int .u8 ((upd f8 n7.toNat (c12.toNat : Int)) 0))), (V.con (.int .u8 ((upd f8 n7.toNat (c12.toNat : Int)) 1))), (V.con (.int .u8 ((upd f8 n7.toNat (c12.toNat : Int)) 2))), (V.con (.int .u8 ((upd f8 n7.toNat (c12.toNat : Int)) 3))), (V.con (.int .u8 ((upd f8 n7.toNat (c12.toNat : Int)) 4))), (V.con (.int .u8 ((upd f8 n7.toNat (c12.toNat : Int)) 5))), (V.con (.int .u8 ((upd f8 n7.toNat (c12.toNat : Int)) 6))), (V.con (.int .u8 ((upd f8 n7.toNat (c12.toNat : Int)) 7))), (V.con (.int .u8 ((upd f8 n7.toNat (c12.toNat : Int)) 8))), (V.con (.int .u8 ((upd f8 n7.toNat (c12.toNat : Int)) 9))), (V.con (.int .u8 ((upd f8 n7.toNat (c12.toNat : Int)) 10))), (V.con (.int .u8 ((upd f8 n7.toNat (c12.toNat : Int)) 11))), (V.con (.int .u8 ((upd f8 n7.toNat (c12.toNat : Int)) 12))), (V.con (.int .u8 ((upd f8 n7.toNat (c12.toNat : Int)) 13))), (V.con (.int .u8 ((upd f8 n7.toNat (c12.toNat : Int)) 14))), (V.con (.int .u8 ((upd f8 n7.toNat (c12.toNat : Int)) 15)))]] tS5 wants_none rfl rfl rfl rfl rfl rfl (arr_ble hc27.2 (by simp)) (congrArg (fun r => [r]) (arr_set [] [] (fun x => (V.con (.int .u8 x))) f8 (c12.toNat : Int) hc27.2 rfl (by simp))) ?_
        refine fo (rn 2 rfl ?_)
        exact jX (upd f8 n7.toNat (c12.toNat : Int)) h (gr [0, 1] rfl (hB rfl rfl rfl (hB rfl rfl rfl .nil)) rfl)
      intro f11 h
      refine rn 4 rfl ?_
      exact jX ((w64 (n7 + 1)), f11) (hk1 _ h) (gr [0, 1] rfl (hB rfl rfl rfl (hB rfl rfl rfl .nil)) rfl)
    replace h := RC.f h hb9
    unfold M73_L1 at h
    refine rn 1 rfl ?_
    exact jX f8 h (gr [0, 1] rfl (hB rfl rfl rfl (hB rfl rfl rfl .nil)) rfl)
  intro f4 h
  refine rn 6 rfl ?_
  exact rt h rfl
theorem W43 (F : Nat) (a1 : (List UInt8)) (r : Bool) (h : M43 F a1 = some r) : PureG gl Tryz.prog 43 [(sV a1)] (bV r) := by
  refine pin (fun r => (bV r)) r rfl Tryz.func43 rfl rfl rfl rfl rfl (fun w0 m0 hg => ?_)
  unfold M43 at h
  refine rn 7 rfl ?_
  refine cl h rfl rfl rfl (W73 _ _) rfl (fun y2 hx3 h => ?_)
  refine rn 12 rfl ?_
  exact rt h rfl
theorem W44 (F : Nat) (a1 : (List (List UInt8))) (a2 : Int) (r : Int) (h : M44 F a1 a2 = some r) : PureG gl Tryz.prog 44 [(V.lst 1 (a1.map encS)), (iV a2)] (iV r) := by
  refine pin (fun r => (iV r)) r rfl Tryz.func44 rfl rfl rfl rfl rfl (fun w0 m0 hg => ?_)
  unfold M44 at h
  refine rn 8 rfl ?_
  refine ln rfl rfl ?_
  refine rn 3 rfl ?_
  refine spC h rfl (fun hb3 h => ?_) (fun hb3 h => ?_)
  · refine rn 4 rfl ?_
    exact rt h rfl
  refine rn 5 rfl ?_
  refine ln rfl rfl ?_
  refine rn 2 rfl ?_
  refine jK h (fun _ : Unit => (⟨[], [], 0⟩ : St)) (fun k4 (_ : Unit) => k4 = some r) (fun k4 h => ?_) ?_
  · refine rn 1 rfl ?_
    refine wl (A := a1) 0 rfl (fun hA13 => ?_)
    refine lC (fun (p : Int) => (⟨[(11, (V.lst 1 (a1.map encS))), (12, (iV ((a1.length : Nat) : Int))), (13, (iV p))], [], 0⟩ : St)) (fun n (p : Int) => RG a1 (fun tl nn => M44_L1 F k4 tl = some r) n p) (fun p h => RG.zero h) (a1.length + 1) 0 (RG.start h) (g0 rfl rfl) (fun n n6 h => ?_)
    refine rn 5 rfl ?_
    refine spL rfl (fun hb7 => ?_) (fun hb7 => ?_)
    · obtain ⟨x8, tl, hx9, h, hk1⟩ := RG.t hA13 h hb7
      unfold M44_L1 at h
      refine rn 5 rfl ?_
      refine ixh hx9 rfl rfl ?_
      refine rn 6 rfl ?_
      refine cl h rfl rfl rfl (W43 _ _) rfl (fun y10 hx11 h => ?_)
      refine rn 2 rfl ?_
      refine spC h rfl (fun hb12 h => ?_) (fun hb12 h => ?_)
      · refine rn 4 rfl ?_
        exact rt h rfl
      refine rn 6 rfl ?_
      exact jX (w64 (n6 + 1)) (hk1 _ h) (g0 rfl rfl)
    replace h := RG.f h hb7
    unfold M44_L1 at h
    refine rn 1 rfl ?_
    exact jX () h (g0 rfl rfl)
  intro _ h
  refine rn 4 rfl ?_
  exact rt h rfl
theorem W71_B (R71 : (List (List UInt8)) → Int → Option (List (List UInt8))) (hR71 : ∀ (a1 : (List (List UInt8))) (a2 : Int) (r : (List (List UInt8))), R71 a1 a2 = some r → MutG gl Tryz.prog 71 [(V.lst 1 (a1.map encS)), (iV a2)] 0 [] (resV [(V.own 0 r.length)]) 1 [(0, (Ob.arr 9 1 (r.map encS)))]) (F : Nat) (a1 : (List (List UInt8))) (a2 : Int) (r : (List (List UInt8))) (h : M71_B R71 F a1 a2 = some r) : MutG gl Tryz.prog 71 [(V.lst 1 (a1.map encS)), (iV a2)] 0 [] (resV [(V.own 0 r.length)]) 1 [(0, (Ob.arr 9 1 (r.map encS)))] := by
  refine mut_enter Tryz.func71 rfl rfl (l := [.tmp 4]) rfl rfl [(0, (V.lst 1 (a1.map encS))), (1, (iV a2))] rfl (fun w0 m0 β0 hg => en ?_)
  unfold M71_B at h
  refine rn 8 rfl ?_
  refine ln rfl rfl ?_
  refine rn 2 rfl ?_
  refine spC h rfl (fun hb22 h => ?_) (fun hb22 h => ?_)
  · refine rn 4 rfl ?_
    replace h := Option.some.inj h
    subst h
    exact wR ⟨.inl rfl, [(4, (V.own 0 ([] : List (List UInt8)).length))], (Ghost.trans (ghost_nilE 4 9 1 rfl) (ghost_ren 1 (fun i => ([0] : List Nat).getD i 0) _ _ (by decide) (EnvSub.get (.cons (Sub.ownE rfl rfl (by simp)) .nil)) (HpSub.get (.cons rfl (ObSub.rows (rows_imm imms_encS)) .nil)) rfl)), (.cons (.tmp rfl) .nil)⟩
  refine rn 4 rfl ?_
  refine ln rfl rfl ?_
  refine cl h rfl rfl rfl (W69 _ _) rfl (fun y23 hx24 h => ?_)
  refine rn 9 rfl ?_
  refine spC h rfl (fun hb25 h => ?_) (fun hb25 h => ?_)
  · refine rn 1 rfl ?_
    refine ck h (fun hc26 h => ?_)
    obtain ⟨y27, hx28, h⟩ := bind_some h
    refine ck h (fun hc29 h => ?_)
    obtain ⟨y30, hx31, h⟩ := bind_some h
    refine ck h (fun hc32 h => ?_)
    refine awp_ghost ghost_res ?_
    refine awp_ghost ghost_res ?_
    refine fa ?_
    refine dr mixed (vs 2 rfl (xD (OD.mk [(15, (V.lst 1 (a1.map encS))), (16, (iV y23))] [] [(17, (V.lst 1 ((a1.take y23.toNat).map encS)))] []) ⟨⟨rfl, rfl, trivial⟩, trivial⟩ (by exact fun S hn h hh => aops_slice_lst (0) (y23.toNat) ((a1.take y23.toNat).map encS) tSl50 wants_none h.1 rfl ⟨_, (by rw [Int.toNat_of_nonneg hc26.1]; exact h.2.1)⟩ (Nat.zero_le _) (by simpa using hc26.2) slL_lo rfl (aops_nil ⟨rfl, rfl⟩)) rfl (vs 1 rfl (xD (OD.mk [(17, (V.lst 1 ((a1.take y23.toNat).map encS))), (18, (iV a2))] [(0, Ob.res)] [(19, (V.own 0 y27.length))] [(0, (Ob.arr 9 1 (y27.map encS)))]) ⟨⟨rfl, rfl, trivial⟩, ⟨rfl, trivial⟩⟩ (by exact fun S hn h hh => aops_mcall_at [0] rfl hn (List.forall_mem_cons.2 ⟨hh.1, (fun _ hx => nomatch hx)⟩) (V.own 0 y27.length) [(V.lst 1 ((a1.take y23.toNat).map encS)), (iV a2)] [(0, (Ob.arr 9 1 (y27.map encS)))] fOk71 wants_none rfl (evm_cons h.1 (evm_cons h.2.1 evm_nil)) (.cons (Sub.imm (Imm.lst _ _)) (.cons (Sub.imm (Imm.con _)) .nil)) (hR71 (a1.take y23.toNat) a2 _ hx28) rfl rfl (Sub.ownT rfl rfl) (.cons rfl (ObSub.rowsT (rows_imm imms_encS)) .nil) (aops_nil ⟨rfl, rfl⟩)) rfl (vs 2 rfl (xD (OD.mk [(20, (V.lst 1 (a1.map encS))), (21, (iV y23))] [] [(22, (V.lst 1 ((a1.drop y23.toNat).map encS)))] []) ⟨⟨rfl, rfl, trivial⟩, trivial⟩ (by exact fun S hn h hh => aops_slice_lst (y23.toNat) (a1.length) ((a1.drop y23.toNat).map encS) tSl50 wants_none h.1 ⟨_, (by rw [Int.toNat_of_nonneg hc29.1]; exact h.2.1)⟩ (List.length_map ..).symm hc29.2 (Nat.le_of_eq (List.length_map ..).symm) slL_hi rfl (aops_nil ⟨rfl, rfl⟩)) rfl (cD rfl rfl rfl rfl (W40 _ _ _ hx31) rfl (xD (OD.mk [(23, (sV y30))] [] [(24, (V.lst 1 (([y30] : List (List UInt8)).map encS)))] []) ⟨⟨rfl, trivial⟩, trivial⟩ (by exact fun S hn h hh => aops_buildSlice_imm [(0, (sV y30))] [[(sV y30)]] tEl50 tZ9 wants_none rfl rfl rfl rfl (evp_cons h.1 evp_nil) rfl rfl (by simp) (imms_rows (.cons (.cons (Imm.con _) .nil) .nil)) rfl (aops_nil ⟨rfl, rfl⟩)) rfl (xD (OD.mk [(19, (V.own 0 y27.length)), (24, (V.lst 1 (([y30] : List (List UInt8)).map encS)))] [(0, (Ob.arr 9 1 (y27.map encS))), (1, Ob.res)] [(25, (V.own 1 (y27 ++ ([y30] : List (List UInt8))).length))] [(1, (Ob.arr 9 1 ((y27 ++ ([y30] : List (List UInt8))).map encS))), (0, Ob.dead)]) ⟨⟨rfl, rfl, trivial⟩, ⟨rfl, rfl, trivial⟩⟩ (by exact fun S hn h hh => aops_append_at 1 rfl hn hh.2.1 (([y30] : List (List UInt8)).map encS) ((y27 ++ ([y30] : List (List UInt8))).map encS) tEl50 tIsSl50 rfl rfl wants_none h.1 hh.1 (by simp) h.2.1 (.lst (rows_one one_encS)) (map_snoc encS y27 ([y30] : List (List UInt8))) (List.length_map ..) hc32 rfl (aops_nil ⟨rfl, rfl⟩)) rfl (vs 1 rfl .nil)))))))))) (by kernel_rfl) ?_
    replace h := Option.some.inj h
    subst h
    exact wR ⟨.inl rfl, [(4, (V.own 0 (y27 ++ ([y30] : List (List UInt8))).length))], (gr [1] rfl (hR rfl rfl .nil) rfl), (.cons (.tmp rfl) .nil)⟩
  refine rn 2 rfl ?_
  refine ck h (fun hc33 h => ?_)
  obtain ⟨y34, hx35, h⟩ := bind_some h
  refine ck h (fun hc36 h => ?_)
  obtain ⟨y37, hx38, h⟩ := bind_some h
  refine ck h (fun hc39 h => ?_)
  refine awp_ghost ghost_res ?_
  refine awp_ghost ghost_res ?_
  refine fa ?_
  refine dr mixed (vs 2 rfl (xD (OD.mk [(26, (V.lst 1 (a1.map encS))), (27, (iV y23))] [] [(28, (V.lst 1 ((a1.drop y23.toNat).map encS)))] []) ⟨⟨rfl, rfl, trivial⟩, trivial⟩ (by exact fun S hn h hh => aops_slice_lst (y23.toNat) (a1.length) ((a1.drop y23.toNat).map encS) tSl50 wants_none h.1 ⟨_, (by rw [Int.toNat_of_nonneg hc33.1]; exact h.2.1)⟩ (List.length_map ..).symm hc33.2 (Nat.le_of_eq (List.length_map ..).symm) slL_hi rfl (aops_nil ⟨rfl, rfl⟩)) rfl (vs 3 rfl (xD (OD.mk [(28, (V.lst 1 ((a1.drop y23.toNat).map encS))), (31, (iV (w64 (a2 - y23))))] [(0, Ob.res)] [(32, (V.own 0 y34.length))] [(0, (Ob.arr 9 1 (y34.map encS)))]) ⟨⟨rfl, rfl, trivial⟩, ⟨rfl, trivial⟩⟩ (by exact fun S hn h hh => aops_mcall_at [0] rfl hn (List.forall_mem_cons.2 ⟨hh.1, (fun _ hx => nomatch hx)⟩) (V.own 0 y34.length) [(V.lst 1 ((a1.drop y23.toNat).map encS)), (iV (w64 (a2 - y23)))] [(0, (Ob.arr 9 1 (y34.map encS)))] fOk71 wants_none rfl (evm_cons h.1 (evm_cons h.2.1 evm_nil)) (.cons (Sub.imm (Imm.lst _ _)) (.cons (Sub.imm (Imm.con _)) .nil)) (hR71 (a1.drop y23.toNat) (w64 (a2 - y23)) _ hx35) rfl rfl (Sub.ownT rfl rfl) (.cons rfl (ObSub.rowsT (rows_imm imms_encS)) .nil) (aops_nil ⟨rfl, rfl⟩)) rfl (vs 2 rfl (xD (OD.mk [(33, (V.lst 1 (a1.map encS))), (34, (iV y23))] [] [(35, (V.lst 1 ((a1.take y23.toNat).map encS)))] []) ⟨⟨rfl, rfl, trivial⟩, trivial⟩ (by exact fun S hn h hh => aops_slice_lst (0) (y23.toNat) ((a1.take y23.toNat).map encS) tSl50 wants_none h.1 rfl ⟨_, (by rw [Int.toNat_of_nonneg hc36.1]; exact h.2.1)⟩ (Nat.zero_le _) (by simpa using hc36.2) slL_lo rfl (aops_nil ⟨rfl, rfl⟩)) rfl (cD rfl rfl rfl rfl (W40 _ _ _ hx38) rfl (xD (OD.mk [(36, (sV y37))] [] [(37, (V.lst 1 (([y37] : List (List UInt8)).map encS)))] []) ⟨⟨rfl, trivial⟩, trivial⟩ (by exact fun S hn h hh => aops_buildSlice_imm [(0, (sV y37))] [[(sV y37)]] tEl50 tZ9 wants_none rfl rfl rfl rfl (evp_cons h.1 evp_nil) rfl rfl (by simp) (imms_rows (.cons (.cons (Imm.con _) .nil) .nil)) rfl (aops_nil ⟨rfl, rfl⟩)) rfl (xD (OD.mk [(32, (V.own 0 y34.length)), (37, (V.lst 1 (([y37] : List (List UInt8)).map encS)))] [(0, (Ob.arr 9 1 (y34.map encS))), (1, Ob.res)] [(38, (V.own 1 (y34 ++ ([y37] : List (List UInt8))).length))] [(1, (Ob.arr 9 1 ((y34 ++ ([y37] : List (List UInt8))).map encS))), (0, Ob.dead)]) ⟨⟨rfl, rfl, trivial⟩, ⟨rfl, rfl, trivial⟩⟩ (by exact fun S hn h hh => aops_append_at 1 rfl hn hh.2.1 (([y37] : List (List UInt8)).map encS) ((y34 ++ ([y37] : List (List UInt8))).map encS) tEl50 tIsSl50 rfl rfl wants_none h.1 hh.1 (by simp) h.2.1 (.lst (rows_one one_encS)) (map_snoc encS y34 ([y37] : List (List UInt8))) (List.length_map ..) hc39 rfl (aops_nil ⟨rfl, rfl⟩)) rfl (vs 1 rfl .nil)))))))))) (by kernel_rfl) ?_
  replace h := Option.some.inj h
  subst h
  exact wR ⟨.inl rfl, [(4, (V.own 0 (y34 ++ ([y37] : List (List UInt8))).length))], (gr [1] rfl (hR rfl rfl .nil) rfl), (.cons (.tmp rfl) .nil)⟩
theorem W71 : ∀ (F : Nat) (a1 : (List (List UInt8))) (a2 : Int) (r : (List (List UInt8))) (h : M71 F a1 a2 = some r), MutG gl Tryz.prog 71 [(V.lst 1 (a1.map encS)), (iV a2)] 0 [] (resV [(V.own 0 r.length)]) 1 [(0, (Ob.arr 9 1 (r.map encS)))] := by
  intro F
  induction F with
  | zero => intros; simp [M71] at *
  | succ F ih => exact fun a1 a2 r h => W71_B (M71 F) ih F a1 a2 r h
theorem W41 (F : Nat) (a1 : (List (List UInt8))) (a2 : Int) (a3 : Int) (r : (Int × (List (List UInt8)))) (h : M41 F a1 a2 a3 = some r) : MutG gl Tryz.prog 41 [(V.lst 1 (a1.map encS)), (iV a2), (iV a3)] 0 [] (resV [(V.own 0 (r.2).length), (iV (r.1))]) 1 [(0, (Ob.arr 9 1 ((r.2).map encS)))] := by
  refine mut_enter Tryz.func41 rfl rfl (l := [.tmp 6, .tmp 7]) rfl rfl [(0, (V.lst 1 (a1.map encS))), (1, (iV a2)), (2, (iV a3))] rfl (fun w0 m0 β0 hg => en ?_)
  unfold M41 at h
  refine rn 9 rfl ?_
  refine cl h rfl rfl rfl (W44 _ _ _) rfl (fun y16 hx17 h => ?_)
  refine rn 7 rfl ?_
  refine spC h rfl (fun hb18 h => ?_) (fun hb18 h => ?_)
  · refine rn 6 rfl ?_
    replace h := Option.some.inj h
    subst h
    exact wR ⟨.inl rfl, [(6, (V.own 0 ([] : List (List UInt8)).length)), (7, (iV y16))], (Ghost.trans (ghost_nilE 6 9 1 rfl) (ghost_ren 1 (fun i => ([0] : List Nat).getD i 0) _ _ (by decide) (EnvSub.get (.cons (Sub.ownE rfl rfl (by simp)) (.cons (Sub.imm (Imm.con _)) .nil))) (HpSub.get (.cons rfl (ObSub.rows (rows_imm imms_encS)) .nil)) rfl)), (.cons (.tmp rfl) (.cons (.tmp rfl) .nil))⟩
  refine rn 7 rfl ?_
  refine spO 16 h rfl (fun hb19 h => ?_) (fun hb19 h => ?_)
  · refine rn 21 rfl ?_
    replace h := Option.some.inj h
    subst h
    exact wR ⟨.inl rfl, [(6, (V.own 0 ([] : List (List UInt8)).length)), (7, (iV 9))], (Ghost.trans (ghost_nilE 6 9 1 rfl) (ghost_ren 1 (fun i => ([0] : List Nat).getD i 0) _ _ (by decide) (EnvSub.get (.cons (Sub.ownE rfl rfl (by simp)) (.cons (Sub.imm (Imm.con _)) .nil))) (HpSub.get (.cons rfl (ObSub.rows (rows_imm imms_encS)) .nil)) rfl)), (.cons (.tmp rfl) (.cons (.tmp rfl) .nil))⟩
  refine rn 2 rfl ?_
  refine ln rfl rfl ?_
  refine rn 3 rfl ?_
  refine spO 22 h rfl (fun hb20 h => ?_) (fun hb20 h => ?_)
  · refine rn 15 rfl ?_
    replace h := Option.some.inj h
    subst h
    exact wR ⟨.inl rfl, [(6, (V.own 0 ([] : List (List UInt8)).length)), (7, (iV 9))], (Ghost.trans (ghost_nilE 6 9 1 rfl) (ghost_ren 1 (fun i => ([0] : List Nat).getD i 0) _ _ (by decide) (EnvSub.get (.cons (Sub.ownE rfl rfl (by simp)) (.cons (Sub.imm (Imm.con _)) .nil))) (HpSub.get (.cons rfl (ObSub.rows (rows_imm imms_encS)) .nil)) rfl)), (.cons (.tmp rfl) (.cons (.tmp rfl) .nil))⟩
  refine rn 4 rfl ?_
  refine spO 26 h rfl (fun hb21 h => ?_) (fun hb21 h => ?_)
  · refine rn 11 rfl ?_
    replace h := Option.some.inj h
    subst h
    exact wR ⟨.inl rfl, [(6, (V.own 0 ([] : List (List UInt8)).length)), (7, (iV 9))], (Ghost.trans (ghost_nilE 6 9 1 rfl) (ghost_ren 1 (fun i => ([0] : List Nat).getD i 0) _ _ (by decide) (EnvSub.get (.cons (Sub.ownE rfl rfl (by simp)) (.cons (Sub.imm (Imm.con _)) .nil))) (HpSub.get (.cons rfl (ObSub.rows (rows_imm imms_encS)) .nil)) rfl)), (.cons (.tmp rfl) (.cons (.tmp rfl) .nil))⟩
  refine rn 5 rfl ?_
  refine spC h rfl (fun hb22 h => ?_) (fun hb22 h => ?_)
  · refine rn 5 rfl ?_
    replace h := Option.some.inj h
    subst h
    exact wR ⟨.inl rfl, [(6, (V.own 0 ([] : List (List UInt8)).length)), (7, (iV 9))], (Ghost.trans (ghost_nilE 6 9 1 rfl) (ghost_ren 1 (fun i => ([0] : List Nat).getD i 0) _ _ (by decide) (EnvSub.get (.cons (Sub.ownE rfl rfl (by simp)) (.cons (Sub.imm (Imm.con _)) .nil))) (HpSub.get (.cons rfl (ObSub.rows (rows_imm imms_encS)) .nil)) rfl)), (.cons (.tmp rfl) (.cons (.tmp rfl) .nil))⟩
  refine rn 5 rfl ?_
  refine ck h (fun hc23 h => ?_)
  refine aops_slice_lst (0) (a3.toNat) ((a1.take a3.toNat).map encS) tSl50 wants_none rfl rfl ⟨_, (by rw [Int.toNat_of_nonneg hc23.1]; exact rfl)⟩ (Nat.zero_le _) (by simpa using hc23.2) slL_lo rfl ?_
  obtain ⟨y24, hx25, h⟩ := bind_some h
  refine fo (rn 1 rfl ?_)
  refine aops_mcallS (V.own 0 y24.length) [(V.lst 1 ((a1.take a3.toNat).map encS)), (iV a2)] (fun i => ([] : List Nat).getD i 0) (fun i => ([0] : List Nat).getD i 0) 0 1 [(0, (Ob.arr 9 1 (y24.map encS)))] fOk71 wants_none rfl (evm_cons rfl (evm_cons rfl evm_nil)) (.cons (Sub.imm (Imm.lst _ _)) (.cons (Sub.imm (Imm.con _)) .nil)) .nil (W71 F (a1.take a3.toNat) a2 y24 hx25) rfl rfl rfl rfl (Sub.ownT rfl rfl) (.cons rfl (ObSub.rowsT (rows_imm imms_encS)) .nil) _ rfl ?_
  refine fo (rn 3 rfl ?_)
  replace h := Option.some.inj h
  subst h
  exact wR ⟨.inl rfl, [(6, (V.own 0 y24.length)), (7, (iV 0))], (gr [0] rfl (hR rfl rfl .nil) rfl), (.cons (.tmp rfl) (.cons (.tmp rfl) .nil))⟩
theorem W19 (F : Nat) (a1 : Int) (a2 : Int) (a3 : List (List UInt8)) (r : (Int × (List (List UInt8)))) (h : M19 F a1 a2 a3 = some r) : MutG gl Tryz.prog 19 [(V.ptr 0 1 0 0), (iV a1), (iV a2)] 2 [(0, (Ob.arr 95 1 [[(V.own 1 a3.length)]])), (1, (Ob.arr 9 1 (a3.map encS)))] (resV [(V.own 2 (r.2).length), (iV (r.1))]) 3 [(0, (Ob.arr 95 1 [[(V.own 1 a3.length)]])), (1, (Ob.arr 9 1 (a3.map encS))), (2, (Ob.arr 9 1 ((r.2).map encS)))] := by
  refine mut_enter Tryz.func19 rfl rfl (l := [.tmp 6, .tmp 7]) rfl rfl [(0, (V.ptr 0 1 0 0)), (1, (iV a1)), (2, (iV a2))] rfl (fun w0 m0 β0 hg => en ?_)
  unfold M19 at h
  obtain ⟨y8, hx9, h⟩ := bind_some h
  refine rn 13 rfl ?_
  refine aops_lendm_callS (V.tup [(V.own 2 (y8.2).length), (iV (y8.1))]) [(V.lst 1 (a3.map encS)), (iV a1), (iV a2)] 2 fOk41 (ghost_frzE 1 11 rfl (rows_imm imms_encS) rfl (List.length_map ..).symm) wants_none (evm_cons rfl (evm_cons rfl (evm_cons rfl evm_nil))) (.cons (Imm.lst _ _) (.cons (Imm.con _) (.cons (Imm.con _) .nil))) (W41 F a3 a1 a2 y8 hx9) rfl (rows_con (fun x => rfl)) Lent.pair rfl ?_
  refine fo (rn 5 rfl ?_)
  replace h := Option.some.inj h
  subst h
  exact wR ⟨.inl rfl, [(6, (V.own 2 (y8.2).length)), (7, (iV (y8.1)))], (gr [0, 1, 2] rfl (hB rfl rfl rfl (hR rfl rfl (hR rfl rfl .nil))) rfl), (.cons (.tmp rfl) (.cons (.tmp rfl) .nil))⟩
theorem W72_B (R72 : (List (List UInt8)) → Int → Bool → Option (List (List UInt8))) (hR72 : ∀ (a1 : (List (List UInt8))) (a2 : Int) (a3 : Bool) (r : (List (List UInt8))), R72 a1 a2 a3 = some r → MutG gl Tryz.prog 72 [(V.lst 1 (a1.map encS)), (iV a2), (bV a3)] 0 [] (resV [(V.own 0 r.length)]) 1 [(0, (Ob.arr 9 1 (r.map encS)))]) (F : Nat) (a1 : (List (List UInt8))) (a2 : Int) (a3 : Bool) (r : (List (List UInt8))) (h : M72_B R72 F a1 a2 a3 = some r) : MutG gl Tryz.prog 72 [(V.lst 1 (a1.map encS)), (iV a2), (bV a3)] 0 [] (resV [(V.own 0 r.length)]) 1 [(0, (Ob.arr 9 1 (r.map encS)))] := by
  refine mut_enter Tryz.func72 rfl rfl (l := [.tmp 6]) rfl rfl [(0, (V.lst 1 (a1.map encS))), (1, (iV a2)), (2, (bV a3))] rfl (fun w0 m0 β0 hg => en ?_)
  unfold M72_B at h
  refine rn 9 rfl ?_
  refine ln rfl rfl ?_
  refine rn 2 rfl ?_
  refine spC h rfl (fun hb26 h => ?_) (fun hb26 h => ?_)
  · refine rn 5 rfl ?_
    refine spC h rfl (fun hb27 h => ?_) (fun hb27 h => ?_)
    · refine rn 4 rfl ?_
      replace h := Option.some.inj h
      subst h
      exact wR ⟨.inl rfl, [(6, (V.own 0 ([] : List (List UInt8)).length))], (Ghost.trans (ghost_nilE 6 9 1 rfl) (ghost_ren 1 (fun i => ([0] : List Nat).getD i 0) _ _ (by decide) (EnvSub.get (.cons (Sub.ownE rfl rfl (by simp)) .nil)) (HpSub.get (.cons rfl (ObSub.rows (rows_imm imms_encS)) .nil)) rfl)), (.cons (.tmp rfl) .nil)⟩
    refine rn 4 rfl ?_
    refine cl h rfl rfl rfl (W40 _ _) rfl (fun y28 hx29 h => ?_)
    refine aops_buildSlice [(0, (sV y28))] [[(sV y28)]] tEl50 tZ9 rfl rfl rfl rfl wants_none (evp_cons rfl evp_nil) rfl rfl (by simp) rfl ?_
    refine fo (rn 2 rfl ?_)
    replace h := Option.some.inj h
    subst h
    exact wR ⟨.inl rfl, [(6, (V.own 0 ([y28] : List (List UInt8)).length))], (ghost_ren 1 (fun i => ([0] : List Nat).getD i 0) _ _ (by decide) (EnvSub.get (.cons (Sub.ownE rfl rfl (by simp)) .nil)) (HpSub.get (.cons rfl (ObSub.rows (rows_imm imms_encS)) .nil)) rfl), (.cons (.tmp rfl) .nil)⟩
  refine rn 4 rfl ?_
  refine ln rfl rfl ?_
  refine cl h rfl rfl rfl (W69 _ _) rfl (fun y30 hx31 h => ?_)
  refine rn 9 rfl ?_
  refine spC h rfl (fun hb32 h => ?_) (fun hb32 h => ?_)
  · refine rn 1 rfl ?_
    refine ck h (fun hc33 h => ?_)
    obtain ⟨y34, hx35, h⟩ := bind_some h
    refine ck h (fun hc36 h => ?_)
    obtain ⟨y37, hx38, h⟩ := bind_some h
    refine ck h (fun hc39 h => ?_)
    refine awp_ghost ghost_res ?_
    refine awp_ghost ghost_res ?_
    refine fa ?_
    refine dr mixed (vs 2 rfl (xD (OD.mk [(22, (V.lst 1 (a1.map encS))), (23, (iV y30))] [] [(24, (V.lst 1 ((a1.take y30.toNat).map encS)))] []) ⟨⟨rfl, rfl, trivial⟩, trivial⟩ (by exact fun S hn h hh => aops_slice_lst (0) (y30.toNat) ((a1.take y30.toNat).map encS) tSl50 wants_none h.1 rfl ⟨_, (by rw [Int.toNat_of_nonneg hc33.1]; exact h.2.1)⟩ (Nat.zero_le _) (by simpa using hc33.2) slL_lo rfl (aops_nil ⟨rfl, rfl⟩)) rfl (vs 2 rfl (xD (OD.mk [(24, (V.lst 1 ((a1.take y30.toNat).map encS))), (25, (iV a2)), (26, (bV a3))] [(0, Ob.res)] [(27, (V.own 0 y34.length))] [(0, (Ob.arr 9 1 (y34.map encS)))]) ⟨⟨rfl, rfl, rfl, trivial⟩, ⟨rfl, trivial⟩⟩ (by exact fun S hn h hh => aops_mcall_at [0] rfl hn (List.forall_mem_cons.2 ⟨hh.1, (fun _ hx => nomatch hx)⟩) (V.own 0 y34.length) [(V.lst 1 ((a1.take y30.toNat).map encS)), (iV a2), (bV a3)] [(0, (Ob.arr 9 1 (y34.map encS)))] fOk72 wants_none rfl (evm_cons h.1 (evm_cons h.2.1 (evm_cons h.2.2.1 evm_nil))) (.cons (Sub.imm (Imm.lst _ _)) (.cons (Sub.imm (Imm.con _)) (.cons (Sub.imm (Imm.con _)) .nil))) (hR72 (a1.take y30.toNat) a2 a3 _ hx35) rfl rfl (Sub.ownT rfl rfl) (.cons rfl (ObSub.rowsT (rows_imm imms_encS)) .nil) (aops_nil ⟨rfl, rfl⟩)) rfl (vs 2 rfl (xD (OD.mk [(28, (V.lst 1 (a1.map encS))), (29, (iV y30))] [] [(30, (V.lst 1 ((a1.drop y30.toNat).map encS)))] []) ⟨⟨rfl, rfl, trivial⟩, trivial⟩ (by exact fun S hn h hh => aops_slice_lst (y30.toNat) (a1.length) ((a1.drop y30.toNat).map encS) tSl50 wants_none h.1 ⟨_, (by rw [Int.toNat_of_nonneg hc36.1]; exact h.2.1)⟩ (List.length_map ..).symm hc36.2 (Nat.le_of_eq (List.length_map ..).symm) slL_hi rfl (aops_nil ⟨rfl, rfl⟩)) rfl (cD rfl rfl rfl rfl (W40 _ _ _ hx38) rfl (xD (OD.mk [(31, (sV y37))] [] [(32, (V.lst 1 (([y37] : List (List UInt8)).map encS)))] []) ⟨⟨rfl, trivial⟩, trivial⟩ (by exact fun S hn h hh => aops_buildSlice_imm [(0, (sV y37))] [[(sV y37)]] tEl50 tZ9 wants_none rfl rfl rfl rfl (evp_cons h.1 evp_nil) rfl rfl (by simp) (imms_rows (.cons (.cons (Imm.con _) .nil) .nil)) rfl (aops_nil ⟨rfl, rfl⟩)) rfl (xD (OD.mk [(27, (V.own 0 y34.length)), (32, (V.lst 1 (([y37] : List (List UInt8)).map encS)))] [(0, (Ob.arr 9 1 (y34.map encS))), (1, Ob.res)] [(33, (V.own 1 (y34 ++ ([y37] : List (List UInt8))).length))] [(1, (Ob.arr 9 1 ((y34 ++ ([y37] : List (List UInt8))).map encS))), (0, Ob.dead)]) ⟨⟨rfl, rfl, trivial⟩, ⟨rfl, rfl, trivial⟩⟩ (by exact fun S hn h hh => aops_append_at 1 rfl hn hh.2.1 (([y37] : List (List UInt8)).map encS) ((y34 ++ ([y37] : List (List UInt8))).map encS) tEl50 tIsSl50 rfl rfl wants_none h.1 hh.1 (by simp) h.2.1 (.lst (rows_one one_encS)) (map_snoc encS y34 ([y37] : List (List UInt8))) (List.length_map ..) hc39 rfl (aops_nil ⟨rfl, rfl⟩)) rfl (vs 1 rfl .nil)))))))))) (by kernel_rfl) ?_
    replace h := Option.some.inj h
    subst h
    exact wR ⟨.inl rfl, [(6, (V.own 0 (y34 ++ ([y37] : List (List UInt8))).length))], (gr [1] rfl (hR rfl rfl .nil) rfl), (.cons (.tmp rfl) .nil)⟩
  refine rn 2 rfl ?_
  refine ck h (fun hc40 h => ?_)
  obtain ⟨y41, hx42, h⟩ := bind_some h
  refine ck h (fun hc43 h => ?_)
  obtain ⟨y44, hx45, h⟩ := bind_some h
  refine ck h (fun hc46 h => ?_)
  refine awp_ghost ghost_res ?_
  refine awp_ghost ghost_res ?_
  refine fa ?_
  refine dr mixed (vs 2 rfl (xD (OD.mk [(34, (V.lst 1 (a1.map encS))), (35, (iV y30))] [] [(36, (V.lst 1 ((a1.drop y30.toNat).map encS)))] []) ⟨⟨rfl, rfl, trivial⟩, trivial⟩ (by exact fun S hn h hh => aops_slice_lst (y30.toNat) (a1.length) ((a1.drop y30.toNat).map encS) tSl50 wants_none h.1 ⟨_, (by rw [Int.toNat_of_nonneg hc40.1]; exact h.2.1)⟩ (List.length_map ..).symm hc40.2 (Nat.le_of_eq (List.length_map ..).symm) slL_hi rfl (aops_nil ⟨rfl, rfl⟩)) rfl (vs 3 rfl (xD (OD.mk [(36, (V.lst 1 ((a1.drop y30.toNat).map encS))), (39, (iV (w64 (a2 - y30))))] [(0, Ob.res)] [(40, (V.own 0 y41.length))] [(0, (Ob.arr 9 1 (y41.map encS)))]) ⟨⟨rfl, rfl, trivial⟩, ⟨rfl, trivial⟩⟩ (by exact fun S hn h hh => aops_mcall_at [0] rfl hn (List.forall_mem_cons.2 ⟨hh.1, (fun _ hx => nomatch hx)⟩) (V.own 0 y41.length) [(V.lst 1 ((a1.drop y30.toNat).map encS)), (iV (w64 (a2 - y30))), (bV false)] [(0, (Ob.arr 9 1 (y41.map encS)))] fOk72 wants_none rfl (evm_cons h.1 (evm_cons h.2.1 (evm_cons rfl evm_nil))) (.cons (Sub.imm (Imm.lst _ _)) (.cons (Sub.imm (Imm.con _)) (.cons (Sub.imm (Imm.con _)) .nil))) (hR72 (a1.drop y30.toNat) (w64 (a2 - y30)) false _ hx42) rfl rfl (Sub.ownT rfl rfl) (.cons rfl (ObSub.rowsT (rows_imm imms_encS)) .nil) (aops_nil ⟨rfl, rfl⟩)) rfl (vs 2 rfl (xD (OD.mk [(41, (V.lst 1 (a1.map encS))), (42, (iV y30))] [] [(43, (V.lst 1 ((a1.take y30.toNat).map encS)))] []) ⟨⟨rfl, rfl, trivial⟩, trivial⟩ (by exact fun S hn h hh => aops_slice_lst (0) (y30.toNat) ((a1.take y30.toNat).map encS) tSl50 wants_none h.1 rfl ⟨_, (by rw [Int.toNat_of_nonneg hc43.1]; exact h.2.1)⟩ (Nat.zero_le _) (by simpa using hc43.2) slL_lo rfl (aops_nil ⟨rfl, rfl⟩)) rfl (cD rfl rfl rfl rfl (W40 _ _ _ hx45) rfl (xD (OD.mk [(44, (sV y44))] [] [(45, (V.lst 1 (([y44] : List (List UInt8)).map encS)))] []) ⟨⟨rfl, trivial⟩, trivial⟩ (by exact fun S hn h hh => aops_buildSlice_imm [(0, (sV y44))] [[(sV y44)]] tEl50 tZ9 wants_none rfl rfl rfl rfl (evp_cons h.1 evp_nil) rfl rfl (by simp) (imms_rows (.cons (.cons (Imm.con _) .nil) .nil)) rfl (aops_nil ⟨rfl, rfl⟩)) rfl (xD (OD.mk [(40, (V.own 0 y41.length)), (45, (V.lst 1 (([y44] : List (List UInt8)).map encS)))] [(0, (Ob.arr 9 1 (y41.map encS))), (1, Ob.res)] [(46, (V.own 1 (y41 ++ ([y44] : List (List UInt8))).length))] [(1, (Ob.arr 9 1 ((y41 ++ ([y44] : List (List UInt8))).map encS))), (0, Ob.dead)]) ⟨⟨rfl, rfl, trivial⟩, ⟨rfl, rfl, trivial⟩⟩ (by exact fun S hn h hh => aops_append_at 1 rfl hn hh.2.1 (([y44] : List (List UInt8)).map encS) ((y41 ++ ([y44] : List (List UInt8))).map encS) tEl50 tIsSl50 rfl rfl wants_none h.1 hh.1 (by simp) h.2.1 (.lst (rows_one one_encS)) (map_snoc encS y41 ([y44] : List (List UInt8))) (List.length_map ..) hc46 rfl (aops_nil ⟨rfl, rfl⟩)) rfl (vs 1 rfl .nil)))))))))) (by kernel_rfl) ?_
  replace h := Option.some.inj h
  subst h
  exact wR ⟨.inl rfl, [(6, (V.own 0 (y41 ++ ([y44] : List (List UInt8))).length))], (gr [1] rfl (hR rfl rfl .nil) rfl), (.cons (.tmp rfl) .nil)⟩
theorem W72 : ∀ (F : Nat) (a1 : (List (List UInt8))) (a2 : Int) (a3 : Bool) (r : (List (List UInt8))) (h : M72 F a1 a2 a3 = some r), MutG gl Tryz.prog 72 [(V.lst 1 (a1.map encS)), (iV a2), (bV a3)] 0 [] (resV [(V.own 0 r.length)]) 1 [(0, (Ob.arr 9 1 (r.map encS)))] := by
  intro F
  induction F with
  | zero => intros; simp [M72] at *
  | succ F ih => exact fun a1 a2 a3 r h => W72_B (M72 F) ih F a1 a2 a3 r h
theorem W42 (F : Nat) (a1 : (List (List UInt8))) (a2 : Int) (a3 : Int) (r : (Int × (List (List UInt8)))) (h : M42 F a1 a2 a3 = some r) : MutG gl Tryz.prog 42 [(V.lst 1 (a1.map encS)), (iV a2), (iV a3)] 0 [] (resV [(V.own 0 (r.2).length), (iV (r.1))]) 1 [(0, (Ob.arr 9 1 ((r.2).map encS)))] := by
  refine mut_enter Tryz.func42 rfl rfl (l := [.tmp 6, .tmp 7]) rfl rfl [(0, (V.lst 1 (a1.map encS))), (1, (iV a2)), (2, (iV a3))] rfl (fun w0 m0 β0 hg => en ?_)
  unfold M42 at h
  refine rn 9 rfl ?_
  refine cl h rfl rfl rfl (W44 _ _ _) rfl (fun y16 hx17 h => ?_)
  refine rn 7 rfl ?_
  refine spC h rfl (fun hb18 h => ?_) (fun hb18 h => ?_)
  · refine rn 6 rfl ?_
    replace h := Option.some.inj h
    subst h
    exact wR ⟨.inl rfl, [(6, (V.own 0 ([] : List (List UInt8)).length)), (7, (iV y16))], (Ghost.trans (ghost_nilE 6 9 1 rfl) (ghost_ren 1 (fun i => ([0] : List Nat).getD i 0) _ _ (by decide) (EnvSub.get (.cons (Sub.ownE rfl rfl (by simp)) (.cons (Sub.imm (Imm.con _)) .nil))) (HpSub.get (.cons rfl (ObSub.rows (rows_imm imms_encS)) .nil)) rfl)), (.cons (.tmp rfl) (.cons (.tmp rfl) .nil))⟩
  refine rn 7 rfl ?_
  refine spO 16 h rfl (fun hb19 h => ?_) (fun hb19 h => ?_)
  · refine rn 21 rfl ?_
    replace h := Option.some.inj h
    subst h
    exact wR ⟨.inl rfl, [(6, (V.own 0 ([] : List (List UInt8)).length)), (7, (iV 9))], (Ghost.trans (ghost_nilE 6 9 1 rfl) (ghost_ren 1 (fun i => ([0] : List Nat).getD i 0) _ _ (by decide) (EnvSub.get (.cons (Sub.ownE rfl rfl (by simp)) (.cons (Sub.imm (Imm.con _)) .nil))) (HpSub.get (.cons rfl (ObSub.rows (rows_imm imms_encS)) .nil)) rfl)), (.cons (.tmp rfl) (.cons (.tmp rfl) .nil))⟩
  refine rn 2 rfl ?_
  refine ln rfl rfl ?_
  refine rn 3 rfl ?_
  refine spO 22 h rfl (fun hb20 h => ?_) (fun hb20 h => ?_)
  · refine rn 15 rfl ?_
    replace h := Option.some.inj h
    subst h
    exact wR ⟨.inl rfl, [(6, (V.own 0 ([] : List (List UInt8)).length)), (7, (iV 9))], (Ghost.trans (ghost_nilE 6 9 1 rfl) (ghost_ren 1 (fun i => ([0] : List Nat).getD i 0) _ _ (by decide) (EnvSub.get (.cons (Sub.ownE rfl rfl (by simp)) (.cons (Sub.imm (Imm.con _)) .nil))) (HpSub.get (.cons rfl (ObSub.rows (rows_imm imms_encS)) .nil)) rfl)), (.cons (.tmp rfl) (.cons (.tmp rfl) .nil))⟩
  refine rn 4 rfl ?_
  refine spO 26 h rfl (fun hb21 h => ?_) (fun hb21 h => ?_)
  · refine rn 11 rfl ?_
    replace h := Option.some.inj h
    subst h
    exact wR ⟨.inl rfl, [(6, (V.own 0 ([] : List (List UInt8)).length)), (7, (iV 9))], (Ghost.trans (ghost_nilE 6 9 1 rfl) (ghost_ren 1 (fun i => ([0] : List Nat).getD i 0) _ _ (by decide) (EnvSub.get (.cons (Sub.ownE rfl rfl (by simp)) (.cons (Sub.imm (Imm.con _)) .nil))) (HpSub.get (.cons rfl (ObSub.rows (rows_imm imms_encS)) .nil)) rfl)), (.cons (.tmp rfl) (.cons (.tmp rfl) .nil))⟩
  refine rn 5 rfl ?_
  refine spC h rfl (fun hb22 h => ?_) (fun hb22 h => ?_)
  · refine rn 5 rfl ?_
    replace h := Option.some.inj h
    subst h
    exact wR ⟨.inl rfl, [(6, (V.own 0 ([] : List (List UInt8)).length)), (7, (iV 9))], (Ghost.trans (ghost_nilE 6 9 1 rfl) (ghost_ren 1 (fun i => ([0] : List Nat).getD i 0) _ _ (by decide) (EnvSub.get (.cons (Sub.ownE rfl rfl (by simp)) (.cons (Sub.imm (Imm.con _)) .nil))) (HpSub.get (.cons rfl (ObSub.rows (rows_imm imms_encS)) .nil)) rfl)), (.cons (.tmp rfl) (.cons (.tmp rfl) .nil))⟩
  refine rn 5 rfl ?_
  refine ck h (fun hc23 h => ?_)
  refine aops_slice_lst (0) (a3.toNat) ((a1.take a3.toNat).map encS) tSl50 wants_none rfl rfl ⟨_, (by rw [Int.toNat_of_nonneg hc23.1]; exact rfl)⟩ (Nat.zero_le _) (by simpa using hc23.2) slL_lo rfl ?_
  obtain ⟨y24, hx25, h⟩ := bind_some h
  refine fo (rn 1 rfl ?_)
  refine aops_mcallS (V.own 0 y24.length) [(V.lst 1 ((a1.take a3.toNat).map encS)), (iV a2), (bV true)] (fun i => ([] : List Nat).getD i 0) (fun i => ([0] : List Nat).getD i 0) 0 1 [(0, (Ob.arr 9 1 (y24.map encS)))] fOk72 wants_none rfl (evm_cons rfl (evm_cons rfl (evm_cons rfl evm_nil))) (.cons (Sub.imm (Imm.lst _ _)) (.cons (Sub.imm (Imm.con _)) (.cons (Sub.imm (Imm.con _)) .nil))) .nil (W72 F (a1.take a3.toNat) a2 true y24 hx25) rfl rfl rfl rfl (Sub.ownT rfl rfl) (.cons rfl (ObSub.rowsT (rows_imm imms_encS)) .nil) _ rfl ?_
  refine fo (rn 3 rfl ?_)
  replace h := Option.some.inj h
  subst h
  exact wR ⟨.inl rfl, [(6, (V.own 0 y24.length)), (7, (iV 0))], (gr [0] rfl (hR rfl rfl .nil) rfl), (.cons (.tmp rfl) (.cons (.tmp rfl) .nil))⟩
theorem W20 (F : Nat) (a1 : Int) (a2 : Int) (a3 : List (List UInt8)) (r : (Int × (List (List UInt8)))) (h : M20 F a1 a2 a3 = some r) : MutG gl Tryz.prog 20 [(V.ptr 0 1 0 0), (iV a1), (iV a2)] 2 [(0, (Ob.arr 95 1 [[(V.own 1 a3.length)]])), (1, (Ob.arr 9 1 (a3.map encS)))] (resV [(V.own 2 (r.2).length), (iV (r.1))]) 3 [(0, (Ob.arr 95 1 [[(V.own 1 a3.length)]])), (1, (Ob.arr 9 1 (a3.map encS))), (2, (Ob.arr 9 1 ((r.2).map encS)))] := by
  refine mut_enter Tryz.func20 rfl rfl (l := [.tmp 6, .tmp 7]) rfl rfl [(0, (V.ptr 0 1 0 0)), (1, (iV a1)), (2, (iV a2))] rfl (fun w0 m0 β0 hg => en ?_)
  unfold M20 at h
  obtain ⟨y8, hx9, h⟩ := bind_some h
  refine rn 13 rfl ?_
  refine aops_lendm_callS (V.tup [(V.own 2 (y8.2).length), (iV (y8.1))]) [(V.lst 1 (a3.map encS)), (iV a1), (iV a2)] 2 fOk42 (ghost_frzE 1 11 rfl (rows_imm imms_encS) rfl (List.length_map ..).symm) wants_none (evm_cons rfl (evm_cons rfl (evm_cons rfl evm_nil))) (.cons (Imm.lst _ _) (.cons (Imm.con _) (.cons (Imm.con _) .nil))) (W42 F a3 a1 a2 y8 hx9) rfl (rows_con (fun x => rfl)) Lent.pair rfl ?_
  refine fo (rn 5 rfl ?_)
  replace h := Option.some.inj h
  subst h
  exact wR ⟨.inl rfl, [(6, (V.own 2 (y8.2).length)), (7, (iV (y8.1)))], (gr [0, 1, 2] rfl (hB rfl rfl rfl (hR rfl rfl (hR rfl rfl .nil))) rfl), (.cons (.tmp rfl) (.cons (.tmp rfl) .nil))⟩
theorem W45_B (R45 : (List UInt8) → Int → Int → (List (List UInt8)) → Option ((List UInt8) × Bool)) (hR45 : ∀ (a1 : (List UInt8)) (a2 : Int) (a3 : Int) (a4 : (List (List UInt8))) (r : ((List UInt8) × Bool)), R45 a1 a2 a3 a4 = some r → PureG gl Tryz.prog 45 [(sV a1), (iV a2), (iV a3), (V.lst 1 (a4.map encS))] (V.tup [(sV (r.1)), (bV (r.2))])) (F : Nat) (a1 : (List UInt8)) (a2 : Int) (a3 : Int) (a4 : (List (List UInt8))) (r : ((List UInt8) × Bool)) (h : M45_B R45 F a1 a2 a3 a4 = some r) : PureG gl Tryz.prog 45 [(sV a1), (iV a2), (iV a3), (V.lst 1 (a4.map encS))] (V.tup [(sV (r.1)), (bV (r.2))]) := by
  refine pin (fun r => (V.tup [(sV (r.1)), (bV (r.2))])) r rfl Tryz.func45 rfl rfl rfl rfl rfl (fun w0 m0 hg => ?_)
  unfold M45_B at h
  refine rn 8 rfl ?_
  refine ln rfl rfl ?_
  refine rn 9 rfl ?_
  refine spO 21 h rfl (fun hb5 h => ?_) (fun hb5 h => ?_)
  · refine rn 11 rfl ?_
    refine fxO 28 hb5 rfl ?_
    refine rn 6 rfl ?_
    exact rt h rfl
  refine rn 4 rfl ?_
  refine spC h rfl (fun hb6 h => ?_) (fun hb6 h => ?_)
  · refine rn 6 rfl ?_
    refine fxO 28 hb5 rfl ?_
    refine rn 6 rfl ?_
    exact rt h rfl
  refine rn 4 rfl ?_
  refine cl h rfl rfl rfl (W69 _ _) rfl (fun y7 hx8 h => ?_)
  refine rn 9 rfl ?_
  refine spC h rfl (fun hb9 h => ?_) (fun hb9 h => ?_)
  · refine rn 7 rfl ?_
    refine ck h (fun hc10 h => ?_)
    refine aops_slice_lst (0) ((w64 (((a4.length : Nat) : Int) - 1)).toNat) ((a4.take (w64 (((a4.length : Nat) : Int) - 1)).toNat).map encS) tSl50 wants_none rfl rfl ⟨_, (by rw [Int.toNat_of_nonneg hc10.1]; exact rfl)⟩ (Nat.zero_le _) (by simpa using hc10.2) slL_lo rfl ?_
    refine fo ?_
    refine cl h rfl rfl rfl (hR45 _ _ _ _) rfl (fun y11 hx12 h => ?_)
    refine rn 11 rfl ?_
    refine ixl h rfl rfl (fun x13 hx14 h => ?_)
    refine rn 1 rfl ?_
    refine cl h rfl rfl rfl (W70 _ _ _) rfl (fun y15 hx16 h => ?_)
    refine rn 4 rfl ?_
    exact rt h rfl
  refine rn 12 rfl ?_
  refine ck h (fun hc17 h => ?_)
  refine aops_slice_lst (0) ((w64 (((a4.length : Nat) : Int) - 1)).toNat) ((a4.take (w64 (((a4.length : Nat) : Int) - 1)).toNat).map encS) tSl50 wants_none rfl rfl ⟨_, (by rw [Int.toNat_of_nonneg hc17.1]; exact rfl)⟩ (Nat.zero_le _) (by simpa using hc17.2) slL_lo rfl ?_
  refine fo ?_
  refine cl h rfl rfl rfl (hR45 _ _ _ _) rfl (fun y18 hx19 h => ?_)
  refine rn 10 rfl ?_
  refine ixl h rfl rfl (fun x20 hx21 h => ?_)
  refine rn 2 rfl ?_
  refine cl h rfl rfl rfl (W70 _ _ _) rfl (fun y22 hx23 h => ?_)
  refine rn 4 rfl ?_
  exact rt h rfl
theorem W45 : ∀ (F : Nat) (a1 : (List UInt8)) (a2 : Int) (a3 : Int) (a4 : (List (List UInt8))) (r : ((List UInt8) × Bool)) (h : M45 F a1 a2 a3 a4 = some r), PureG gl Tryz.prog 45 [(sV a1), (iV a2), (iV a3), (V.lst 1 (a4.map encS))] (V.tup [(sV (r.1)), (bV (r.2))]) := by
  intro F
  induction F with
  | zero => intros; simp [M45] at *
  | succ F ih => exact fun a1 a2 a3 a4 r h => W45_B (M45 F) ih F a1 a2 a3 a4 r h
theorem W46 (F : Nat) (a1 : (List UInt8)) (a2 : (List UInt8)) (r : Bool) (h : M46 F a1 a2 = some r) : PureG gl Tryz.prog 46 [(sV a1), (sV a2)] (bV r) := by
  refine pin (fun r => (bV r)) r rfl Tryz.func46 rfl rfl rfl rfl rfl (fun w0 m0 hg => ?_)
  unfold M46 at h
  refine rn 7 rfl ?_
  refine cl h rfl rfl rfl (W73 _ _) rfl (fun y3 hx4 h => ?_)
  refine rn 10 rfl ?_
  refine cl h rfl rfl rfl (W73 _ _) rfl (fun y5 hx6 h => ?_)
  refine rn 11 rfl ?_
  refine spO 20 h rfl (fun hb7 h => ?_) (fun hb7 h => ?_)
  · refine rn 3 rfl ?_
    refine spO 23 h rfl (fun hb8 h => ?_) (fun hb8 h => ?_)
    · refine rn 2 rfl ?_
      refine ck h (fun hc9 h => ?_)
      refine aops_eqBytes (n := 16) false (y3.1) (y5.1) tAB137 hc9.1 hc9.2 (wants_some (c := true) (b := true) 23 rfl rfl rfl) rfl rfl rfl rfl rfl ?_
      refine fo (rn 3 rfl ?_)
      exact rt h rfl
    refine rn 6 rfl ?_
    exact rt h rfl
  refine rn 9 rfl ?_
  exact rt h rfl
theorem W21 (F : Nat) (a1 : (List UInt8)) (a2 : (List UInt8)) (a3 : Int) (a4 : Int) (a5 : (List (List UInt8))) (r : (Bool × Int)) (h : M21 F a1 a2 a3 a4 a5 = some r) : PureG gl Tryz.prog 21 [(sV a1), (sV a2), (iV a3), (iV a4), (V.lst 1 (a5.map encS))] (V.tup [(bV (r.1)), (iV (r.2))]) := by
  refine pin (fun r => (V.tup [(bV (r.1)), (iV (r.2))])) r rfl Tryz.func21 rfl rfl rfl rfl rfl (fun w0 m0 hg => ?_)
  unfold M21 at h
  refine rn 10 rfl ?_
  refine cl h rfl rfl rfl (W43 _ _) rfl (fun y6 hx7 h => ?_)
  refine rn 2 rfl ?_
  refine spO 19 h rfl (fun hb8 h => ?_) (fun hb8 h => ?_)
  · refine rn 12 rfl ?_
    exact rt h rfl
  refine rn 1 rfl ?_
  refine cl h rfl rfl rfl (W43 _ _) rfl (fun y9 hx10 h => ?_)
  refine rn 4 rfl ?_
  refine spC h rfl (fun hb11 h => ?_) (fun hb11 h => ?_)
  · refine rn 5 rfl ?_
    exact rt h rfl
  refine rn 5 rfl ?_
  refine spO 27 h rfl (fun hb12 h => ?_) (fun hb12 h => ?_)
  · refine rn 20 rfl ?_
    exact rt h rfl
  refine rn 4 rfl ?_
  refine spO 31 h rfl (fun hb13 h => ?_) (fun hb13 h => ?_)
  · refine rn 16 rfl ?_
    exact rt h rfl
  refine rn 4 rfl ?_
  refine spO 35 h rfl (fun hb14 h => ?_) (fun hb14 h => ?_)
  · refine rn 12 rfl ?_
    exact rt h rfl
  refine rn 6 rfl ?_
  refine spC h rfl (fun hb15 h => ?_) (fun hb15 h => ?_)
  · refine rn 5 rfl ?_
    exact rt h rfl
  refine rn 6 rfl ?_
  refine cl h rfl rfl rfl (W44 _ _ _) rfl (fun y16 hx17 h => ?_)
  refine rn 7 rfl ?_
  refine spC h rfl (fun hb18 h => ?_) (fun hb18 h => ?_)
  · refine rn 6 rfl ?_
    exact rt h rfl
  refine rn 7 rfl ?_
  refine cl h rfl rfl rfl (W45 _ _ _ _ _) rfl (fun y19 hx20 h => ?_)
  refine rn 10 rfl ?_
  refine spO 54 h rfl (fun hb21 h => ?_) (fun hb21 h => ?_)
  · refine rn 2 rfl ?_
    refine cl h rfl rfl rfl (W46 _ _ _) rfl (fun y22 hx23 h => ?_)
    refine rn 4 rfl ?_
    exact rt h rfl
  refine rn 7 rfl ?_
  exact rt h rfl
theorem W47_B (R47 : (List UInt8) → Int → Int → Bool → (List (List UInt8)) → Option ((List UInt8) × (List UInt8) × Bool)) (hR47 : ∀ (a1 : (List UInt8)) (a2 : Int) (a3 : Int) (a4 : Bool) (a5 : (List (List UInt8))) (r : ((List UInt8) × (List UInt8) × Bool)), R47 a1 a2 a3 a4 a5 = some r → PureG gl Tryz.prog 47 [(sV a1), (iV a2), (iV a3), (bV a4), (V.lst 1 (a5.map encS))] (V.tup [(sV (r.1)), (sV (r.2.1)), (bV (r.2.2))])) (F : Nat) (a1 : (List UInt8)) (a2 : Int) (a3 : Int) (a4 : Bool) (a5 : (List (List UInt8))) (r : ((List UInt8) × (List UInt8) × Bool)) (h : M47_B R47 F a1 a2 a3 a4 a5 = some r) : PureG gl Tryz.prog 47 [(sV a1), (iV a2), (iV a3), (bV a4), (V.lst 1 (a5.map encS))] (V.tup [(sV (r.1)), (sV (r.2.1)), (bV (r.2.2))]) := by
  refine pin (fun r => (V.tup [(sV (r.1)), (sV (r.2.1)), (bV (r.2.2))])) r rfl Tryz.func47 rfl rfl rfl rfl rfl (fun w0 m0 hg => ?_)
  unfold M47_B at h
  refine rn 9 rfl ?_
  refine ln rfl rfl ?_
  refine rn 11 rfl ?_
  refine spO 28 h rfl (fun hb6 h => ?_) (fun hb6 h => ?_)
  · refine rn 4 rfl ?_
    refine spC h rfl (fun hb7 h => ?_) (fun hb7 h => ?_)
    · refine rn 10 rfl ?_
      exact rt h rfl
    refine rn 6 rfl ?_
    refine fxO 39 hb6 rfl ?_
    refine rn 5 rfl ?_
    refine spC h rfl (fun hb8 h => ?_) (fun hb8 h => ?_)
    · obtain ⟨x9, hx10, h⟩ := bind_some h
      obtain ⟨x11, hx12, h⟩ := bind_some h
      refine rn 1 rfl ?_
      refine dr mixed (vs 1 rfl (iD hx10 rfl rfl rfl (vs 2 rfl (iD hx12 rfl rfl rfl (vs 4 rfl .nil))))) (by kernel_rfl) ?_
      exact rt h rfl
    refine rn 6 rfl ?_
    refine fxO 53 hb6 rfl ?_
    refine rn 12 rfl ?_
    exact rt h rfl
  refine rn 11 rfl ?_
  refine fxO 39 hb6 rfl ?_
  refine rn 12 rfl ?_
  refine fxO 53 hb6 rfl ?_
  refine rn 5 rfl ?_
  refine spC h rfl (fun hb13 h => ?_) (fun hb13 h => ?_)
  · refine rn 6 rfl ?_
    exact rt h rfl
  refine rn 5 rfl ?_
  refine cl h rfl rfl rfl (W69 _ _) rfl (fun y14 hx15 h => ?_)
  refine rn 9 rfl ?_
  refine spC h rfl (fun hb16 h => ?_) (fun hb16 h => ?_)
  · refine rn 8 rfl ?_
    refine ck h (fun hc17 h => ?_)
    refine aops_slice_lst (0) ((w64 (((a5.length : Nat) : Int) - 1)).toNat) ((a5.take (w64 (((a5.length : Nat) : Int) - 1)).toNat).map encS) tSl50 wants_none rfl rfl ⟨_, (by rw [Int.toNat_of_nonneg hc17.1]; exact rfl)⟩ (Nat.zero_le _) (by simpa using hc17.2) slL_lo rfl ?_
    refine fo ?_
    refine cl h rfl rfl rfl (hR47 _ _ _ _ _) rfl (fun y18 hx19 h => ?_)
    refine rn 14 rfl ?_
    refine ixl h rfl rfl (fun x20 hx21 h => ?_)
    refine rn 1 rfl ?_
    refine cl h rfl rfl rfl (W70 _ _ _) rfl (fun y22 hx23 h => ?_)
    refine rn 5 rfl ?_
    exact rt h rfl
  refine rn 12 rfl ?_
  refine ck h (fun hc24 h => ?_)
  refine aops_slice_lst (0) ((w64 (((a5.length : Nat) : Int) - 1)).toNat) ((a5.take (w64 (((a5.length : Nat) : Int) - 1)).toNat).map encS) tSl50 wants_none rfl rfl ⟨_, (by rw [Int.toNat_of_nonneg hc24.1]; exact rfl)⟩ (Nat.zero_le _) (by simpa using hc24.2) slL_lo rfl ?_
  refine fo ?_
  refine cl h rfl rfl rfl (hR47 _ _ _ _ _) rfl (fun y25 hx26 h => ?_)
  obtain ⟨x27, hx28, h⟩ := bind_some h
  obtain ⟨y29, hx30, h⟩ := bind_some h
  obtain ⟨x31, hx32, h⟩ := bind_some h
  obtain ⟨y33, hx34, h⟩ := bind_some h
  refine rn 9 rfl ?_
  refine dr mixed (vs 2 rfl (iD hx28 rfl rfl rfl (vs 2 rfl (cD rfl rfl rfl rfl (W70 _ _ _ _ hx30) rfl (vs 2 rfl (iD hx32 rfl rfl rfl (vs 2 rfl (cD rfl rfl rfl rfl (W70 _ _ _ _ hx34) rfl (vs 4 rfl .nil))))))))) (by kernel_rfl) ?_
  exact rt h rfl
theorem W47 : ∀ (F : Nat) (a1 : (List UInt8)) (a2 : Int) (a3 : Int) (a4 : Bool) (a5 : (List (List UInt8))) (r : ((List UInt8) × (List UInt8) × Bool)) (h : M47 F a1 a2 a3 a4 a5 = some r), PureG gl Tryz.prog 47 [(sV a1), (iV a2), (iV a3), (bV a4), (V.lst 1 (a5.map encS))] (V.tup [(sV (r.1)), (sV (r.2.1)), (bV (r.2.2))]) := by
  intro F
  induction F with
  | zero => intros; simp [M47] at *
  | succ F ih => exact fun a1 a2 a3 a4 a5 r h => W47_B (M47 F) ih F a1 a2 a3 a4 a5 r h
theorem W22 (F : Nat) (a1 : (List UInt8)) (a2 : (List UInt8)) (a3 : Int) (a4 : Int) (a5 : (List (List UInt8))) (r : (Bool × Int)) (h : M22 F a1 a2 a3 a4 a5 = some r) : PureG gl Tryz.prog 22 [(sV a1), (sV a2), (iV a3), (iV a4), (V.lst 1 (a5.map encS))] (V.tup [(bV (r.1)), (iV (r.2))]) := by
  refine pin (fun r => (V.tup [(bV (r.1)), (iV (r.2))])) r rfl Tryz.func22 rfl rfl rfl rfl rfl (fun w0 m0 hg => ?_)
  unfold M22 at h
  refine rn 10 rfl ?_
  refine cl h rfl rfl rfl (W43 _ _) rfl (fun y6 hx7 h => ?_)
  refine rn 2 rfl ?_
  refine spO 20 h rfl (fun hb8 h => ?_) (fun hb8 h => ?_)
  · refine rn 12 rfl ?_
    exact rt h rfl
  refine rn 1 rfl ?_
  refine cl h rfl rfl rfl (W43 _ _) rfl (fun y9 hx10 h => ?_)
  refine rn 4 rfl ?_
  refine spC h rfl (fun hb11 h => ?_) (fun hb11 h => ?_)
  · refine rn 5 rfl ?_
    exact rt h rfl
  refine rn 5 rfl ?_
  refine spO 28 h rfl (fun hb12 h => ?_) (fun hb12 h => ?_)
  · refine rn 20 rfl ?_
    exact rt h rfl
  refine rn 4 rfl ?_
  refine spO 32 h rfl (fun hb13 h => ?_) (fun hb13 h => ?_)
  · refine rn 16 rfl ?_
    exact rt h rfl
  refine rn 4 rfl ?_
  refine spO 36 h rfl (fun hb14 h => ?_) (fun hb14 h => ?_)
  · refine rn 12 rfl ?_
    exact rt h rfl
  refine rn 6 rfl ?_
  refine spC h rfl (fun hb15 h => ?_) (fun hb15 h => ?_)
  · refine rn 5 rfl ?_
    exact rt h rfl
  refine rn 6 rfl ?_
  refine cl h rfl rfl rfl (W44 _ _ _) rfl (fun y16 hx17 h => ?_)
  refine rn 7 rfl ?_
  refine spC h rfl (fun hb18 h => ?_) (fun hb18 h => ?_)
  · refine rn 6 rfl ?_
    exact rt h rfl
  refine rn 7 rfl ?_
  refine cl h rfl rfl rfl (W47 _ _ _ _ _ _) rfl (fun y19 hx20 h => ?_)
  refine rn 12 rfl ?_
  refine spO 56 h rfl (fun hb21 h => ?_) (fun hb21 h => ?_)
  · refine rn 2 rfl ?_
    refine cl h rfl rfl rfl (W46 _ _ _) rfl (fun y22 hx23 h => ?_)
    refine rn 2 rfl ?_
    refine spO 61 h rfl (fun hb24 h => ?_) (fun hb24 h => ?_)
    · refine rn 2 rfl ?_
      refine cl h rfl rfl rfl (W46 _ _ _) rfl (fun y25 hx26 h => ?_)
      refine rn 4 rfl ?_
      exact rt h rfl
    refine rn 7 rfl ?_
    exact rt h rfl
  refine rn 12 rfl ?_
  exact rt h rfl
theorem W74 (F : Nat) (a1 : (List UInt8)) (a2 : Int) (r : Bool) (h : M74 F a1 a2 = some r) : PureG gl Tryz.prog 74 [(sV a1), (iV a2)] (bV r) := by
  refine pin (fun r => (bV r)) r rfl Tryz.func74 rfl rfl rfl rfl rfl (fun w0 m0 hg => ?_)
  unfold M74 at h
  refine rn 9 rfl ?_
  refine jK h (fun _ : Unit => (⟨[(0, (sV a1)), (1, (iV a2))], [], 0⟩ : St)) (fun k3 (_ : Unit) => k3 = some r) (fun k3 h => ?_) ?_
  · refine rn 1 rfl ?_
    refine ck h (fun hA29 h => ?_)
    refine lC (fun (p : Int) => (⟨[(0, (sV a1)), (1, (iV a2)), (5, (iV p))], [], 0⟩ : St)) (fun n (p : Int) => RC (a1.length : Int) (fun tl nn => M74_L1 F a1 k3 tl nn = some r) n p) (fun p h => RC.zero h) (Int.toNat (a1.length : Int) + 1) 0 (RC.start h) (g0 rfl rfl) (fun n n5 h => ?_)
    refine rn 8 rfl ?_
    refine spL rfl (fun hb6 => ?_) (fun hb6 => ?_)
    · obtain ⟨tl, h, hk1⟩ := RC.t hA29 h hb6
      unfold M74_L1 at h
      refine rn 2 rfl ?_
      refine jK h (fun _ : Unit => (⟨[(0, (sV a1)), (1, (iV a2)), (5, (iV n5))], [], 0⟩ : St)) (fun k7 (_ : Unit) => k7 = some r) (fun k7 h => ?_) ?_
      · refine rn 5 rfl ?_
        refine ixs h rfl rfl (fun c8 hx9 h => ?_)
        refine rn 2 rfl ?_
        refine spO 16 h rfl (fun hb10 h => ?_) (fun hb10 h => ?_)
        · refine rn 2 rfl ?_
          refine ixs h rfl rfl (fun c11 hx12 h => ?_)
          refine rn 3 rfl ?_
          refine spO 22 h rfl (fun hb13 h => ?_) (fun hb13 h => ?_)
          · refine rn 13 rfl ?_
            refine spC h rfl (fun hb14 h => ?_) (fun hb14 h => ?_)
            · refine rn 4 rfl ?_
              exact rt h rfl
            refine rn 2 rfl ?_
            exact jX () h (g0 rfl rfl)
          refine rn 2 rfl ?_
          refine ixs h rfl rfl (fun c15 hx16 h => ?_)
          refine rn 2 rfl ?_
          refine spO 27 h rfl (fun hb17 h => ?_) (fun hb17 h => ?_)
          · refine rn 2 rfl ?_
            refine ixs h rfl rfl (fun c18 hx19 h => ?_)
            refine rn 5 rfl ?_
            refine spC h rfl (fun hb20 h => ?_) (fun hb20 h => ?_)
            · refine rn 4 rfl ?_
              exact rt h rfl
            refine rn 2 rfl ?_
            exact jX () h (g0 rfl rfl)
          refine rn 8 rfl ?_
          refine spC h rfl (fun hb21 h => ?_) (fun hb21 h => ?_)
          · refine rn 4 rfl ?_
            exact rt h rfl
          refine rn 2 rfl ?_
          exact jX () h (g0 rfl rfl)
        refine rn 8 rfl ?_
        refine ixs h rfl rfl (fun c22 hx23 h => ?_)
        refine rn 2 rfl ?_
        refine spO 27 h rfl (fun hb24 h => ?_) (fun hb24 h => ?_)
        · refine rn 2 rfl ?_
          refine ixs h rfl rfl (fun c25 hx26 h => ?_)
          refine rn 5 rfl ?_
          refine spC h rfl (fun hb27 h => ?_) (fun hb27 h => ?_)
          · refine rn 4 rfl ?_
            exact rt h rfl
          refine rn 2 rfl ?_
          exact jX () h (g0 rfl rfl)
        refine rn 8 rfl ?_
        refine spC h rfl (fun hb28 h => ?_) (fun hb28 h => ?_)
        · refine rn 4 rfl ?_
          exact rt h rfl
        refine rn 2 rfl ?_
        exact jX () h (g0 rfl rfl)
      intro _ h
      refine rn 5 rfl ?_
      exact jX (w64 (n5 + 1)) (hk1 _ h) (g0 rfl rfl)
    replace h := RC.f h hb6
    unfold M74_L1 at h
    refine rn 1 rfl ?_
    exact jX () h (g0 rfl rfl)
  intro _ h
  refine rn 8 rfl ?_
  exact rt h rfl
theorem W48 (F : Nat) (a1 : (List UInt8)) (r : Bool) (h : M48 F a1 = some r) : PureG gl Tryz.prog 48 [(sV a1)] (bV r) := by
  refine pin (fun r => (bV r)) r rfl Tryz.func48 rfl rfl rfl rfl rfl (fun w0 m0 hg => ?_)
  unfold M48 at h
  refine rn 7 rfl ?_
  refine cl h rfl rfl rfl (W74 _ _ _) rfl (fun y2 hx3 h => ?_)
  refine rn 2 rfl ?_
  exact rt h rfl
theorem W49 (F : Nat) (a1 : Int) (a2 : Bool) (a3 : (List (List UInt8))) (r : Int) (h : M49 F a1 a2 a3 = some r) : PureG gl Tryz.prog 49 [(iV a1), (bV a2), (V.lst 1 (a3.map encS))] (iV r) := by
  refine pin (fun r => (iV r)) r rfl Tryz.func49 rfl rfl rfl rfl rfl (fun w0 m0 hg => ?_)
  unfold M49 at h
  refine rn 10 rfl ?_
  refine spO 11 h rfl (fun hb4 h => ?_) (fun hb4 h => ?_)
  · refine rn 13 rfl ?_
    exact rt h rfl
  refine rn 4 rfl ?_
  refine spO 15 h rfl (fun hb5 h => ?_) (fun hb5 h => ?_)
  · refine rn 9 rfl ?_
    exact rt h rfl
  refine rn 4 rfl ?_
  refine spC h rfl (fun hb6 h => ?_) (fun hb6 h => ?_)
  · refine rn 4 rfl ?_
    exact rt h rfl
  refine rn 5 rfl ?_
  refine ln rfl rfl ?_
  refine rn 2 rfl ?_
  refine spC h rfl (fun hb7 h => ?_) (fun hb7 h => ?_)
  · refine rn 4 rfl ?_
    exact rt h rfl
  refine rn 5 rfl ?_
  refine ln rfl rfl ?_
  refine rn 2 rfl ?_
  refine jK h (fun _ : Unit => (⟨[], [], 0⟩ : St)) (fun k8 (_ : Unit) => k8 = some r) (fun k8 h => ?_) ?_
  · refine rn 1 rfl ?_
    refine wl (A := a3) 2 rfl (fun hA17 => ?_)
    refine lC (fun (p : Int) => (⟨[(22, (V.lst 1 (a3.map encS))), (23, (iV ((a3.length : Nat) : Int))), (24, (iV p))], [], 0⟩ : St)) (fun n (p : Int) => RG a3 (fun tl nn => M49_L1 F k8 tl = some r) n p) (fun p h => RG.zero h) (a3.length + 1) 0 (RG.start h) (g0 rfl rfl) (fun n n10 h => ?_)
    refine rn 5 rfl ?_
    refine spL rfl (fun hb11 => ?_) (fun hb11 => ?_)
    · obtain ⟨x12, tl, hx13, h, hk1⟩ := RG.t hA17 h hb11
      unfold M49_L1 at h
      refine rn 5 rfl ?_
      refine ixh hx13 rfl rfl ?_
      refine rn 6 rfl ?_
      refine cl h rfl rfl rfl (W48 _ _) rfl (fun y14 hx15 h => ?_)
      refine rn 2 rfl ?_
      refine spC h rfl (fun hb16 h => ?_) (fun hb16 h => ?_)
      · refine rn 4 rfl ?_
        exact rt h rfl
      refine rn 6 rfl ?_
      exact jX (w64 (n10 + 1)) (hk1 _ h) (g0 rfl rfl)
    replace h := RG.f h hb11
    unfold M49_L1 at h
    refine rn 1 rfl ?_
    exact jX () h (g0 rfl rfl)
  intro _ h
  refine rn 4 rfl ?_
  exact rt h rfl
theorem W75 (F : Nat) (a1 : Int) (r : Int) (h : M75 F a1 = some r) : PureG gl Tryz.prog 75 [(iV a1)] (iV r) := by
  refine pin (fun r => (iV r)) r rfl Tryz.func75 rfl rfl rfl rfl rfl (fun w0 m0 hg => ?_)
  unfold M75 at h
  refine rn 9 rfl ?_
  refine jK h (fun (p : Int) => (⟨[(3, (iV p))], [], 0⟩ : St)) (fun k2 (p : Int) => k2 p = some r) (fun k2 h => ?_) ?_
  · refine rn 1 rfl ?_
    refine lC (fun (p : Int) => (⟨[(0, (iV a1)), (3, (iV p))], [], 0⟩ : St)) (fun n (p : Int) => M75_L1 F a1 k2 n p = some r) (fun p h => by simp [M75_L1] at h) F 1 h (g0 rfl rfl) (fun n n5 h => ?_)
    unfold M75_L1 at h
    refine rn 8 rfl ?_
    refine spC h rfl (fun hb6 h => ?_) (fun hb6 h => ?_)
    · refine rn 8 rfl ?_
      exact jX (w64 (n5 * 2)) h (g0 rfl rfl)
    refine rn 1 rfl ?_
    exact jX n5 h (g0 rfl rfl)
  intro n3 h
  refine rn 5 rfl ?_
  exact rt h rfl
theorem W90 (F : Nat) (a1 : (List UInt8)) (r : (List UInt8)) (h : M90 F a1 = some r) : PureG gl Tryz.prog 90 [(sV a1)] (sV r) := by
  refine pin (fun r => (sV r)) r rfl Tryz.func90 rfl rfl rfl rfl rfl (fun w0 m0 hg => ?_)
  unfold M90 at h
  refine rn 13 rfl ?_
  refine jK h (fun (p : Int) => (⟨[(3, (V.con (.int .u64 p)))], [], 0⟩ : St)) (fun k2 (p : Int) => k2 p = some r) (fun k2 h => ?_) ?_
  · refine rn 1 rfl ?_
    refine ck h (fun hA11 h => ?_)
    refine lC (fun (p : Int × Int) => (⟨[(0, (sV a1)), (3, (V.con (.int .u64 (p.1)))), (4, (iV (p.2)))], [], 0⟩ : St)) (fun n (p : Int × Int) => RC (a1.length : Int) (fun tl nn => M90_L1 F a1 k2 tl nn p.1 = some r) n p.2) (fun p h => RC.zero h) (Int.toNat (a1.length : Int) + 1) (14695981039346656037, 0) (RC.start h) (g0 rfl rfl) (fun n p h => ?_)
    obtain ⟨n6, n7⟩ := p
    refine rn 8 rfl ?_
    refine spL rfl (fun hb8 => ?_) (fun hb8 => ?_)
    · obtain ⟨tl, h, hk1⟩ := RC.t hA11 h hb8
      unfold M90_L1 at h
      refine rn 7 rfl ?_
      refine ixs h rfl rfl (fun c9 hx10 h => ?_)
      refine rn 11 rfl ?_
      exact jX ((IntKind.wrap .u64 ((IntKind.wrap .u64 ((BitVec.ofInt (IntKind.bits .u64) n6 ^^^ BitVec.ofInt (IntKind.bits .u64) (IntKind.wrap .u64 (c9.toNat : Int))).toNat : Int)) * 1099511628211)), (w64 (n7 + 1))) (hk1 _ h) (g0 rfl rfl)
    replace h := RC.f h hb8
    unfold M90_L1 at h
    refine rn 1 rfl ?_
    exact jX n6 h (g0 rfl rfl)
  intro n3 h
  refine rn 9 rfl ?_
  refine jK h (fun (p : (List Int)) => (⟨[(5, (V.own 0 p.length))], [(0, (Ob.arr 5 1 (p.map encI_u8)))], 1⟩ : St)) (fun k12 (p : (List Int)) => k12 p = some r) (fun k12 h => ?_) ?_
  · refine rn 1 rfl ?_
    refine lC (fun (p : Int × (List Int)) => (⟨[(3, (V.con (.int .u64 n3))), (5, (V.own 0 (p.2).length)), (6, (iV (p.1)))], [(0, (Ob.arr 5 1 ((p.2).map encI_u8)))], 1⟩ : St)) (fun n (p : Int × (List Int)) => M90_L2 F n3 k12 n p.1 p.2 = some r) (fun p h => by simp [M90_L2] at h) F (60, ([] : List Int)) h (Ghost.trans (ghost_nilE 5 5 1 rfl) (ghost_ren 1 (fun i => ([0] : List Nat).getD i 0) _ _ (by decide) (EnvSub.get (.cons (Sub.imm (Imm.con _)) (.cons (Sub.ownE rfl rfl (by simp)) (.cons (Sub.imm (Imm.con _)) .nil)))) (HpSub.get (.cons rfl (ObSub.rows (rows_imm imms_encI_u8)) .nil)) rfl)) (fun n p h => ?_)
    obtain ⟨n16, l17⟩ := p
    unfold M90_L2 at h
    refine rn 6 rfl ?_
    refine spC h rfl (fun hb18 h => ?_) (fun hb18 h => ?_)
    · refine rn 7 rfl ?_
      refine ck h (fun hc19 h => ?_)
      refine aops_bin (.int .u64 (Int.fdiv n3 (2 ^ (min (Int.toNat n16) (IntKind.bits .u64))))) wants_none rfl rfl (binS_shr hc19) rfl ?_
      refine fo (rn 1 rfl ?_)
      refine ixs h rfl rfl (fun c20 hx21 h => ?_)
      refine aops_buildSlice [(0, (V.con (.int .u8 (c20.toNat : Int))))] [[(V.con (.int .u8 (c20.toNat : Int)))]] tEl168 tZ5 rfl rfl rfl rfl wants_none (evp_cons rfl evp_nil) rfl rfl (by simp) rfl ?_
      refine fo ?_
      refine apO encI_u8 h rfl rfl rfl rfl rfl rfl rfl rfl (fun h => ?_)
      refine rn 8 rfl ?_
      exact jX ((w64 (n16 - 4)), (l17 ++ ([(c20.toNat : Int)] : List Int))) h (gr [2] rfl (hR rfl rfl .nil) rfl)
    refine rn 1 rfl ?_
    exact jX l17 h (gr [0] rfl (hR rfl rfl .nil) rfl)
  intro l13 h
  refine rn 3 rfl ?_
  refine aops_ghost (ghost_frzE 0 32 rfl (rows_imm imms_encI_u8) rfl (List.length_map ..).symm) ?_
  refine aops_bytesStr l13 tBy168 tStr9 wants_none rfl rfl ?_
  refine fo (rn 2 rfl ?_)
  exact rt h rfl
theorem W76 (F : Nat) (a1 : (List UInt8)) (a2 : (List UInt8)) (r : (List UInt8)) (h : M76 F a1 a2 = some r) : PureG gl Tryz.prog 76 [(sV a1), (sV a2)] (sV r) := by
  refine pin (fun r => (sV r)) r rfl Tryz.func76 rfl rfl rfl rfl rfl (fun w0 m0 hg => ?_)
  unfold M76 at h
  refine rn 7 rfl ?_
  refine ck h (fun hc3 h => ?_)
  refine aops_binT (str (([1] : List UInt8) ++ a1)) wants_none rfl rfl (if_pos hc3) rfl ?_
  refine fo (rn 1 rfl ?_)
  refine ck h (fun hc4 h => ?_)
  refine aops_binT (str ((([1] : List UInt8) ++ a1) ++ a2)) wants_none rfl rfl (if_pos hc4) rfl ?_
  refine fo ?_
  refine cl h rfl rfl rfl (W90 _ _) rfl (fun y5 hx6 h => ?_)
  refine rn 2 rfl ?_
  exact rt h rfl
theorem W50_B (R50 : (List UInt8) → Int → Int → Bool → (List (List UInt8)) → Option ((List UInt8) × (List UInt8) × Bool)) (hR50 : ∀ (a1 : (List UInt8)) (a2 : Int) (a3 : Int) (a4 : Bool) (a5 : (List (List UInt8))) (r : ((List UInt8) × (List UInt8) × Bool)), R50 a1 a2 a3 a4 a5 = some r → PureG gl Tryz.prog 50 [(sV a1), (iV a2), (iV a3), (bV a4), (V.lst 1 (a5.map encS))] (V.tup [(sV (r.1)), (sV (r.2.1)), (bV (r.2.2))])) (F : Nat) (a1 : (List UInt8)) (a2 : Int) (a3 : Int) (a4 : Bool) (a5 : (List (List UInt8))) (r : ((List UInt8) × (List UInt8) × Bool)) (h : M50_B R50 F a1 a2 a3 a4 a5 = some r) : PureG gl Tryz.prog 50 [(sV a1), (iV a2), (iV a3), (bV a4), (V.lst 1 (a5.map encS))] (V.tup [(sV (r.1)), (sV (r.2.1)), (bV (r.2.2))]) := by
  refine pin (fun r => (V.tup [(sV (r.1)), (sV (r.2.1)), (bV (r.2.2))])) r rfl Tryz.func50 rfl rfl rfl rfl rfl (fun w0 m0 hg => ?_)
  unfold M50_B at h
  refine rn 13 rfl ?_
  refine spC h rfl (fun hb6 h => ?_) (fun hb6 h => ?_)
  · refine rn 5 rfl ?_
    refine spC h rfl (fun hb7 h => ?_) (fun hb7 h => ?_)
    · refine rn 5 rfl ?_
      refine ln rfl rfl ?_
      refine rn 5 rfl ?_
      exact rt h rfl
    refine rn 5 rfl ?_
    refine ln rfl rfl ?_
    refine rn 2 rfl ?_
    refine spC h rfl (fun hb8 h => ?_) (fun hb8 h => ?_)
    · refine rn 6 rfl ?_
      exact rt h rfl
    obtain ⟨x9, hx10, h⟩ := bind_some h
    obtain ⟨x11, hx12, h⟩ := bind_some h
    refine rn 2 rfl ?_
    refine dr mixed (vs 1 rfl (iD hx10 rfl rfl rfl (vs 2 rfl (iD hx12 rfl rfl rfl (vs 4 rfl .nil))))) (by kernel_rfl) ?_
    exact rt h rfl
  refine rn 5 rfl ?_
  refine ln rfl rfl ?_
  refine rn 2 rfl ?_
  refine spC h rfl (fun hb13 h => ?_) (fun hb13 h => ?_)
  · refine rn 6 rfl ?_
    exact rt h rfl
  obtain ⟨x14, hx15, h⟩ := bind_some h
  refine rn 2 rfl ?_
  refine ck h (fun hc16 h => ?_)
  refine dr mixed (vs 2 rfl (nD rfl rfl rfl (vs 1 rfl (iD hx15 rfl rfl rfl (vs 3 rfl (nD rfl rfl rfl (vs 1 rfl (xD (OD.mk [(43, (V.lst 1 (a5.map encS))), (46, (iV (w64 (((a5.length : Nat) : Int) - 1))))] [] [(47, (V.lst 1 ((a5.take (w64 (((a5.length : Nat) : Int) - 1)).toNat).map encS)))] []) ⟨⟨rfl, rfl, trivial⟩, trivial⟩ (by exact fun S hn h hh => aops_slice_lst (0) ((w64 (((a5.length : Nat) : Int) - 1)).toNat) ((a5.take (w64 (((a5.length : Nat) : Int) - 1)).toNat).map encS) tSl50 wants_none h.1 rfl ⟨_, (by rw [Int.toNat_of_nonneg hc16.1]; exact h.2.1)⟩ (Nat.zero_le _) (by simpa using hc16.2) slL_lo rfl (aops_nil ⟨rfl, rfl⟩)) rfl (vs 2 rfl .nil))))))))) (by kernel_rfl) ?_
  refine rn 3 rfl ?_
  refine cl h rfl rfl rfl (W75 _ _) rfl (fun y17 hx18 h => ?_)
  refine rn 9 rfl ?_
  refine spC h rfl (fun hb19 h => ?_) (fun hb19 h => ?_)
  · refine rn 7 rfl ?_
    refine cl h rfl rfl rfl (hR50 _ _ _ _ _) rfl (fun y20 hx21 h => ?_)
    refine rn 13 rfl ?_
    refine cl h rfl rfl rfl (W76 _ _ _) rfl (fun y22 hx23 h => ?_)
    refine rn 5 rfl ?_
    exact rt h rfl
  refine rn 11 rfl ?_
  refine cl h rfl rfl rfl (hR50 _ _ _ _ _) rfl (fun y24 hx25 h => ?_)
  refine rn 12 rfl ?_
  refine cl h rfl rfl rfl (W76 _ _ _) rfl (fun y26 hx27 h => ?_)
  refine rn 2 rfl ?_
  refine cl h rfl rfl rfl (W76 _ _ _) rfl (fun y28 hx29 h => ?_)
  refine rn 5 rfl ?_
  exact rt h rfl
theorem W50 : ∀ (F : Nat) (a1 : (List UInt8)) (a2 : Int) (a3 : Int) (a4 : Bool) (a5 : (List (List UInt8))) (r : ((List UInt8) × (List UInt8) × Bool)) (h : M50 F a1 a2 a3 a4 a5 = some r), PureG gl Tryz.prog 50 [(sV a1), (iV a2), (iV a3), (bV a4), (V.lst 1 (a5.map encS))] (V.tup [(sV (r.1)), (sV (r.2.1)), (bV (r.2.2))]) := by
  intro F
  induction F with
  | zero => intros; simp [M50] at *
  | succ F ih => exact fun a1 a2 a3 a4 a5 r h => W50_B (M50 F) ih F a1 a2 a3 a4 a5 r h
theorem W23 (F : Nat) (a1 : (List UInt8)) (a2 : (List UInt8)) (a3 : Int) (a4 : Int) (a5 : (List (List UInt8))) (r : (Bool × Int)) (h : M23 F a1 a2 a3 a4 a5 = some r) : PureG gl Tryz.prog 23 [(sV a1), (sV a2), (iV a3), (iV a4), (V.lst 1 (a5.map encS))] (V.tup [(bV (r.1)), (iV (r.2))]) := by
  refine pin (fun r => (V.tup [(bV (r.1)), (iV (r.2))])) r rfl Tryz.func23 rfl rfl rfl rfl rfl (fun w0 m0 hg => ?_)
  unfold M23 at h
  refine rn 9 rfl ?_
  refine cl h rfl rfl rfl (W48 _ _) rfl (fun y6 hx7 h => ?_)
  refine rn 2 rfl ?_
  refine spO 19 h rfl (fun hb8 h => ?_) (fun hb8 h => ?_)
  · refine rn 11 rfl ?_
    exact rt h rfl
  refine rn 1 rfl ?_
  refine cl h rfl rfl rfl (W48 _ _) rfl (fun y9 hx10 h => ?_)
  refine rn 3 rfl ?_
  refine spC h rfl (fun hb11 h => ?_) (fun hb11 h => ?_)
  · refine rn 5 rfl ?_
    exact rt h rfl
  refine rn 8 rfl ?_
  refine spO 27 h rfl (fun hb12 h => ?_) (fun hb12 h => ?_)
  · refine rn 5 rfl ?_
    refine cl h rfl rfl rfl (W49 _ _ _ _) rfl (fun y13 hx14 h => ?_)
    refine rn 7 rfl ?_
    refine spC h rfl (fun hb15 h => ?_) (fun hb15 h => ?_)
    · refine rn 6 rfl ?_
      exact rt h rfl
    refine rn 7 rfl ?_
    refine cl h rfl rfl rfl (W50 _ _ _ _ _ _) rfl (fun y16 hx17 h => ?_)
    refine rn 12 rfl ?_
    refine spO 47 h rfl (fun hb18 h => ?_) (fun hb18 h => ?_)
    · refine rn 5 rfl ?_
      refine spO 52 h rfl (fun hb19 h => ?_) (fun hb19 h => ?_)
      · refine rn 7 rfl ?_
        exact rt h rfl
      refine rn 7 rfl ?_
      exact rt h rfl
    refine rn 12 rfl ?_
    exact rt h rfl
  refine rn 5 rfl ?_
  refine cl h rfl rfl rfl (W49 _ _ _ _) rfl (fun y20 hx21 h => ?_)
  refine rn 7 rfl ?_
  refine spC h rfl (fun hb22 h => ?_) (fun hb22 h => ?_)
  · refine rn 6 rfl ?_
    exact rt h rfl
  refine rn 7 rfl ?_
  refine cl h rfl rfl rfl (W50 _ _ _ _ _ _) rfl (fun y23 hx24 h => ?_)
  refine rn 12 rfl ?_
  refine spO 47 h rfl (fun hb25 h => ?_) (fun hb25 h => ?_)
  · refine rn 5 rfl ?_
    refine spO 52 h rfl (fun hb26 h => ?_) (fun hb26 h => ?_)
    · refine rn 7 rfl ?_
      exact rt h rfl
    refine rn 7 rfl ?_
    exact rt h rfl
  refine rn 12 rfl ?_
  exact rt h rfl
theorem W51_B (R51 : (List UInt8) → Int → Int → (List (List UInt8)) → Option ((List UInt8) × Bool)) (hR51 : ∀ (a1 : (List UInt8)) (a2 : Int) (a3 : Int) (a4 : (List (List UInt8))) (r : ((List UInt8) × Bool)), R51 a1 a2 a3 a4 = some r → PureG gl Tryz.prog 51 [(sV a1), (iV a2), (iV a3), (V.lst 1 (a4.map encS))] (V.tup [(sV (r.1)), (bV (r.2))])) (F : Nat) (a1 : (List UInt8)) (a2 : Int) (a3 : Int) (a4 : (List (List UInt8))) (r : ((List UInt8) × Bool)) (h : M51_B R51 F a1 a2 a3 a4 = some r) : PureG gl Tryz.prog 51 [(sV a1), (iV a2), (iV a3), (V.lst 1 (a4.map encS))] (V.tup [(sV (r.1)), (bV (r.2))]) := by
  refine pin (fun r => (V.tup [(sV (r.1)), (bV (r.2))])) r rfl Tryz.func51 rfl rfl rfl rfl rfl (fun w0 m0 hg => ?_)
  unfold M51_B at h
  refine rn 11 rfl ?_
  refine spC h rfl (fun hb5 h => ?_) (fun hb5 h => ?_)
  · refine rn 4 rfl ?_
    refine ln rfl rfl ?_
    refine rn 4 rfl ?_
    exact rt h rfl
  refine rn 5 rfl ?_
  refine ln rfl rfl ?_
  refine rn 2 rfl ?_
  refine spC h rfl (fun hb6 h => ?_) (fun hb6 h => ?_)
  · refine rn 5 rfl ?_
    exact rt h rfl
  obtain ⟨x7, hx8, h⟩ := bind_some h
  refine rn 2 rfl ?_
  refine ck h (fun hc9 h => ?_)
  refine dr mixed (vs 2 rfl (nD rfl rfl rfl (vs 1 rfl (iD hx8 rfl rfl rfl (vs 3 rfl (nD rfl rfl rfl (vs 1 rfl (xD (OD.mk [(32, (V.lst 1 (a4.map encS))), (35, (iV (w64 (((a4.length : Nat) : Int) - 1))))] [] [(36, (V.lst 1 ((a4.take (w64 (((a4.length : Nat) : Int) - 1)).toNat).map encS)))] []) ⟨⟨rfl, rfl, trivial⟩, trivial⟩ (by exact fun S hn h hh => aops_slice_lst (0) ((w64 (((a4.length : Nat) : Int) - 1)).toNat) ((a4.take (w64 (((a4.length : Nat) : Int) - 1)).toNat).map encS) tSl50 wants_none h.1 rfl ⟨_, (by rw [Int.toNat_of_nonneg hc9.1]; exact h.2.1)⟩ (Nat.zero_le _) (by simpa using hc9.2) slL_lo rfl (aops_nil ⟨rfl, rfl⟩)) rfl (vs 2 rfl .nil))))))))) (by kernel_rfl) ?_
  refine rn 3 rfl ?_
  refine cl h rfl rfl rfl (W75 _ _) rfl (fun y10 hx11 h => ?_)
  refine rn 9 rfl ?_
  refine spC h rfl (fun hb12 h => ?_) (fun hb12 h => ?_)
  · refine rn 6 rfl ?_
    refine cl h rfl rfl rfl (hR51 _ _ _ _) rfl (fun y13 hx14 h => ?_)
    refine rn 10 rfl ?_
    refine cl h rfl rfl rfl (W76 _ _ _) rfl (fun y15 hx16 h => ?_)
    refine rn 4 rfl ?_
    exact rt h rfl
  refine rn 11 rfl ?_
  refine cl h rfl rfl rfl (hR51 _ _ _ _) rfl (fun y17 hx18 h => ?_)
  refine rn 10 rfl ?_
  refine cl h rfl rfl rfl (W76 _ _ _) rfl (fun y19 hx20 h => ?_)
  refine rn 4 rfl ?_
  exact rt h rfl
theorem W51 : ∀ (F : Nat) (a1 : (List UInt8)) (a2 : Int) (a3 : Int) (a4 : (List (List UInt8))) (r : ((List UInt8) × Bool)) (h : M51 F a1 a2 a3 a4 = some r), PureG gl Tryz.prog 51 [(sV a1), (iV a2), (iV a3), (V.lst 1 (a4.map encS))] (V.tup [(sV (r.1)), (bV (r.2))]) := by
  intro F
  induction F with
  | zero => intros; simp [M51] at *
  | succ F ih => exact fun a1 a2 a3 a4 r h => W51_B (M51 F) ih F a1 a2 a3 a4 r h
theorem W24 (F : Nat) (a1 : (List UInt8)) (a2 : (List UInt8)) (a3 : Int) (a4 : Int) (a5 : (List (List UInt8))) (r : (Bool × Int)) (h : M24 F a1 a2 a3 a4 a5 = some r) : PureG gl Tryz.prog 24 [(sV a1), (sV a2), (iV a3), (iV a4), (V.lst 1 (a5.map encS))] (V.tup [(bV (r.1)), (iV (r.2))]) := by
  refine pin (fun r => (V.tup [(bV (r.1)), (iV (r.2))])) r rfl Tryz.func24 rfl rfl rfl rfl rfl (fun w0 m0 hg => ?_)
  unfold M24 at h
  refine rn 9 rfl ?_
  refine cl h rfl rfl rfl (W48 _ _) rfl (fun y6 hx7 h => ?_)
  refine rn 2 rfl ?_
  refine spO 18 h rfl (fun hb8 h => ?_) (fun hb8 h => ?_)
  · refine rn 11 rfl ?_
    exact rt h rfl
  refine rn 1 rfl ?_
  refine cl h rfl rfl rfl (W48 _ _) rfl (fun y9 hx10 h => ?_)
  refine rn 3 rfl ?_
  refine spC h rfl (fun hb11 h => ?_) (fun hb11 h => ?_)
  · refine rn 5 rfl ?_
    exact rt h rfl
  refine rn 8 rfl ?_
  refine spO 26 h rfl (fun hb12 h => ?_) (fun hb12 h => ?_)
  · refine rn 5 rfl ?_
    refine cl h rfl rfl rfl (W49 _ _ _ _) rfl (fun y13 hx14 h => ?_)
    refine rn 7 rfl ?_
    refine spC h rfl (fun hb15 h => ?_) (fun hb15 h => ?_)
    · refine rn 6 rfl ?_
      exact rt h rfl
    refine rn 7 rfl ?_
    refine cl h rfl rfl rfl (W51 _ _ _ _ _) rfl (fun y16 hx17 h => ?_)
    refine rn 10 rfl ?_
    refine spO 45 h rfl (fun hb18 h => ?_) (fun hb18 h => ?_)
    · refine rn 7 rfl ?_
      exact rt h rfl
    refine rn 7 rfl ?_
    exact rt h rfl
  refine rn 5 rfl ?_
  refine cl h rfl rfl rfl (W49 _ _ _ _) rfl (fun y19 hx20 h => ?_)
  refine rn 7 rfl ?_
  refine spC h rfl (fun hb21 h => ?_) (fun hb21 h => ?_)
  · refine rn 6 rfl ?_
    exact rt h rfl
  refine rn 7 rfl ?_
  refine cl h rfl rfl rfl (W51 _ _ _ _ _) rfl (fun y22 hx23 h => ?_)
  refine rn 10 rfl ?_
  refine spO 45 h rfl (fun hb24 h => ?_) (fun hb24 h => ?_)
  · refine rn 7 rfl ?_
    exact rt h rfl
  refine rn 7 rfl ?_
  exact rt h rfl
set_option maxHeartbeats 1000000 in
theorem W4 (F : Nat) (a1 : (List (List UInt8))) (a2 : Int) (a3 : (List UInt8)) (a4 : Int) (a5 : Int) (r : Bool) (h : M4 F a1 a2 a3 a4 a5 = some r) : PureG gl Tryz.prog 4 [(V.lst 1 (a1.map encS)), (iV a2), (sV a3), (iV a4), (iV a5)] (bV r) := by
  refine pin (fun r => (bV r)) r rfl Tryz.func4 rfl rfl rfl rfl rfl (fun w0 m0 hg => ?_)
  unfold M4 at h
  obtain ⟨y6, hx7, h⟩ := bind_some h
  refine rn 6 rfl ?_
  refine aops_mcallS (V.ptr 0 1 0 0) [] (fun i => ([] : List Nat).getD i 0) (fun i => ([0] : List Nat).getD i 0) 0 1 [(0, (Ob.arr 95 1 [[nV]]))] fOk14 wants_none rfl evm_nil .nil .nil (W14 F  y6 hx7) rfl rfl rfl rfl (Sub.ptrT rfl rfl) (.cons rfl (ObSub.box (.cons (Sub.immT (Imm.con _)) .nil)) .nil) _ rfl ?_
  obtain ⟨y8, hx9, h⟩ := bind_some h
  refine aops_mcallS (V.ptr 1 1 0 0) [] (fun i => ([] : List Nat).getD i 0) (fun i => ([1] : List Nat).getD i 0) 1 2 [(1, (Ob.arr 95 1 [[nV]]))] fOk14 wants_none rfl evm_nil .nil .nil (W14 F  y8 hx9) rfl rfl rfl rfl (Sub.ptrT rfl rfl) (.cons rfl (ObSub.box (.cons (Sub.immT (Imm.con _)) .nil)) .nil) _ rfl ?_
  refine fo (rn 7 rfl ?_)
  refine ln rfl rfl ?_
  refine rn 2 rfl ?_
  refine jK h (fun (p : (List (List UInt8)) × (List (List UInt8))) => (⟨[(0, (V.lst 1 (a1.map encS))), (3, (iV a4)), (4, (iV a5)), (11, (V.ptr 0 1 0 0)), (12, (V.ptr 1 1 0 0))], [(0, (Ob.arr 95 1 [[(V.own 2 (p.1).length)]])), (1, (Ob.arr 95 1 [[(V.own 3 (p.2).length)]])), (2, (Ob.arr 9 1 ((p.1).map encS))), (3, (Ob.arr 9 1 ((p.2).map encS)))], 4⟩ : St)) (fun k10 (p : (List (List UInt8)) × (List (List UInt8))) => k10 p.1 p.2 = some r) (fun k10 h => ?_) ?_
  · refine rn 1 rfl ?_
    refine wl (A := a1) 0 rfl (fun hA57 => ?_)
    refine lC (fun (p : Int × (List (List UInt8)) × (List (List UInt8))) => (⟨[(0, (V.lst 1 (a1.map encS))), (1, (iV a2)), (2, (sV a3)), (3, (iV a4)), (4, (iV a5)), (11, (V.ptr 0 1 0 0)), (12, (V.ptr 1 1 0 0)), (52, (V.lst 1 (a1.map encS))), (53, (iV ((a1.length : Nat) : Int))), (54, (iV (p.1)))], [(0, (Ob.arr 95 1 [[(V.own 2 (p.2.1).length)]])), (1, (Ob.arr 95 1 [[(V.own 3 (p.2.2).length)]])), (2, (Ob.arr 9 1 ((p.2.1).map encS))), (3, (Ob.arr 9 1 ((p.2.2).map encS)))], 4⟩ : St)) (fun n (p : Int × (List (List UInt8)) × (List (List UInt8))) => RG a1 (fun tl nn => M4_L1 F a1 a2 a3 k10 tl nn p.2.1 p.2.2 = some r) n p.1) (fun p h => RG.zero h) (a1.length + 1) (0, ([] : List (List UInt8)), ([] : List (List UInt8))) (RG.start h) (Ghost.trans (ghost_nilC 0 9 1 (Ob.arr 95 1 [[(V.own 2 0)]]) (ObSub.box (.cons Sub.mkNil .nil))) (Ghost.trans (ghost_nilC 1 9 1 (Ob.arr 95 1 [[(V.own 3 0)]]) (ObSub.box (.cons Sub.mkNil .nil))) (ghost_ren 4 (fun i => ([0, 1, 2, 3] : List Nat).getD i 0) _ _ (by decide) (EnvSub.get (.cons (Sub.imm (Imm.lst _ _)) (.cons (Sub.imm (Imm.con _)) (.cons (Sub.imm (Imm.con _)) (.cons (Sub.imm (Imm.con _)) (.cons (Sub.imm (Imm.con _)) (.cons (Sub.ptr rfl rfl) (.cons (Sub.ptr rfl rfl) (.cons (Sub.imm (Imm.lst _ _)) (.cons (Sub.imm (Imm.con _)) (.cons (Sub.imm (Imm.con _)) .nil))))))))))) (HpSub.get (.cons rfl (ObSub.box (.cons (Sub.ownE rfl rfl (by simp)) .nil)) (.cons rfl (ObSub.box (.cons (Sub.ownE rfl rfl (by simp)) .nil)) (.cons rfl (ObSub.rows (rows_imm imms_encS)) (.cons rfl (ObSub.rows (rows_imm imms_encS)) .nil))))) rfl))) (fun n p h => ?_)
    obtain ⟨n16, l17, l18⟩ := p
    refine rn 5 rfl ?_
    refine spL rfl (fun hb19 => ?_) (fun hb19 => ?_)
    · obtain ⟨x20, tl, hx21, h, hk1⟩ := RG.t hA57 h hb19
      unfold M4_L1 at h
      refine rn 6 rfl ?_
      refine ixh hx21 rfl rfl ?_
      obtain ⟨y22, hx23, h⟩ := bind_some h
      refine rn 8 rfl ?_
      refine aops_mcallS (V.tup [(iV (y22.1)), (iV (y22.2.1))]) [(V.ptr 0 1 0 0), (sV x20)] (fun i => ([0, 2] : List Nat).getD i 0) (fun i => ([0, 2, 4] : List Nat).getD i 0) 4 5 [(0, (Ob.arr 95 1 [[(V.own 4 (y22.2.2).length)]])), (2, Ob.dead), (4, (Ob.arr 9 1 ((y22.2.2).map encS)))] fOk15 wants_none rfl (evm_cons rfl (evm_cons rfl evm_nil)) (.cons (Sub.ptr rfl rfl) (.cons (Sub.imm (Imm.con _)) .nil)) (.cons rfl (ObSub.box (.cons (Sub.own rfl rfl) .nil)) (.cons rfl (ObSub.rows (rows_imm imms_encS)) .nil)) (W15 F x20 l17 y22 hx23) rfl rfl rfl rfl (Sub.immT (Imm.tup (.cons (Imm.con _) (.cons (Imm.con _) .nil)))) (.cons rfl (ObSub.box (.cons (Sub.ownT rfl rfl) .nil)) (.cons rfl ObSub.deadT (.cons rfl (ObSub.rowsT (rows_imm imms_encS)) .nil))) _ rfl ?_
      refine fo (rn 13 rfl ?_)
      refine jK h (fun (p : (List UInt8)) => (⟨[(0, (V.lst 1 (a1.map encS))), (1, (iV a2)), (2, (sV a3)), (3, (iV a4)), (4, (iV a5)), (11, (V.ptr 0 1 0 0)), (12, (V.ptr 1 1 0 0)), (13, (iV n16)), (14, (sV p)), (16, (iV (y22.2.1))), (52, (V.lst 1 (a1.map encS))), (53, (iV ((a1.length : Nat) : Int))), (54, (iV n16))], [(0, (Ob.arr 95 1 [[(V.own 2 (y22.2.2).length)]])), (1, (Ob.arr 95 1 [[(V.own 3 l18.length)]])), (2, (Ob.arr 9 1 ((y22.2.2).map encS))), (3, (Ob.arr 9 1 (l18.map encS)))], 4⟩ : St)) (fun k24 (p : (List UInt8)) => k24 p = some r) (fun k24 h => ?_) ?_
      · refine spC h rfl (fun hb26 h => ?_) (fun hb26 h => ?_)
        · refine rn 4 rfl ?_
          exact jX a3 h (gr [0, 1, 4, 3] rfl (hB rfl rfl rfl (hB rfl rfl rfl (hR rfl rfl (hR rfl rfl .nil)))) rfl)
        refine rn 1 rfl ?_
        exact jX x20 h (gr [0, 1, 4, 3] rfl (hB rfl rfl rfl (hB rfl rfl rfl (hR rfl rfl (hR rfl rfl .nil)))) rfl)
      intro s25 h
      obtain ⟨y27, hx28, h⟩ := bind_some h
      refine rn 4 rfl ?_
      refine aops_mcallS (V.tup [(iV (y27.1)), (iV (y27.2.1))]) [(V.ptr 1 1 0 0), (sV s25)] (fun i => ([1, 3] : List Nat).getD i 0) (fun i => ([1, 3, 4] : List Nat).getD i 0) 4 5 [(1, (Ob.arr 95 1 [[(V.own 4 (y27.2.2).length)]])), (3, Ob.dead), (4, (Ob.arr 9 1 ((y27.2.2).map encS)))] fOk15 wants_none rfl (evm_cons rfl (evm_cons rfl evm_nil)) (.cons (Sub.ptr rfl rfl) (.cons (Sub.imm (Imm.con _)) .nil)) (.cons rfl (ObSub.box (.cons (Sub.own rfl rfl) .nil)) (.cons rfl (ObSub.rows (rows_imm imms_encS)) .nil)) (W15 F s25 l18 y27 hx28) rfl rfl rfl rfl (Sub.immT (Imm.tup (.cons (Imm.con _) (.cons (Imm.con _) .nil)))) (.cons rfl (ObSub.box (.cons (Sub.ownT rfl rfl) .nil)) (.cons rfl ObSub.deadT (.cons rfl (ObSub.rowsT (rows_imm imms_encS)) .nil))) _ rfl ?_
      refine fo (rn 11 rfl ?_)
      refine spO 77 h rfl (fun hb29 h => ?_) (fun hb29 h => ?_)
      · refine rn 11 rfl ?_
        refine spO 84 h rfl (fun hb30 h => ?_) (fun hb30 h => ?_)
        · refine rn 13 rfl ?_
          refine cl h rfl rfl rfl (W7 _) rfl (fun y31 hx32 h => ?_)
          refine rn 3 rfl ?_
          exact rt h rfl
        obtain ⟨y33, hx34, h⟩ := bind_some h
        refine rn 1 rfl ?_
        refine aops_mcallS (iV (((y22.2.2).length : Nat) : Int)) [(V.ptr 0 1 0 0)] (fun i => ([0, 2] : List Nat).getD i 0) (fun i => ([0, 2] : List Nat).getD i 0) 5 5 [(0, (Ob.arr 95 1 [[(V.own 2 (y22.2.2).length)]])), (2, (Ob.arr 9 1 ((y22.2.2).map encS)))] fOk16 (wants_some (c := false) (b := false) 84 rfl rfl rfl) rfl (evm_cons rfl evm_nil) (.cons (Sub.ptr rfl rfl) .nil) (.cons rfl (ObSub.box (.cons (Sub.own rfl rfl) .nil)) (.cons rfl (ObSub.rows (rows_imm imms_encS)) .nil)) (W16 F (y22.2.2) y33 hx34) rfl rfl rfl rfl (Sub.immT (Imm.con _)) (.cons rfl (ObSub.box (.cons (Sub.ownT rfl rfl) .nil)) (.cons rfl (ObSub.rowsT (rows_imm imms_encS)) .nil)) _ rfl ?_
        refine fo (rn 3 rfl ?_)
        refine spO 89 h rfl (fun hb35 h => ?_) (fun hb35 h => ?_)
        · refine rn 8 rfl ?_
          refine cl h rfl rfl rfl (W7 _) rfl (fun y36 hx37 h => ?_)
          refine rn 3 rfl ?_
          exact rt h rfl
        refine rn 2 rfl ?_
        refine ixl h rfl rfl (fun x38 hx39 h => ?_)
        refine rn 5 rfl ?_
        refine spO 97 h rfl (fun hb40 h => ?_) (fun hb40 h => ?_)
        · refine cl h rfl rfl rfl (W7 _) rfl (fun y41 hx42 h => ?_)
          refine rn 3 rfl ?_
          exact rt h rfl
        refine rn 4 rfl ?_
        exact rt h rfl
      refine rn 4 rfl ?_
      refine spC h rfl (fun hb43 h => ?_) (fun hb43 h => ?_)
      · refine rn 6 rfl ?_
        refine spO 84 h rfl (fun hb44 h => ?_) (fun hb44 h => ?_)
        · refine rn 13 rfl ?_
          refine cl h rfl rfl rfl (W7 _) rfl (fun y45 hx46 h => ?_)
          refine rn 3 rfl ?_
          exact rt h rfl
        obtain ⟨y47, hx48, h⟩ := bind_some h
        refine rn 1 rfl ?_
        refine aops_mcallS (iV (((y22.2.2).length : Nat) : Int)) [(V.ptr 0 1 0 0)] (fun i => ([0, 2] : List Nat).getD i 0) (fun i => ([0, 2] : List Nat).getD i 0) 5 5 [(0, (Ob.arr 95 1 [[(V.own 2 (y22.2.2).length)]])), (2, (Ob.arr 9 1 ((y22.2.2).map encS)))] fOk16 (wants_some (c := false) (b := false) 84 rfl rfl rfl) rfl (evm_cons rfl evm_nil) (.cons (Sub.ptr rfl rfl) .nil) (.cons rfl (ObSub.box (.cons (Sub.own rfl rfl) .nil)) (.cons rfl (ObSub.rows (rows_imm imms_encS)) .nil)) (W16 F (y22.2.2) y47 hx48) rfl rfl rfl rfl (Sub.immT (Imm.con _)) (.cons rfl (ObSub.box (.cons (Sub.ownT rfl rfl) .nil)) (.cons rfl (ObSub.rowsT (rows_imm imms_encS)) .nil)) _ rfl ?_
        refine fo (rn 3 rfl ?_)
        refine spO 89 h rfl (fun hb49 h => ?_) (fun hb49 h => ?_)
        · refine rn 8 rfl ?_
          refine cl h rfl rfl rfl (W7 _) rfl (fun y50 hx51 h => ?_)
          refine rn 3 rfl ?_
          exact rt h rfl
        refine rn 2 rfl ?_
        refine ixl h rfl rfl (fun x52 hx53 h => ?_)
        refine rn 5 rfl ?_
        refine spO 97 h rfl (fun hb54 h => ?_) (fun hb54 h => ?_)
        · refine cl h rfl rfl rfl (W7 _) rfl (fun y55 hx56 h => ?_)
          refine rn 3 rfl ?_
          exact rt h rfl
        refine rn 4 rfl ?_
        exact rt h rfl
      refine rn 6 rfl ?_
      exact jX ((w64 (n16 + 1)), (y22.2.2), (y27.2.2)) (hk1 _ h) (gr [0, 1, 2, 4] rfl (hB rfl rfl rfl (hB rfl rfl rfl (hR rfl rfl (hR rfl rfl .nil)))) rfl)
    replace h := RG.f h hb19
    unfold M4_L1 at h
    refine rn 1 rfl ?_
    exact jX (l17, l18) h (gr [0, 1, 2, 3] rfl (hB rfl rfl rfl (hB rfl rfl rfl (hR rfl rfl (hR rfl rfl .nil)))) rfl)
  rintro ⟨l11, l12⟩ h
  obtain ⟨y58, hx59, h⟩ := bind_some h
  refine rn 3 rfl ?_
  refine aops_mcallS (iV ((l11.length : Nat) : Int)) [(V.ptr 0 1 0 0)] (fun i => ([0, 2] : List Nat).getD i 0) (fun i => ([0, 2] : List Nat).getD i 0) 4 4 [(0, (Ob.arr 95 1 [[(V.own 2 l11.length)]])), (2, (Ob.arr 9 1 (l11.map encS)))] fOk16 wants_none rfl (evm_cons rfl evm_nil) (.cons (Sub.ptr rfl rfl) .nil) (.cons rfl (ObSub.box (.cons (Sub.own rfl rfl) .nil)) (.cons rfl (ObSub.rows (rows_imm imms_encS)) .nil)) (W16 F l11 y58 hx59) rfl rfl rfl rfl (Sub.immT (Imm.con _)) (.cons rfl (ObSub.box (.cons (Sub.ownT rfl rfl) .nil)) (.cons rfl (ObSub.rowsT (rows_imm imms_encS)) .nil)) _ rfl ?_
  refine fo (rn 8 rfl ?_)
  refine spO 105 h rfl (fun hb60 h => ?_) (fun hb60 h => ?_)
  · refine rn 21 rfl ?_
    refine cl h rfl rfl rfl (W7 _) rfl (fun y61 hx62 h => ?_)
    refine rn 2 rfl ?_
    exact rt h rfl
  refine rn 4 rfl ?_
  refine spO 109 h rfl (fun hb63 h => ?_) (fun hb63 h => ?_)
  · refine rn 17 rfl ?_
    refine cl h rfl rfl rfl (W7 _) rfl (fun y64 hx65 h => ?_)
    refine rn 2 rfl ?_
    exact rt h rfl
  refine rn 5 rfl ?_
  refine spO 114 h rfl (fun hb66 h => ?_) (fun hb66 h => ?_)
  · refine rn 12 rfl ?_
    refine cl h rfl rfl rfl (W7 _) rfl (fun y67 hx68 h => ?_)
    refine rn 2 rfl ?_
    exact rt h rfl
  refine rn 4 rfl ?_
  refine spO 118 h rfl (fun hb69 h => ?_) (fun hb69 h => ?_)
  · refine rn 8 rfl ?_
    refine cl h rfl rfl rfl (W7 _) rfl (fun y70 hx71 h => ?_)
    refine rn 2 rfl ?_
    exact rt h rfl
  refine rn 5 rfl ?_
  refine spC h rfl (fun hb72 h => ?_) (fun hb72 h => ?_)
  · refine rn 2 rfl ?_
    refine cl h rfl rfl rfl (W7 _) rfl (fun y73 hx74 h => ?_)
    refine rn 2 rfl ?_
    exact rt h rfl
  obtain ⟨y75, hx76, h⟩ := bind_some h
  refine rn 5 rfl ?_
  refine aops_mcallS (V.tup [(sV (y75.1)), (iV (y75.2))]) [(V.ptr 0 1 0 0), (iV ((l11.length : Nat) : Int))] (fun i => ([0, 2] : List Nat).getD i 0) (fun i => ([0, 2] : List Nat).getD i 0) 4 4 [(0, (Ob.arr 95 1 [[(V.own 2 l11.length)]])), (2, (Ob.arr 9 1 (l11.map encS)))] fOk17 wants_none rfl (evm_cons rfl (evm_cons rfl evm_nil)) (.cons (Sub.ptr rfl rfl) (.cons (Sub.imm (Imm.con _)) .nil)) (.cons rfl (ObSub.box (.cons (Sub.own rfl rfl) .nil)) (.cons rfl (ObSub.rows (rows_imm imms_encS)) .nil)) (W17 F ((l11.length : Nat) : Int) l11 y75 hx76) rfl rfl rfl rfl (Sub.immT (Imm.tup (.cons (Imm.con _) (.cons (Imm.con _) .nil)))) (.cons rfl (ObSub.box (.cons (Sub.ownT rfl rfl) .nil)) (.cons rfl (ObSub.rowsT (rows_imm imms_encS)) .nil)) _ rfl ?_
  obtain ⟨y77, hx78, h⟩ := bind_some h
  refine fo (rn 10 rfl ?_)
  refine aops_mcallS (V.tup [(sV (y77.1)), (iV (y77.2))]) [(V.ptr 0 1 0 0), (iV a4)] (fun i => ([0, 2] : List Nat).getD i 0) (fun i => ([0, 2] : List Nat).getD i 0) 4 4 [(0, (Ob.arr 95 1 [[(V.own 2 l11.length)]])), (2, (Ob.arr 9 1 (l11.map encS)))] fOk17 wants_none rfl (evm_cons rfl (evm_cons rfl evm_nil)) (.cons (Sub.ptr rfl rfl) (.cons (Sub.imm (Imm.con _)) .nil)) (.cons rfl (ObSub.box (.cons (Sub.own rfl rfl) .nil)) (.cons rfl (ObSub.rows (rows_imm imms_encS)) .nil)) (W17 F a4 l11 y77 hx78) rfl rfl rfl rfl (Sub.immT (Imm.tup (.cons (Imm.con _) (.cons (Imm.con _) .nil)))) (.cons rfl (ObSub.box (.cons (Sub.ownT rfl rfl) .nil)) (.cons rfl (ObSub.rowsT (rows_imm imms_encS)) .nil)) _ rfl ?_
  refine fo (rn 10 rfl ?_)
  refine ixl h rfl rfl (fun x79 hx80 h => ?_)
  refine rn 1 rfl ?_
  refine cl h rfl rfl rfl (W18 _ _) rfl (fun y81 hx82 h => ?_)
  obtain ⟨y83, hx84, h⟩ := bind_some h
  refine rn 11 rfl ?_
  refine aops_mcallS (V.tup [(V.own 4 (y83.2).length), (iV (y83.1))]) [(V.ptr 0 1 0 0), (iV a5), (iV ((l11.length : Nat) : Int))] (fun i => ([0, 2] : List Nat).getD i 0) (fun i => ([0, 2, 4] : List Nat).getD i 0) 4 5 [(0, (Ob.arr 95 1 [[(V.own 2 l11.length)]])), (2, (Ob.arr 9 1 (l11.map encS))), (4, (Ob.arr 9 1 ((y83.2).map encS)))] fOk19 wants_none rfl (evm_cons rfl (evm_cons rfl (evm_cons rfl evm_nil))) (.cons (Sub.ptr rfl rfl) (.cons (Sub.imm (Imm.con _)) (.cons (Sub.imm (Imm.con _)) .nil))) (.cons rfl (ObSub.box (.cons (Sub.own rfl rfl) .nil)) (.cons rfl (ObSub.rows (rows_imm imms_encS)) .nil)) (W19 F a5 ((l11.length : Nat) : Int) l11 y83 hx84) rfl rfl rfl rfl (Sub.tupT (.cons (Sub.ownT rfl rfl) (.cons (Sub.immT (Imm.con _)) .nil))) (.cons rfl (ObSub.box (.cons (Sub.ownT rfl rfl) .nil)) (.cons rfl (ObSub.rowsT (rows_imm imms_encS)) (.cons rfl (ObSub.rowsT (rows_imm imms_encS)) .nil))) _ rfl ?_
  obtain ⟨y85, hx86, h⟩ := bind_some h
  refine fo (rn 11 rfl ?_)
  refine aops_mcallS (V.tup [(V.own 5 (y85.2).length), (iV (y85.1))]) [(V.ptr 0 1 0 0), (iV a5), (iV a4)] (fun i => ([0, 2] : List Nat).getD i 0) (fun i => ([0, 2, 5] : List Nat).getD i 0) 5 6 [(0, (Ob.arr 95 1 [[(V.own 2 l11.length)]])), (2, (Ob.arr 9 1 (l11.map encS))), (5, (Ob.arr 9 1 ((y85.2).map encS)))] fOk19 wants_none rfl (evm_cons rfl (evm_cons rfl (evm_cons rfl evm_nil))) (.cons (Sub.ptr rfl rfl) (.cons (Sub.imm (Imm.con _)) (.cons (Sub.imm (Imm.con _)) .nil))) (.cons rfl (ObSub.box (.cons (Sub.own rfl rfl) .nil)) (.cons rfl (ObSub.rows (rows_imm imms_encS)) .nil)) (W19 F a5 a4 l11 y85 hx86) rfl rfl rfl rfl (Sub.tupT (.cons (Sub.ownT rfl rfl) (.cons (Sub.immT (Imm.con _)) .nil))) (.cons rfl (ObSub.box (.cons (Sub.ownT rfl rfl) .nil)) (.cons rfl (ObSub.rowsT (rows_imm imms_encS)) (.cons rfl (ObSub.rowsT (rows_imm imms_encS)) .nil))) _ rfl ?_
  obtain ⟨y87, hx88, h⟩ := bind_some h
  refine fo (rn 11 rfl ?_)
  refine aops_mcallS (V.tup [(V.own 6 (y87.2).length), (iV (y87.1))]) [(V.ptr 0 1 0 0), (iV a4), (iV ((l11.length : Nat) : Int))] (fun i => ([0, 2] : List Nat).getD i 0) (fun i => ([0, 2, 6] : List Nat).getD i 0) 6 7 [(0, (Ob.arr 95 1 [[(V.own 2 l11.length)]])), (2, (Ob.arr 9 1 (l11.map encS))), (6, (Ob.arr 9 1 ((y87.2).map encS)))] fOk20 wants_none rfl (evm_cons rfl (evm_cons rfl (evm_cons rfl evm_nil))) (.cons (Sub.ptr rfl rfl) (.cons (Sub.imm (Imm.con _)) (.cons (Sub.imm (Imm.con _)) .nil))) (.cons rfl (ObSub.box (.cons (Sub.own rfl rfl) .nil)) (.cons rfl (ObSub.rows (rows_imm imms_encS)) .nil)) (W20 F a4 ((l11.length : Nat) : Int) l11 y87 hx88) rfl rfl rfl rfl (Sub.tupT (.cons (Sub.ownT rfl rfl) (.cons (Sub.immT (Imm.con _)) .nil))) (.cons rfl (ObSub.box (.cons (Sub.ownT rfl rfl) .nil)) (.cons rfl (ObSub.rowsT (rows_imm imms_encS)) (.cons rfl (ObSub.rowsT (rows_imm imms_encS)) .nil))) _ rfl ?_
  refine fo (rn 12 rfl ?_)
  refine spO 167 h rfl (fun hb89 h => ?_) (fun hb89 h => ?_)
  · refine rn 13 rfl ?_
    exact rt h rfl
  refine rn 4 rfl ?_
  refine spO 171 h rfl (fun hb90 h => ?_) (fun hb90 h => ?_)
  · refine rn 9 rfl ?_
    exact rt h rfl
  refine rn 4 rfl ?_
  refine spC h rfl (fun hb91 h => ?_) (fun hb91 h => ?_)
  · refine rn 4 rfl ?_
    exact rt h rfl
  obtain ⟨y92, hx93, h⟩ := bind_some h
  refine rn 8 rfl ?_
  refine aops_lend_call (V.tup [(bV (y92.1)), (iV (y92.2))]) [(sV (y75.1)), (sV (y81.1)), (iV a5), (iV ((l11.length : Nat) : Int)), (V.lst 1 ((y83.2).map encS))] fOk21 (ghost_frzE 4 180 rfl (rows_imm imms_encS) rfl (List.length_map ..).symm) (Flat.tup (by simp)) wants_none (evm_cons rfl (evm_cons rfl (evm_cons rfl (evm_cons rfl (evm_cons rfl evm_nil))))) (.cons (Imm.con _) (.cons (Imm.con _) (.cons (Imm.con _) (.cons (Imm.con _) (.cons (Imm.lst _ _) .nil))))) (W21 F (y75.1) (y81.1) a5 ((l11.length : Nat) : Int) (y83.2) y92 hx93) rfl ?_
  obtain ⟨y94, hx95, h⟩ := bind_some h
  refine fo (rn 13 rfl ?_)
  refine aops_lend_call (V.tup [(bV (y94.1)), (iV (y94.2))]) [(sV (y77.1)), (sV (y81.1)), (iV a5), (iV a4), (V.lst 1 ((y85.2).map encS))] fOk21 (ghost_frzE 5 189 rfl (rows_imm imms_encS) rfl (List.length_map ..).symm) (Flat.tup (by simp)) wants_none (evm_cons rfl (evm_cons rfl (evm_cons rfl (evm_cons rfl (evm_cons rfl evm_nil))))) (.cons (Imm.con _) (.cons (Imm.con _) (.cons (Imm.con _) (.cons (Imm.con _) (.cons (Imm.lst _ _) .nil))))) (W21 F (y77.1) (y81.1) a5 a4 (y85.2) y94 hx95) rfl ?_
  obtain ⟨y96, hx97, h⟩ := bind_some h
  refine fo (rn 13 rfl ?_)
  refine aops_lend_call (V.tup [(bV (y96.1)), (iV (y96.2))]) [(sV (y77.1)), (sV (y75.1)), (iV a4), (iV ((l11.length : Nat) : Int)), (V.lst 1 ((y87.2).map encS))] fOk22 (ghost_frzE 6 198 rfl (rows_imm imms_encS) rfl (List.length_map ..).symm) (Flat.tup (by simp)) wants_none (evm_cons rfl (evm_cons rfl (evm_cons rfl (evm_cons rfl (evm_cons rfl evm_nil))))) (.cons (Imm.con _) (.cons (Imm.con _) (.cons (Imm.con _) (.cons (Imm.con _) (.cons (Imm.lst _ _) .nil))))) (W22 F (y77.1) (y75.1) a4 ((l11.length : Nat) : Int) (y87.2) y96 hx97) rfl ?_
  refine fo (rn 12 rfl ?_)
  refine spO 204 h rfl (fun hb98 h => ?_) (fun hb98 h => ?_)
  · refine rn 13 rfl ?_
    exact rt h rfl
  refine rn 4 rfl ?_
  refine spO 208 h rfl (fun hb99 h => ?_) (fun hb99 h => ?_)
  · refine rn 9 rfl ?_
    exact rt h rfl
  refine rn 4 rfl ?_
  refine spC h rfl (fun hb100 h => ?_) (fun hb100 h => ?_)
  · refine rn 4 rfl ?_
    exact rt h rfl
  obtain ⟨y101, hx102, h⟩ := bind_some h
  refine rn 5 rfl ?_
  refine aops_mcallS (V.tup [(sV (y101.1)), (iV (y101.2))]) [(V.ptr 1 1 0 0), (iV ((l11.length : Nat) : Int))] (fun i => ([1, 3] : List Nat).getD i 0) (fun i => ([1, 3] : List Nat).getD i 0) 7 7 [(1, (Ob.arr 95 1 [[(V.own 3 l12.length)]])), (3, (Ob.arr 9 1 (l12.map encS)))] fOk17 wants_none rfl (evm_cons rfl (evm_cons rfl evm_nil)) (.cons (Sub.ptr rfl rfl) (.cons (Sub.imm (Imm.con _)) .nil)) (.cons rfl (ObSub.box (.cons (Sub.own rfl rfl) .nil)) (.cons rfl (ObSub.rows (rows_imm imms_encS)) .nil)) (W17 F ((l11.length : Nat) : Int) l12 y101 hx102) rfl rfl rfl rfl (Sub.immT (Imm.tup (.cons (Imm.con _) (.cons (Imm.con _) .nil)))) (.cons rfl (ObSub.box (.cons (Sub.ownT rfl rfl) .nil)) (.cons rfl (ObSub.rowsT (rows_imm imms_encS)) .nil)) _ rfl ?_
  obtain ⟨y103, hx104, h⟩ := bind_some h
  refine fo (rn 11 rfl ?_)
  refine aops_mcallS (V.tup [(V.own 7 (y103.2).length), (iV (y103.1))]) [(V.ptr 1 1 0 0), (iV a4), (iV ((l11.length : Nat) : Int))] (fun i => ([1, 3] : List Nat).getD i 0) (fun i => ([1, 3, 7] : List Nat).getD i 0) 7 8 [(1, (Ob.arr 95 1 [[(V.own 3 l12.length)]])), (3, (Ob.arr 9 1 (l12.map encS))), (7, (Ob.arr 9 1 ((y103.2).map encS)))] fOk20 wants_none rfl (evm_cons rfl (evm_cons rfl (evm_cons rfl evm_nil))) (.cons (Sub.ptr rfl rfl) (.cons (Sub.imm (Imm.con _)) (.cons (Sub.imm (Imm.con _)) .nil))) (.cons rfl (ObSub.box (.cons (Sub.own rfl rfl) .nil)) (.cons rfl (ObSub.rows (rows_imm imms_encS)) .nil)) (W20 F a4 ((l11.length : Nat) : Int) l12 y103 hx104) rfl rfl rfl rfl (Sub.tupT (.cons (Sub.ownT rfl rfl) (.cons (Sub.immT (Imm.con _)) .nil))) (.cons rfl (ObSub.box (.cons (Sub.ownT rfl rfl) .nil)) (.cons rfl (ObSub.rowsT (rows_imm imms_encS)) (.cons rfl (ObSub.rowsT (rows_imm imms_encS)) .nil))) _ rfl ?_
  obtain ⟨y105, hx106, h⟩ := bind_some h
  refine fo (rn 13 rfl ?_)
  refine aops_lend_call (V.tup [(bV (y105.1)), (iV (y105.2))]) [(sV (y77.1)), (sV (y101.1)), (iV a4), (iV ((l11.length : Nat) : Int)), (V.lst 1 ((y103.2).map encS))] fOk22 (ghost_frzE 7 230 rfl (rows_imm imms_encS) rfl (List.length_map ..).symm) (Flat.tup (by simp)) wants_none (evm_cons rfl (evm_cons rfl (evm_cons rfl (evm_cons rfl (evm_cons rfl evm_nil))))) (.cons (Imm.con _) (.cons (Imm.con _) (.cons (Imm.con _) (.cons (Imm.con _) (.cons (Imm.lst _ _) .nil))))) (W22 F (y77.1) (y101.1) a4 ((l11.length : Nat) : Int) (y103.2) y105 hx106) rfl ?_
  obtain ⟨y107, hx108, h⟩ := bind_some h
  refine fo (rn 13 rfl ?_)
  refine aops_lend_call (V.tup [(bV (y107.1)), (iV (y107.2))]) [(sV (y77.1)), (sV (y101.1)), (iV a4), (iV ((l11.length : Nat) : Int)), (V.lst 1 ((y103.2).map encS))] fOk23 (ghost_frzE 7 239 rfl (rows_imm imms_encS) rfl (List.length_map ..).symm) (Flat.tup (by simp)) wants_none (evm_cons rfl (evm_cons rfl (evm_cons rfl (evm_cons rfl (evm_cons rfl evm_nil))))) (.cons (Imm.con _) (.cons (Imm.con _) (.cons (Imm.con _) (.cons (Imm.con _) (.cons (Imm.lst _ _) .nil))))) (W23 F (y77.1) (y101.1) a4 ((l11.length : Nat) : Int) (y103.2) y107 hx108) rfl ?_
  obtain ⟨y109, hx110, h⟩ := bind_some h
  refine fo (rn 13 rfl ?_)
  refine aops_lend_call (V.tup [(bV (y109.1)), (iV (y109.2))]) [(sV (y101.1)), (sV (y81.1)), (iV a5), (iV ((l11.length : Nat) : Int)), (V.lst 1 ((y83.2).map encS))] fOk21 (ghost_frzE 4 248 rfl (rows_imm imms_encS) rfl (List.length_map ..).symm) (Flat.tup (by simp)) wants_none (evm_cons rfl (evm_cons rfl (evm_cons rfl (evm_cons rfl (evm_cons rfl evm_nil))))) (.cons (Imm.con _) (.cons (Imm.con _) (.cons (Imm.con _) (.cons (Imm.con _) (.cons (Imm.lst _ _) .nil))))) (W21 F (y101.1) (y81.1) a5 ((l11.length : Nat) : Int) (y83.2) y109 hx110) rfl ?_
  obtain ⟨y111, hx112, h⟩ := bind_some h
  refine fo (rn 13 rfl ?_)
  refine aops_lend_call (V.tup [(bV (y111.1)), (iV (y111.2))]) [(sV (y101.1)), (sV (y81.1)), (iV a5), (iV ((l11.length : Nat) : Int)), (V.lst 1 ((y83.2).map encS))] fOk24 (ghost_frzE 4 257 rfl (rows_imm imms_encS) rfl (List.length_map ..).symm) (Flat.tup (by simp)) wants_none (evm_cons rfl (evm_cons rfl (evm_cons rfl (evm_cons rfl (evm_cons rfl evm_nil))))) (.cons (Imm.con _) (.cons (Imm.con _) (.cons (Imm.con _) (.cons (Imm.con _) (.cons (Imm.lst _ _) .nil))))) (W24 F (y101.1) (y81.1) a5 ((l11.length : Nat) : Int) (y83.2) y111 hx112) rfl ?_
  refine fo (rn 12 rfl ?_)
  refine spO 264 h rfl (fun hb113 h => ?_) (fun hb113 h => ?_)
  · refine rn 5 rfl ?_
    refine spO 269 h rfl (fun hb114 h => ?_) (fun hb114 h => ?_)
    · refine rn 5 rfl ?_
      refine spO 274 h rfl (fun hb115 h => ?_) (fun hb115 h => ?_)
      · refine rn 5 rfl ?_
        refine spO 279 h rfl (fun hb116 h => ?_) (fun hb116 h => ?_)
        · refine cl h rfl rfl rfl (W7 _) rfl (fun y117 hx118 h => ?_)
          refine rn 3 rfl ?_
          exact rt h rfl
        refine rn 4 rfl ?_
        exact rt h rfl
      refine rn 9 rfl ?_
      exact rt h rfl
    refine rn 14 rfl ?_
    exact rt h rfl
  refine rn 19 rfl ?_
  exact rt h rfl
end Go.Proofs.YtiphmdpaajjdeaaGreatDoor
