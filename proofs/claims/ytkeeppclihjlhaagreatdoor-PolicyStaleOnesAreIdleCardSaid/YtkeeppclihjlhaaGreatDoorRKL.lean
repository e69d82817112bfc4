/- Part of the proof: C3W5a, C3W6a, C3W4a, C3W7a, KL. -/
import Derived.Test.YtkeeppclihjlhaaGreatDoorRPvX
import Derived.Test.YtkeeppclihjlhaaGreatDoorRC3W3a
import Derived.KernelRfl
import Derived.Test.YtkeeppclihjlhaaGreatDoorRC3Sh
import Derived.OpenShut
import Derived.MakeChecks
namespace Go.Proofs.YtkeeppclihjlhaaGreatDoor
open Go Go.Pv
set_option linter.unusedVariables false
set_option maxRecDepth 100000
theorem W81 (F : Nat) (a1 : TPolicyRule) (a2 : List UInt8) (a3 : List UInt8) (a4 : List TPair) (a5 : List TAmount) (r : Bool) (h : M81 F a1 a2 a3 a4 a5 = some r) : Pure Tryz.prog 81 [(V.agg (encTPolicyRule a1)), (V.iptr [(sV a2), (sV a3), (V.lst 2 (a4.map encTPair)), (V.lst 2 (a5.map encTAmount))] 0)] (bV r) := by
 refine pin (fun r => (bV r)) r rfl Tryz.func81 rfl rfl rfl rfl rfl (fun w0 m0 hg => ?_)
 unfold M81 at h
 refine rn 6 rfl ?_
 refine bs h (fun hb6 h => ?_) (fun hb6 h => ?_)
 ·obtain ⟨y7, hx8, h⟩ := bind_some h
  obtain ⟨y9, hx10, h⟩ := bind_some h
  refine ck h (fun hc11 h => ?_)
  obtain ⟨y12, hx13, h⟩ := bind_some h
  refine dr mixed (vs 5 rfl (vb hb6 rfl (vs 2 rfl (cD rfl rfl rfl rfl (W31 _ _ _ hx8) rfl (vs 1 rfl (cD rfl rfl rfl rfl (W32 _ _ _ hx10) rfl (xD (OD.mk [(9, (bV true)), (12, (V.ifc y7.t y7.d))] [] [(15, (V.fn (.method "provender/policy.holds") [(V.ifc y7.t y7.d)] []))] []) ⟨⟨rfl, rfl, trivial⟩, trivial⟩ (by exact fun S hn h hh => aops_mkMethI (wants_some (c := true) (b := true) 9 rfl h.1 rfl) h.2.1 rfl (aops_nil ⟨rfl, rfl⟩)) rfl (xD (OD.mk [(9, (bV true)), (15, (V.fn (.method "provender/policy.holds") [(V.ifc y7.t y7.d)] []))] [] [(16, (V.fn (.method "provender/policy.holds") [(V.ifc y7.t y7.d)] []))] []) ⟨⟨rfl, rfl, trivial⟩, trivial⟩ (by exact fun S hn h hh => aops_nilMethI (tNil_holds _ hc11) (wants_some (c := true) (b := true) 9 rfl h.1 rfl) h.2.1 rfl (aops_nil ⟨rfl, rfl⟩)) rfl (vs 1 rfl (xD (OD.mk [(9, (bV true)), (17, (V.ifc y7.t y7.d)), (14, (V.agg (encTpolicy_values y9)))] [] [(18, (iV y12))] []) ⟨⟨rfl, rfl, rfl, trivial⟩, trivial⟩ (by exact fun S hn h hh => aops_invokeD (iV y12) [(V.agg (encTpolicy_values y9))] (wants_some (c := true) (b := true) 9 rfl h.1 rfl) h.2.1 (evm_cons h.2.2.1 evm_nil) (.cons (Imm.agg (imms_encTpolicy_values _)) .nil) (Wiholds F y7 y9 _ hx13) rfl (aops_nil ⟨rfl, rfl⟩)) rfl (vs 3 rfl .nil))))))))))) (by kernel_rfl) ?_
  exact rt h rfl
 refine dr mixed (vs 5 rfl (vb hb6 rfl (vs 12 rfl .nil))) (by kernel_rfl) ?_
 exact rt h rfl
theorem W80_1 (F : Nat) (a1 : (List TPolicyRule)) (a2 : List UInt8) (a3 : List UInt8) (a4 : List TPair) (a5 : List TAmount) (r : Int) (h : M80_1 F a1 a2 a3 a4 a5 = some r) : Pure Tryz.prog 80 [(V.lst 9 (a1.map encTPolicyRule)), (V.fn (.func 81) [] [(V.iptr [(sV a2), (sV a3), (V.lst 2 (a4.map encTPair)), (V.lst 2 (a5.map encTAmount))] 0)])] (iV r) := by
 refine pin (fun r => (iV r)) r rfl Tryz.func80 rfl rfl rfl rfl rfl (fun w0 m0 hg => ?_)
 unfold M80_1 at h
 refine rn 8 rfl ?_
 refine ln rfl rfl ?_
 refine rn 2 rfl ?_
 refine jK h (fun _ : Unit => (⟨[], [], 0⟩ : St)) (fun k6 (_ : Unit) => k6 = some r) (fun k6 h => ?_) ?_
 ·refine rn 1 rfl ?_
  refine wl (A := a1) 0 rfl (fun hA15 => ?_)
  refine lC (fun (p : Int) => (⟨[(0, (V.lst 9 (a1.map encTPolicyRule))), (1, (V.fn (.func 81) [] [(V.iptr [(sV a2), (sV a3), (V.lst 2 (a4.map encTPair)), (V.lst 2 (a5.map encTAmount))] 0)])), (7, (iV ((a1.length : Nat) : Int))), (8, (iV p))], [], 0⟩ : St)) (fun n p => RG a1 (fun tl nn => M80_1_L1 F a2 a3 a4 a5 k6 tl nn = some r) n p) (fun p h => RG.zero h) (a1.length + 1) 0 (RG.start h) (g0 rfl rfl) (fun n n8 h => ?_)
  refine rn 5 rfl ?_
  refine spL rfl (fun hb9 => ?_) (fun hb9 => ?_)
  ·obtain ⟨x10, tl, hx11, h, hk1⟩ := RG.t hA15 h hb9
   unfold M80_1_L1 at h
   refine rn 13 rfl ?_
   refine ixh hx11 rfl rfl ?_
   refine rn 1 rfl ?_
   refine cl h rfl rfl rfl (W81 _ _ _ _ _ _) rfl (fun y12 hx13 h => ?_)
   refine rn 1 rfl ?_
   refine spC h rfl (fun hb14 h => ?_) (fun hb14 h => ?_)
   ·refine rn 5 rfl ?_
    exact rt h rfl
   refine rn 6 rfl ?_
   exact jX (w64 (n8 + 1)) (hk1 _ h) (g0 rfl rfl)
  replace h := RG.f h hb9
  unfold M80_1_L1 at h
  refine rn 1 rfl ?_
  exact jX () h (g0 rfl rfl)
 intro _ h
 refine rn 4 rfl ?_
 exact rt h rfl
theorem W52 (F : Nat) (a1 : TPolicy) (a2 : TFact) (r : Int) (h : M52 F a1 a2 = some r) : Pure Tryz.prog 52 [(V.agg (encTPolicy a1)), (V.agg (encTFact a2))] (iV r) := by
 refine pin (fun r => (iV r)) r rfl Tryz.func52 rfl rfl rfl rfl rfl (fun w0 m0 hg => ?_)
 unfold M52 at h
 obtain ⟨y3, hx4, h⟩ := bind_some h
 refine rn 11 rfl ?_
 refine aops_lend_call (iV y3) [(V.lst 9 (a1.Rules.map encTPolicyRule)), (V.fn (.func 81) [] [(V.iptr (encTFact a2) 0)])] fOk80 (ghost_frzV 1 7 (V.fn (.func 81) [] [(V.iptr (encTFact a2) 0)]) rfl (imms_rows (.cons (imms_encTFact _) .nil)) rfl (Sub.fnc (.cons (Sub.frzptr rfl) .nil))) (Flat.con _) wants_none (evm_cons rfl (evm_cons rfl evm_nil)) (.cons (Imm.lst _ _) (.cons (Imm.fn .nil (.cons (Imm.iptr _ _) .nil)) .nil)) (W80_1 F a1.Rules a2.Kind a2.Subject a2.Texts a2.Numbers y3 hx4) rfl ?_
 refine fo (rn 2 rfl ?_)
 exact rt h rfl
theorem W78 (F : Nat) (a1 : (List TFact)) (r : Int) (h : M78 F a1 = some r) : Pure Tryz.prog 78 [(V.lst 4 (a1.map encTFact))] (iV r) := by
 refine pin (fun r => (iV r)) r rfl Tryz.func78 rfl rfl rfl rfl rfl (fun w0 m0 hg => ?_)
 unfold M78 at h
 refine rn 8 rfl ?_
 refine ln rfl rfl ?_
 refine rn 2 rfl ?_
 refine spC h rfl (fun hb2 h => ?_) (fun hb2 h => ?_)
 ·refine rn 4 rfl ?_
  exact rt h rfl
 refine rn 5 rfl ?_
 refine ln rfl rfl ?_
 refine rn 2 rfl ?_
 refine jK h (fun _ : Unit => (⟨[], [], 0⟩ : St)) (fun k3 (_ : Unit) => k3 = some r) (fun k3 h => ?_) ?_
 ·refine rn 1 rfl ?_
  refine wl (A := a1) 0 rfl (fun hA12 => ?_)
  refine lC (fun (p : Int) => (⟨[(9, (V.lst 4 (a1.map encTFact))), (10, (iV ((a1.length : Nat) : Int))), (11, (iV p))], [], 0⟩ : St)) (fun n p => RG a1 (fun tl nn => M78_L1 F k3 tl = some r) n p) (fun p h => RG.zero h) (a1.length + 1) 0 (RG.start h) (g0 rfl rfl) (fun n n5 h => ?_)
  refine rn 5 rfl ?_
  refine spL rfl (fun hb6 => ?_) (fun hb6 => ?_)
  ·obtain ⟨x7, tl, hx8, h, hk1⟩ := RG.t hA12 h hb6
   unfold M78_L1 at h
   refine rn 5 rfl ?_
   refine ixh hx8 rfl rfl ?_
   refine rn 7 rfl ?_
   refine cl h rfl rfl rfl (W10 _ _) rfl (fun y9 hx10 h => ?_)
   refine rn 7 rfl ?_
   refine spC h rfl (fun hb11 h => ?_) (fun hb11 h => ?_)
   ·refine rn 5 rfl ?_
    exact rt h rfl
   refine rn 6 rfl ?_
   exact jX (w64 (n5 + 1)) (hk1 _ h) (g0 rfl rfl)
  replace h := RG.f h hb6
  unfold M78_L1 at h
  refine rn 1 rfl ?_
  exact jX () h (g0 rfl rfl)
 intro _ h
 refine rn 4 rfl ?_
 exact rt h rfl
theorem W49 (F : Nat) (a1 : TPolicy) (a2 : (List TFact)) (a3 : Int) (r : Int) (h : M49 F a1 a2 a3 = some r) : Pure Tryz.prog 49 [(V.agg (encTPolicy a1)), (V.lst 4 (a2.map encTFact)), (iV a3)] (iV r) := by
 refine pin (fun r => (iV r)) r rfl Tryz.func49 rfl rfl rfl rfl rfl (fun w0 m0 hg => ?_)
 unfold M49 at h
 refine rn 9 rfl ?_
 refine cl h rfl rfl rfl (W14 _ _) rfl (fun y4 hx5 h => ?_)
 refine rn 7 rfl ?_
 refine spC h rfl (fun hb6 h => ?_) (fun hb6 h => ?_)
 ·refine rn 5 rfl ?_
  exact rt h rfl
 refine rn 5 rfl ?_
 refine cl h rfl rfl rfl (W78 _ _) rfl (fun y7 hx8 h => ?_)
 refine rn 7 rfl ?_
 refine spC h rfl (fun hb9 h => ?_) (fun hb9 h => ?_)
 ·refine rn 5 rfl ?_
  exact rt h rfl
 refine rn 7 rfl ?_
 refine spO 21 h rfl (fun hb10 h => ?_) (fun hb10 h => ?_)
 ·refine rn 9 rfl ?_
  exact rt h rfl
 refine rn 4 rfl ?_
 refine spC h rfl (fun hb11 h => ?_) (fun hb11 h => ?_)
 ·refine rn 4 rfl ?_
  exact rt h rfl
 refine rn 5 rfl ?_
 exact rt h rfl
theorem W134 (F : Nat) (a1 : (List UInt8)) (a2 : (List UInt8)) (r : Bool) (h : M134 F a1 a2 = some r) : Pure Tryz.prog 134 [(sV a1), (sV a2)] (bV r) := by
 refine pin (fun r => (bV r)) r rfl Tryz.func134 rfl rfl rfl rfl rfl (fun w0 m0 hg => ?_)
 unfold M134 at h
 refine rn 12 rfl ?_
 refine spO 10 h rfl (fun hb3 h => ?_) (fun hb3 h => ?_)
 ·refine rn 6 rfl ?_
  refine ck h (fun hc4 h => ?_)
  refine aops_sliceT ((w64 ((a1.length : Int) - (a2.length : Int))).toNat) (a1.length) (a1.drop (w64 ((a1.length : Int) - (a2.length : Int))).toNat) tStr9 (wants_some (c := true) (b := true) 10 rfl rfl rfl) rfl ⟨_, (by rw [Int.toNat_of_nonneg hc4.1]; exact rfl)⟩ rfl hc4.2 (Nat.le_refl _) slT_hi rfl ?_
  refine fo (rn 5 rfl ?_)
  exact rt h rfl
 refine rn 12 rfl ?_
 exact rt h rfl
theorem W123 (F : Nat) (a1 : (List UInt8)) (a2 : (List UInt8)) (r : ((List UInt8) × Bool)) (h : M123 F a1 a2 = some r) : Pure Tryz.prog 123 [(sV a1), (sV a2)] (V.tup [(sV (r.1)), (bV (r.2))]) := by
 refine pin (fun r => (V.tup [(sV (r.1)), (bV (r.2))])) r rfl Tryz.func123 rfl rfl rfl rfl rfl (fun w0 m0 hg => ?_)
 unfold M123 at h
 refine rn 10 rfl ?_
 refine cl h rfl rfl rfl (W134 _ _ _) rfl (fun y3 hx4 h => ?_)
 refine rn 2 rfl ?_
 refine spC h rfl (fun hb5 h => ?_) (fun hb5 h => ?_)
 ·refine rn 6 rfl ?_
  exact rt h rfl
 refine rn 9 rfl ?_
 refine ck h (fun hc6 h => ?_)
 refine aops_sliceT (0) ((w64 ((a1.length : Int) - (a2.length : Int))).toNat) (a1.take (w64 ((a1.length : Int) - (a2.length : Int))).toNat) tStr9 wants_none rfl rfl ⟨_, (by rw [Int.toNat_of_nonneg hc6.1]; exact rfl)⟩ (Nat.zero_le _) hc6.2 slT_lo rfl ?_
 refine fo (rn 3 rfl ?_)
 exact rt h rfl
theorem W100 (F : Nat) (a1 : (List UInt8)) (a2 : (List UInt8)) (r : ((List UInt8) × Bool)) (h : M100 F a1 a2 = some r) : Pure Tryz.prog 100 [(sV a1), (sV a2)] (V.tup [(sV (r.1)), (bV (r.2))]) := by
 refine pin (fun r => (V.tup [(sV (r.1)), (bV (r.2))])) r rfl Tryz.func100 rfl rfl rfl rfl rfl (fun w0 m0 hg => ?_)
 unfold M100 at h
 refine rn 9 rfl ?_
 refine cl h rfl rfl rfl (W123 _ _ _) rfl (fun y3 hx4 h => ?_)
 refine rn 5 rfl ?_
 exact rt h rfl
theorem W79 (F : Nat) (a1 : TWaiver) (a2 : (List UInt8)) (r : Bool) (h : M79 F a1 a2 = some r) : Pure Tryz.prog 79 [(V.agg (encTWaiver a1)), (sV a2)] (bV r) := by
 refine pin (fun r => (bV r)) r rfl Tryz.func79 rfl rfl rfl rfl rfl (fun w0 m0 hg => ?_)
 unfold M79 at h
 refine rn 10 rfl ?_
 refine cl h rfl rfl rfl (W100 _ _ _) rfl (fun y3 hx4 h => ?_)
 refine rn 10 rfl ?_
 refine spC h rfl (fun hb5 h => ?_) (fun hb5 h => ?_)
 ·refine rn 4 rfl ?_
  refine cl h rfl rfl rfl (W93 _ _ _) rfl (fun y6 hx7 h => ?_)
  refine rn 2 rfl ?_
  exact rt h rfl
 refine rn 9 rfl ?_
 exact rt h rfl
theorem W51 (F : Nat) (a1 : TPolicy) (a2 : (List TFact)) (r : (List Tpolicy_ruling)) (h : M51 F a1 a2 = some r) : Pure Tryz.prog 51 [(V.agg (encTPolicy a1)), (V.lst 4 (a2.map encTFact))] (V.lst 3 (r.map encTpolicy_ruling)) := by
 refine pin (fun r => (V.lst 3 (r.map encTpolicy_ruling))) r rfl Tryz.func51 rfl rfl rfl rfl rfl (fun w0 m0 hg => ?_)
 unfold M51 at h
 refine rn 13 rfl ?_
 refine ln rfl rfl ?_
 refine rn 2 rfl ?_
 refine jK h (fun (p : (List Tpolicy_ruling)) => (⟨[(5, (V.own 0 p.length))], [(0, (Ob.arr 146 3 (p.map encTpolicy_ruling)))], 1⟩ : St)) (fun k3 p => k3 p = some r) (fun k3 h => ?_) ?_
 ·refine rn 1 rfl ?_
  refine wl (A := a2) 1 rfl (fun hA43 => ?_)
  refine lC (fun (p : Int × (List Tpolicy_ruling)) => (⟨[(2, (V.ptr 0 2 0 0)), (5, (V.own 1 (p.2).length)), (12, (V.lst 4 (a2.map encTFact))), (13, (iV ((a2.length : Nat) : Int))), (14, (iV (p.1)))], [(0, (Ob.arr 33 2 [(encTPolicy a1)])), (1, (Ob.arr 146 3 ((p.2).map encTpolicy_ruling)))], 2⟩ : St)) (fun n p => RG a2 (fun tl nn => M51_L1 F a1 k3 tl p.2 = some r) n p.1) (fun p h => RG.zero h) (a2.length + 1) (0, ([] : List Tpolicy_ruling)) (RG.start h) (Ghost.trans (ghost_nilE 5 146 3 rfl) (ghost_ren 2 (fun i => ([0, 1] : List Nat).getD i 0) _ _ (by decide) (EnvSub.get (.cons (Sub.ptr rfl rfl) (.cons (Sub.ownE rfl rfl (by simp)) (.cons (Sub.imm (Imm.lst _ _)) (.cons (Sub.imm (Imm.con _)) (.cons (Sub.imm (Imm.con _)) .nil)))))) (HpSub.get (.cons rfl (ObSub.box (.cons (Sub.imm (Imm.lst _ _)) (.cons (Sub.imm (Imm.lst _ _)) .nil))) (.cons rfl (ObSub.rows (rows_imm imms_encTpolicy_ruling)) .nil))) rfl)) (fun n p h => ?_)
  obtain ⟨n7, l8⟩ := p
  refine rn 5 rfl ?_
  refine spL rfl (fun hb9 => ?_) (fun hb9 => ?_)
  ·obtain ⟨x12, tl, hx13, h, hk1⟩ := RG.t hA43 h hb9
   unfold M51_L1 at h
   refine rn 2 rfl ?_
   refine jK h (fun (p : (List Tpolicy_ruling)) => (⟨[(2, (V.ptr 0 2 0 0)), (5, (V.own 1 p.length)), (12, (V.lst 4 (a2.map encTFact))), (13, (iV ((a2.length : Nat) : Int))), (14, (iV n7))], [(0, (Ob.arr 33 2 [(encTPolicy a1)])), (1, (Ob.arr 146 3 (p.map encTpolicy_ruling)))], 2⟩ : St)) (fun k10 p => k10 p = some r) (fun k10 h => ?_) ?_
   ·refine rn 3 rfl ?_
    refine ixh hx13 rfl rfl ?_
    refine rn 8 rfl ?_
    refine cl h rfl rfl rfl (W52 _ _ _) rfl (fun y14 hx15 h => ?_)
    refine rn 11 rfl ?_
    refine jK h (fun (p : Int × (List Int)) => (⟨[(2, (V.ptr 0 2 0 0)), (5, (V.own 1 l8.length)), (8, (V.ptr 2 3 0 0)), (12, (V.lst 4 (a2.map encTFact))), (13, (iV ((a2.length : Nat) : Int))), (14, (iV n7))], [(0, (Ob.arr 33 2 [(encTPolicy a1)])), (1, (Ob.arr 146 3 (l8.map encTpolicy_ruling))), (2, (Ob.arr 146 3 [[(iV y14), (iV (p.1)), (V.own 3 (p.2).length)]])), (3, (Ob.arr 3 1 ((p.2).map encI_i64)))], 4⟩ : St)) (fun k16 p => k16 p.1 p.2 = some r) (fun k16 h => ?_) ?_
    ·refine spC h rfl (fun hb19 h => ?_) (fun hb19 h => ?_)
     ·refine rn 6 rfl ?_
      refine ixl h rfl rfl (fun x20 hx21 h => ?_)
      refine rn 15 rfl ?_
      refine ln rfl rfl ?_
      refine rn 2 rfl ?_
      refine jK h (fun (p : (List Int)) => (⟨[(2, (V.ptr 0 2 0 0)), (5, (V.own 1 l8.length)), (8, (V.ptr 2 3 0 0)), (12, (V.lst 4 (a2.map encTFact))), (13, (iV ((a2.length : Nat) : Int))), (14, (iV n7))], [(0, (Ob.arr 33 2 [(encTPolicy a1)])), (1, (Ob.arr 146 3 (l8.map encTpolicy_ruling))), (2, (Ob.arr 146 3 [[(iV y14), (iV x20.Level), (V.own 3 p.length)]])), (3, (Ob.arr 3 1 (p.map encI_i64)))], 4⟩ : St)) (fun k22 p => k22 p = some r) (fun k22 h => ?_) ?_
      ·refine rn 1 rfl ?_
       refine wl (A := a1.Waivers) 35 rfl (fun hA41 => ?_)
       refine lC (fun (p : Int × (List Int)) => (⟨[(2, (V.ptr 0 2 0 0)), (5, (V.own 1 l8.length)), (7, (V.ptr 2 4 0 0)), (8, (V.ptr 3 3 0 0)), (9, (V.ptr 4 9 0 0)), (12, (V.lst 4 (a2.map encTFact))), (13, (iV ((a2.length : Nat) : Int))), (14, (iV n7)), (35, (V.lst 6 (a1.Waivers.map encTWaiver))), (36, (iV ((a1.Waivers.length : Nat) : Int))), (37, (iV (p.1)))], [(0, (Ob.arr 33 2 [(encTPolicy a1)])), (1, (Ob.arr 146 3 (l8.map encTpolicy_ruling))), (2, (Ob.arr 25 4 [(encTFact x12)])), (3, (Ob.arr 146 3 [[(iV y14), (iV x20.Level), (V.own 5 (p.2).length)]])), (4, (Ob.arr 87 9 [(encTPolicyRule x20)])), (5, (Ob.arr 3 1 ((p.2).map encI_i64)))], 6⟩ : St)) (fun n p => RG a1.Waivers (fun tl nn => M51_L2 F x12 x20 k22 tl nn p.2 = some r) n p.1) (fun p h => RG.zero h) (a1.Waivers.length + 1) (0, ([] : List Int)) (RG.start h) (Ghost.trans (ghost_nilC 3 3 1 (Ob.arr 146 3 [[(iV y14), (iV x20.Level), (V.own 5 0)]]) (ObSub.box (.cons Sub.keepNil (.cons Sub.keepNil (.cons Sub.mkNil .nil))))) (ghost_ren 6 (fun i => ([0, 1, 2, 3, 4, 5] : List Nat).getD i 0) _ _ (by decide) (EnvSub.get (.cons (Sub.ptr rfl rfl) (.cons (Sub.own rfl rfl) (.cons (Sub.ptr rfl rfl) (.cons (Sub.ptr rfl rfl) (.cons (Sub.ptr rfl rfl) (.cons (Sub.imm (Imm.lst _ _)) (.cons (Sub.imm (Imm.con _)) (.cons (Sub.imm (Imm.con _)) (.cons (Sub.imm (Imm.lst _ _)) (.cons (Sub.imm (Imm.con _)) (.cons (Sub.imm (Imm.con _)) .nil)))))))))))) (HpSub.get (.cons rfl (ObSub.box (.cons (Sub.imm (Imm.lst _ _)) (.cons (Sub.imm (Imm.lst _ _)) .nil))) (.cons rfl (ObSub.rows (rows_imm imms_encTpolicy_ruling)) (.cons rfl (ObSub.box (.cons (Sub.imm (Imm.con _)) (.cons (Sub.imm (Imm.con _)) (.cons (Sub.imm (Imm.lst _ _)) (.cons (Sub.imm (Imm.lst _ _)) .nil))))) (.cons rfl (ObSub.box (.cons (Sub.imm (Imm.con _)) (.cons (Sub.imm (Imm.con _)) (.cons (Sub.ownE rfl rfl (by simp)) .nil)))) (.cons rfl (ObSub.box (.cons (Sub.imm (Imm.con _)) (.cons (Sub.imm (Imm.con _)) (.cons (Sub.imm (Imm.con _)) (.cons (Sub.imm (Imm.con _)) (.cons (Sub.imm (Imm.lst _ _)) (.cons (Sub.imm (Imm.con _)) (.cons (Sub.imm (Imm.con _)) (.cons (Sub.imm (Imm.lst _ _)) (.cons (Sub.imm (Imm.con _)) .nil)))))))))) (.cons rfl (ObSub.rows (rows_imm imms_encI_i64)) .nil))))))) rfl)) (fun n p h => ?_)
       obtain ⟨n26, l27⟩ := p
       refine rn 5 rfl ?_
       refine spL rfl (fun hb28 => ?_) (fun hb28 => ?_)
       ·obtain ⟨x31, tl, hx32, h, hk2⟩ := RG.t hA41 h hb28
        unfold M51_L2 at h
        refine rn 2 rfl ?_
        refine jK h (fun (p : (List Int)) => (⟨[(2, (V.ptr 0 2 0 0)), (5, (V.own 1 l8.length)), (7, (V.ptr 2 4 0 0)), (8, (V.ptr 3 3 0 0)), (9, (V.ptr 4 9 0 0)), (12, (V.lst 4 (a2.map encTFact))), (13, (iV ((a2.length : Nat) : Int))), (14, (iV n7)), (35, (V.lst 6 (a1.Waivers.map encTWaiver))), (36, (iV ((a1.Waivers.length : Nat) : Int))), (37, (iV n26))], [(0, (Ob.arr 33 2 [(encTPolicy a1)])), (1, (Ob.arr 146 3 (l8.map encTpolicy_ruling))), (2, (Ob.arr 25 4 [(encTFact x12)])), (3, (Ob.arr 146 3 [[(iV y14), (iV x20.Level), (V.own 5 p.length)]])), (4, (Ob.arr 87 9 [(encTPolicyRule x20)])), (5, (Ob.arr 3 1 (p.map encI_i64)))], 6⟩ : St)) (fun k29 p => k29 p = some r) (fun k29 h => ?_) ?_
        ·refine rn 4 rfl ?_
         refine ixh hx32 rfl rfl ?_
         refine rn 13 rfl ?_
         refine spO 47 h rfl (fun hb33 h => ?_) (fun hb33 h => ?_)
         ·refine rn 7 rfl ?_
          refine spO 54 h rfl (fun hb34 h => ?_) (fun hb34 h => ?_)
          ·refine rn 3 rfl ?_
           refine cl h rfl rfl rfl (W79 _ _ _) rfl (fun y35 hx36 h => ?_)
           refine rn 2 rfl ?_
           refine jK h (fun (p : (List Int)) => (⟨[(2, (V.ptr 0 2 0 0)), (5, (V.own 1 l8.length)), (7, (V.ptr 2 4 0 0)), (8, (V.ptr 3 3 0 0)), (9, (V.ptr 4 9 0 0)), (12, (V.lst 4 (a2.map encTFact))), (13, (iV ((a2.length : Nat) : Int))), (14, (iV n7)), (35, (V.lst 6 (a1.Waivers.map encTWaiver))), (36, (iV ((a1.Waivers.length : Nat) : Int))), (37, (iV n26)), (52, (bV (decide (x31.Level < x20.Level)))), (58, (bV y35))], [(0, (Ob.arr 33 2 [(encTPolicy a1)])), (1, (Ob.arr 146 3 (l8.map encTpolicy_ruling))), (2, (Ob.arr 25 4 [(encTFact x12)])), (3, (Ob.arr 146 3 [[(iV y14), (iV x20.Level), (V.own 5 p.length)]])), (4, (Ob.arr 87 9 [(encTPolicyRule x20)])), (5, (Ob.arr 3 1 (p.map encI_i64)))], 6⟩ : St)) (fun k37 p => k37 p = some r) (fun k37 h => ?_) ?_
           ·refine spC h rfl (fun hb39 h => ?_) (fun hb39 h => ?_)
            ·refine rn 4 rfl ?_
             refine aops_buildSlice [(0, (iV n26))] [[(iV n26)]] tEl57 tZ3 rfl rfl rfl rfl wants_none (evp_cons rfl evp_nil) rfl rfl (by simp) rfl ?_
             refine fo ?_
             refine apO encI_i64 h rfl rfl rfl rfl rfl rfl rfl rfl (fun h => ?_)
             refine rn 3 rfl ?_
             exact jX (l27 ++ ([n26] : List Int)) h (gr [0, 1, 2, 3, 4, 8] rfl (hB rfl rfl rfl (hR rfl rfl (hB rfl rfl rfl (hB rfl rfl rfl (hB rfl rfl rfl (hR rfl rfl .nil)))))) rfl)
            refine rn 1 rfl ?_
            exact jX l27 h (gr [0, 1, 2, 3, 4, 5] rfl (hB rfl rfl rfl (hR rfl rfl (hB rfl rfl rfl (hB rfl rfl rfl (hB rfl rfl rfl (hR rfl rfl .nil)))))) rfl)
           intro l38 h
           refine rn 1 rfl ?_
           exact jX l38 h (gr [0, 1, 2, 3, 4, 5] rfl (hB rfl rfl rfl (hR rfl rfl (hB rfl rfl rfl (hB rfl rfl rfl (hB rfl rfl rfl (hR rfl rfl .nil)))))) rfl)
          refine rn 9 rfl ?_
          exact jX l27 h (gr [0, 1, 2, 3, 4, 5] rfl (hB rfl rfl rfl (hR rfl rfl (hB rfl rfl rfl (hB rfl rfl rfl (hB rfl rfl rfl (hR rfl rfl .nil)))))) rfl)
         refine rn 16 rfl ?_
         exact jX l27 h (gr [0, 1, 2, 3, 4, 5] rfl (hB rfl rfl rfl (hR rfl rfl (hB rfl rfl rfl (hB rfl rfl rfl (hB rfl rfl rfl (hR rfl rfl .nil)))))) rfl)
        intro l30 h
        refine rn 4 rfl ?_
        exact jX ((w64 (n26 + 1)), l30) (hk2 _ h) (gr [0, 1, 2, 3, 4, 5] rfl (hB rfl rfl rfl (hR rfl rfl (hB rfl rfl rfl (hB rfl rfl rfl (hB rfl rfl rfl (hR rfl rfl .nil)))))) rfl)
       replace h := RG.f h hb28
       unfold M51_L2 at h
       refine rn 1 rfl ?_
       exact jX l27 h (gr [0, 1, 3, 5] rfl (hB rfl rfl rfl (hR rfl rfl (hB rfl rfl rfl (hR rfl rfl .nil)))) rfl)
      intro l23 h
      exact jX (x20.Level, l23) h (gr [0, 1, 2, 3] rfl (hB rfl rfl rfl (hR rfl rfl (hB rfl rfl rfl (hR rfl rfl .nil)))) rfl)
     refine rn 1 rfl ?_
     exact jX (1, ([] : List Int)) h (Ghost.trans (ghost_nilC 3 3 1 (Ob.arr 146 3 [[(iV y14), (iV 1), (V.own 4 0)]]) (ObSub.box (.cons Sub.keepNil (.cons Sub.keepNil (.cons Sub.mkNil .nil))))) (ghost_ren 4 (fun i => ([0, 1, 3, 4] : List Nat).getD i 0) _ _ (by decide) (EnvSub.get (.cons (Sub.ptr rfl rfl) (.cons (Sub.own rfl rfl) (.cons (Sub.ptr rfl rfl) (.cons (Sub.imm (Imm.lst _ _)) (.cons (Sub.imm (Imm.con _)) (.cons (Sub.imm (Imm.con _)) .nil))))))) (HpSub.get (.cons rfl (ObSub.box (.cons (Sub.imm (Imm.lst _ _)) (.cons (Sub.imm (Imm.lst _ _)) .nil))) (.cons rfl (ObSub.rows (rows_imm imms_encTpolicy_ruling)) (.cons rfl (ObSub.box (.cons (Sub.imm (Imm.con _)) (.cons (Sub.imm (Imm.con _)) (.cons (Sub.ownE rfl rfl (by simp)) .nil)))) (.cons rfl (ObSub.rows (rows_imm imms_encI_i64)) .nil))))) rfl))
    rintro ⟨n17, l18⟩ h
    refine rn 3 rfl ?_
    refine aops_ghost (ghost_frzV 3 68 (V.agg [(iV y14), (iV n17), (V.lst 1 (l18.map encI_i64))]) rfl (rows_imm imms_encI_i64) rfl (Sub.agg (.cons Sub.keep (.cons Sub.keep (.cons (Sub.frzAll (rows := l18.map encI_i64) (List.length_map ..).symm) .nil))))) ?_
    refine aops_buildSlice [(0, (V.agg [(iV y14), (iV n17), (V.lst 1 (l18.map encI_i64))]))] [[(iV y14), (iV n17), (V.lst 1 (l18.map encI_i64))]] tEl94 tZ146 rfl rfl rfl rfl wants_none (evp_cons rfl evp_nil) rfl rfl (by simp) rfl ?_
    refine fo ?_
    refine apO encTpolicy_ruling h rfl rfl rfl rfl rfl rfl rfl rfl (fun h => ?_)
    refine rn 3 rfl ?_
    exact jX (l8 ++ ([(Tpolicy_ruling.mk y14 n17 l18)] : List Tpolicy_ruling)) h (gr [0, 5] rfl (hB rfl rfl rfl (hR rfl rfl .nil)) rfl)
   intro l11 h
   refine rn 4 rfl ?_
   exact jX ((w64 (n7 + 1)), l11) (hk1 _ h) (gr [0, 1] rfl (hB rfl rfl rfl (hR rfl rfl .nil)) rfl)
  replace h := RG.f h hb9
  unfold M51_L1 at h
  refine rn 1 rfl ?_
  exact jX l8 h (gr [1] rfl (hR rfl rfl .nil) rfl)
 intro l4 h
 refine rn 5 rfl ?_
 refine awp_ghost (ghost_frzEs 0 [4, 5, 72] rfl (rows_imm imms_encTpolicy_ruling) (List.forall_mem_cons.2 ⟨rfl, (List.forall_mem_cons.2 ⟨rfl, (List.forall_mem_cons.2 ⟨rfl, (fun _ hx => nomatch hx)⟩)⟩)⟩) (List.length_map ..).symm) ?_
 refine fa ?_
 exact rt h rfl
theorem W50 (F : Nat) (a1 : TPolicy) (a2 : (List Tpolicy_ruling)) (a3 : Int) (r : (List TDecision)) (h : M50 F a1 a2 a3 = some r) : Mut Tryz.prog 50 [(V.agg (encTPolicy a1)), (V.lst 3 (a2.map encTpolicy_ruling)), (iV a3)] 0 [] (resV [(V.own 0 r.length)]) 1 [(0, (Ob.arr 50 4 (r.map encTDecision)))] := by
 refine mut_enter Tryz.func50 rfl rfl (l := [.tmp 6]) rfl rfl [(0, (V.agg (encTPolicy a1))), (1, (V.lst 3 (a2.map encTpolicy_ruling))), (2, (iV a3))] rfl (fun w0 m0 β0 hg => en ?_)
 unfold M50 at h
 refine rn 13 rfl ?_
 refine ln rfl rfl ?_
 refine rn 2 rfl ?_
 refine jK h (fun (p : (List TDecision)) => (⟨[(7, (V.own 0 p.length))], [(0, (Ob.arr 50 4 (p.map encTDecision)))], 1⟩ : St)) (fun k32 p => k32 p = some r) (fun k32 h => ?_) ?_
 ·refine rn 1 rfl ?_
  refine wl (A := a2) 1 rfl (fun hA58 => ?_)
  refine lC (fun (p : Int × (List TDecision)) => (⟨[(2, (iV a3)), (3, (V.ptr 0 2 0 0)), (7, (V.own 1 (p.2).length)), (14, (V.lst 3 (a2.map encTpolicy_ruling))), (15, (iV ((a2.length : Nat) : Int))), (16, (iV (p.1)))], [(0, (Ob.arr 33 2 [(encTPolicy a1)])), (1, (Ob.arr 50 4 ((p.2).map encTDecision)))], 2⟩ : St)) (fun n p => RG a2 (fun tl nn => M50_L1 F a1 a3 k32 tl nn p.2 = some r) n p.1) (fun p h => RG.zero h) (a2.length + 1) (0, ([] : List TDecision)) (RG.start h) (Ghost.trans (ghost_nilE 7 50 4 rfl) (ghost_ren 2 (fun i => ([0, 1] : List Nat).getD i 0) _ _ (by decide) (EnvSub.get (.cons (Sub.imm (Imm.con _)) (.cons (Sub.ptr rfl rfl) (.cons (Sub.ownE rfl rfl (by simp)) (.cons (Sub.imm (Imm.lst _ _)) (.cons (Sub.imm (Imm.con _)) (.cons (Sub.imm (Imm.con _)) .nil))))))) (HpSub.get (.cons rfl (ObSub.box (.cons (Sub.imm (Imm.lst _ _)) (.cons (Sub.imm (Imm.lst _ _)) .nil))) (.cons rfl (ObSub.rows (rows_imm imms_encTDecision)) .nil))) rfl)) (fun n p h => ?_)
  obtain ⟨n36, l37⟩ := p
  refine rn 5 rfl ?_
  refine spL rfl (fun hb38 => ?_) (fun hb38 => ?_)
  ·obtain ⟨x41, tl, hx42, h, hk1⟩ := RG.t hA58 h hb38
   unfold M50_L1 at h
   refine rn 2 rfl ?_
   refine jK h (fun (p : (List TDecision)) => (⟨[(2, (iV a3)), (3, (V.ptr 0 2 0 0)), (7, (V.own 1 p.length)), (14, (V.lst 3 (a2.map encTpolicy_ruling))), (15, (iV ((a2.length : Nat) : Int))), (16, (iV n36))], [(0, (Ob.arr 33 2 [(encTPolicy a1)])), (1, (Ob.arr 50 4 (p.map encTDecision)))], 2⟩ : St)) (fun k39 p => k39 p = some r) (fun k39 h => ?_) ?_
   ·refine rn 4 rfl ?_
    refine ixh hx42 rfl rfl ?_
    refine rn 21 rfl ?_
    refine ln rfl rfl ?_
    refine rn 2 rfl ?_
    refine jK h (fun (p : Int × Int) => (⟨[(2, (iV a3)), (3, (V.ptr 0 2 0 0)), (7, (V.own 1 l37.length)), (10, (V.ptr 2 4 0 0)), (14, (V.lst 3 (a2.map encTpolicy_ruling))), (15, (iV ((a2.length : Nat) : Int))), (16, (iV n36))], [(0, (Ob.arr 33 2 [(encTPolicy a1)])), (1, (Ob.arr 50 4 (l37.map encTDecision))), (2, (Ob.arr 50 4 [[(iV n36), (iV x41.rule), (iV (p.1)), (iV (p.2))]]))], 3⟩ : St)) (fun k43 p => k43 p.1 p.2 = some r) (fun k43 h => ?_) ?_
    ·refine rn 1 rfl ?_
     refine wl (A := x41.waivers) 28 rfl (fun hA56 => ?_)
     refine lC (fun (p : Int) => (⟨[(2, (iV a3)), (3, (V.ptr 0 2 0 0)), (7, (V.own 1 l37.length)), (10, (V.ptr 2 4 0 0)), (14, (V.lst 3 (a2.map encTpolicy_ruling))), (15, (iV ((a2.length : Nat) : Int))), (16, (iV n36)), (28, (V.lst 1 (x41.waivers.map encI_i64))), (29, (iV ((x41.waivers.length : Nat) : Int))), (30, (iV p))], [(0, (Ob.arr 33 2 [(encTPolicy a1)])), (1, (Ob.arr 50 4 (l37.map encTDecision))), (2, (Ob.arr 50 4 [[(iV n36), (iV x41.rule), (iV (-1)), (iV x41.level)]]))], 3⟩ : St)) (fun n p => RG x41.waivers (fun tl nn => M50_L2 F a1 a3 x41 k43 tl = some r) n p) (fun p h => RG.zero h) (x41.waivers.length + 1) 0 (RG.start h) (gr [0, 1, 3] rfl (hB rfl rfl rfl (hR rfl rfl (hB rfl rfl rfl .nil))) rfl) (fun n n47 h => ?_)
     refine rn 5 rfl ?_
     refine spL rfl (fun hb48 => ?_) (fun hb48 => ?_)
     ·obtain ⟨x50, tl, hx51, h, hk2⟩ := RG.t hA56 h hb48
      unfold M50_L2 at h
      refine rn 2 rfl ?_
      refine jK h (fun _ : Unit => (⟨[(2, (iV a3)), (3, (V.ptr 0 2 0 0)), (7, (V.own 1 l37.length)), (10, (V.ptr 2 4 0 0)), (14, (V.lst 3 (a2.map encTpolicy_ruling))), (15, (iV ((a2.length : Nat) : Int))), (16, (iV n36)), (28, (V.lst 1 (x41.waivers.map encI_i64))), (29, (iV ((x41.waivers.length : Nat) : Int))), (30, (iV n47))], [(0, (Ob.arr 33 2 [(encTPolicy a1)])), (1, (Ob.arr 50 4 (l37.map encTDecision))), (2, (Ob.arr 50 4 [[(iV n36), (iV x41.rule), (iV (-1)), (iV x41.level)]]))], 3⟩ : St)) (fun k49 (_ : Unit) => k49 = some r) (fun k49 h => ?_) ?_
      ·refine rn 3 rfl ?_
       refine ixh hx51 rfl rfl ?_
       refine rn 8 rfl ?_
       refine ixl h rfl rfl (fun x52 hx53 h => ?_)
       refine rn 11 rfl ?_
       refine spO 43 h rfl (fun hb54 h => ?_) (fun hb54 h => ?_)
       ·refine rn 6 rfl ?_
        refine spC h rfl (fun hb55 h => ?_) (fun hb55 h => ?_)
        ·refine rn 1 rfl ?_
         refine dr mixed (vs 7 rfl .nil) (by kernel_rfl) ?_
         refine rn 1 rfl ?_
         exact jX (x50, x52.Level) h (gr [0, 1, 2] rfl (hB rfl rfl rfl (hR rfl rfl (hB rfl rfl rfl .nil))) rfl)
        refine rn 2 rfl ?_
        exact jX () h (gr [0, 1, 2] rfl (hB rfl rfl rfl (hR rfl rfl (hB rfl rfl rfl .nil))) rfl)
       refine rn 9 rfl ?_
       exact jX () h (gr [0, 1, 2] rfl (hB rfl rfl rfl (hR rfl rfl (hB rfl rfl rfl .nil))) rfl)
      intro _ h
      refine rn 4 rfl ?_
      exact jX (w64 (n47 + 1)) (hk2 _ h) (gr [0, 1, 2] rfl (hB rfl rfl rfl (hR rfl rfl (hB rfl rfl rfl .nil))) rfl)
     replace h := RG.f h hb48
     unfold M50_L2 at h
     refine rn 1 rfl ?_
     exact jX ((-1), x41.level) h (gr [0, 1, 2] rfl (hB rfl rfl rfl (hR rfl rfl (hB rfl rfl rfl .nil))) rfl)
    rintro ⟨n44, n45⟩ h
    refine rn 3 rfl ?_
    refine aops_buildSlice [(0, (V.agg [(iV n36), (iV x41.rule), (iV n44), (iV n45)]))] [[(iV n36), (iV x41.rule), (iV n44), (iV n45)]] tEl45 tZ50 rfl rfl rfl rfl wants_none (evp_cons rfl evp_nil) rfl rfl (by simp) rfl ?_
    refine fo ?_
    refine apO encTDecision h rfl rfl rfl rfl rfl rfl rfl rfl (fun h => ?_)
    refine rn 3 rfl ?_
    exact jX (l37 ++ ([(TDecision.mk n36 x41.rule n44 n45)] : List TDecision)) h (gr [0, 4] rfl (hB rfl rfl rfl (hR rfl rfl .nil)) rfl)
   intro l40 h
   refine rn 4 rfl ?_
   exact jX ((w64 (n36 + 1)), l40) (hk1 _ h) (gr [0, 1] rfl (hB rfl rfl rfl (hR rfl rfl .nil)) rfl)
  replace h := RG.f h hb38
  unfold M50_L1 at h
  refine rn 1 rfl ?_
  exact jX l37 h (gr [1] rfl (hR rfl rfl .nil) rfl)
 intro l33 h
 refine rn 5 rfl ?_
 replace h := Option.some.inj h
 subst h
 exact wR ⟨.inl rfl, [(6, (V.own 0 l33.length))], (gr [0] rfl (hR rfl rfl .nil) rfl), (.cons (.tmp rfl) .nil)⟩
theorem W24 (F : Nat) (a1 : (List TDecision)) (a2 : (List TDecision)) (r : Bool) (h : M24 F a1 a2 = some r) : Pure Tryz.prog 24 [(V.lst 4 (a1.map encTDecision)), (V.lst 4 (a2.map encTDecision))] (bV r) := by
 refine pin (fun r => (bV r)) r rfl Tryz.func24 rfl rfl rfl rfl rfl (fun w0 m0 hg => ?_)
 unfold M24 at h
 refine rn 8 rfl ?_
 refine ln rfl rfl ?_
 refine rn 1 rfl ?_
 refine ln rfl rfl ?_
 refine rn 2 rfl ?_
 refine spC h rfl (fun hb3 h => ?_) (fun hb3 h => ?_)
 ·refine rn 4 rfl ?_
  exact rt h rfl
 refine rn 5 rfl ?_
 refine ln rfl rfl ?_
 refine rn 2 rfl ?_
 refine jK h (fun _ : Unit => (⟨[], [], 0⟩ : St)) (fun k4 (_ : Unit) => k4 = some r) (fun k4 h => ?_) ?_
 ·refine rn 1 rfl ?_
  refine wl (A := a1) 0 rfl (fun hA13 => ?_)
  refine lC (fun (p : Int) => (⟨[(0, (V.lst 4 (a1.map encTDecision))), (1, (V.lst 4 (a2.map encTDecision))), (12, (iV ((a1.length : Nat) : Int))), (13, (iV p))], [], 0⟩ : St)) (fun n p => RG a1 (fun tl nn => M24_L1 F a2 k4 tl nn = some r) n p) (fun p h => RG.zero h) (a1.length + 1) 0 (RG.start h) (g0 rfl rfl) (fun n n6 h => ?_)
  refine rn 5 rfl ?_
  refine spL rfl (fun hb7 => ?_) (fun hb7 => ?_)
  ·obtain ⟨x8, tl, hx9, h, hk1⟩ := RG.t hA13 h hb7
   unfold M24_L1 at h
   obtain ⟨x10, hx11, h⟩ := bind_some h
   refine rn 9 rfl ?_
   refine dr mixed (vs 2 rfl (iD hx9 rfl rfl rfl (vs 3 rfl (iD hx11 rfl rfl rfl (vs 1 rfl (xD (OD.mk [(19, (V.agg (encTDecision x8))), (23, (V.agg (encTDecision x10)))] [] [(24, (bV (!(decide (x8 = x10)))))] []) ⟨⟨rfl, rfl, trivial⟩, trivial⟩ (by exact fun S hn h hh => aops_eqS true (xs := cv50 x8) (ys := cv50 x10) (b := (decide (x8 = x10))) eqk50 ⟨_, rfl⟩ ⟨_, rfl⟩ (eq_b cv50 _ _ (inj_cv50 _ _)) tEqG50 wants_none h.1 h.2.1 rfl (aops_nil ⟨rfl, rfl⟩)) rfl .nil)))))) (by kernel_rfl) ?_
   refine spC h rfl (fun hb12 h => ?_) (fun hb12 h => ?_)
   ·refine rn 4 rfl ?_
    exact rt h rfl
   refine rn 6 rfl ?_
   exact jX (w64 (n6 + 1)) (hk1 _ h) (g0 rfl rfl)
  replace h := RG.f h hb7
  unfold M24_L1 at h
  refine rn 1 rfl ?_
  exact jX () h (g0 rfl rfl)
 intro _ h
 refine rn 4 rfl ?_
 exact rt h rfl
theorem W50_1 (F : Nat) (a1 : TPolicy) (a2 : (List Tpolicy_ruling)) (a3 : Int) (r : (List TDecision)) (h : M50_1 F a1 a2 a3 = some r) : Pure Tryz.prog 50 [(V.agg (encTPolicy a1)), (V.lst 3 (a2.map encTpolicy_ruling)), (iV a3)] (V.lst 4 (r.map encTDecision)) := by
 refine pin (fun r => (V.lst 4 (r.map encTDecision))) r rfl Tryz.func50 rfl rfl rfl rfl rfl (fun w0 m0 hg => ?_)
 unfold M50_1 at h
 refine rn 13 rfl ?_
 refine ln rfl rfl ?_
 refine rn 2 rfl ?_
 refine jK h (fun (p : (List TDecision)) => (⟨[(7, (V.own 0 p.length))], [(0, (Ob.arr 50 4 (p.map encTDecision)))], 1⟩ : St)) (fun k4 p => k4 p = some r) (fun k4 h => ?_) ?_
 ·refine rn 1 rfl ?_
  refine wl (A := a2) 1 rfl (fun hA30 => ?_)
  refine lC (fun (p : Int × (List TDecision)) => (⟨[(2, (iV a3)), (3, (V.ptr 0 2 0 0)), (7, (V.own 1 (p.2).length)), (14, (V.lst 3 (a2.map encTpolicy_ruling))), (15, (iV ((a2.length : Nat) : Int))), (16, (iV (p.1)))], [(0, (Ob.arr 33 2 [(encTPolicy a1)])), (1, (Ob.arr 50 4 ((p.2).map encTDecision)))], 2⟩ : St)) (fun n p => RG a2 (fun tl nn => M50_1_L1 F a1 a3 k4 tl nn p.2 = some r) n p.1) (fun p h => RG.zero h) (a2.length + 1) (0, ([] : List TDecision)) (RG.start h) (Ghost.trans (ghost_nilE 7 50 4 rfl) (ghost_ren 2 (fun i => ([0, 1] : List Nat).getD i 0) _ _ (by decide) (EnvSub.get (.cons (Sub.imm (Imm.con _)) (.cons (Sub.ptr rfl rfl) (.cons (Sub.ownE rfl rfl (by simp)) (.cons (Sub.imm (Imm.lst _ _)) (.cons (Sub.imm (Imm.con _)) (.cons (Sub.imm (Imm.con _)) .nil))))))) (HpSub.get (.cons rfl (ObSub.box (.cons (Sub.imm (Imm.lst _ _)) (.cons (Sub.imm (Imm.lst _ _)) .nil))) (.cons rfl (ObSub.rows (rows_imm imms_encTDecision)) .nil))) rfl)) (fun n p h => ?_)
  obtain ⟨n8, l9⟩ := p
  refine rn 5 rfl ?_
  refine spL rfl (fun hb10 => ?_) (fun hb10 => ?_)
  ·obtain ⟨x13, tl, hx14, h, hk1⟩ := RG.t hA30 h hb10
   unfold M50_1_L1 at h
   refine rn 2 rfl ?_
   refine jK h (fun (p : (List TDecision)) => (⟨[(2, (iV a3)), (3, (V.ptr 0 2 0 0)), (7, (V.own 1 p.length)), (14, (V.lst 3 (a2.map encTpolicy_ruling))), (15, (iV ((a2.length : Nat) : Int))), (16, (iV n8))], [(0, (Ob.arr 33 2 [(encTPolicy a1)])), (1, (Ob.arr 50 4 (p.map encTDecision)))], 2⟩ : St)) (fun k11 p => k11 p = some r) (fun k11 h => ?_) ?_
   ·refine rn 4 rfl ?_
    refine ixh hx14 rfl rfl ?_
    refine rn 21 rfl ?_
    refine ln rfl rfl ?_
    refine rn 2 rfl ?_
    refine jK h (fun (p : Int × Int) => (⟨[(2, (iV a3)), (3, (V.ptr 0 2 0 0)), (7, (V.own 1 l9.length)), (10, (V.ptr 2 4 0 0)), (14, (V.lst 3 (a2.map encTpolicy_ruling))), (15, (iV ((a2.length : Nat) : Int))), (16, (iV n8))], [(0, (Ob.arr 33 2 [(encTPolicy a1)])), (1, (Ob.arr 50 4 (l9.map encTDecision))), (2, (Ob.arr 50 4 [[(iV n8), (iV x13.rule), (iV (p.1)), (iV (p.2))]]))], 3⟩ : St)) (fun k15 p => k15 p.1 p.2 = some r) (fun k15 h => ?_) ?_
    ·refine rn 1 rfl ?_
     refine wl (A := x13.waivers) 28 rfl (fun hA28 => ?_)
     refine lC (fun (p : Int) => (⟨[(2, (iV a3)), (3, (V.ptr 0 2 0 0)), (7, (V.own 1 l9.length)), (10, (V.ptr 2 4 0 0)), (14, (V.lst 3 (a2.map encTpolicy_ruling))), (15, (iV ((a2.length : Nat) : Int))), (16, (iV n8)), (28, (V.lst 1 (x13.waivers.map encI_i64))), (29, (iV ((x13.waivers.length : Nat) : Int))), (30, (iV p))], [(0, (Ob.arr 33 2 [(encTPolicy a1)])), (1, (Ob.arr 50 4 (l9.map encTDecision))), (2, (Ob.arr 50 4 [[(iV n8), (iV x13.rule), (iV (-1)), (iV x13.level)]]))], 3⟩ : St)) (fun n p => RG x13.waivers (fun tl nn => M50_1_L2 F a1 a3 x13 k15 tl = some r) n p) (fun p h => RG.zero h) (x13.waivers.length + 1) 0 (RG.start h) (gr [0, 1, 3] rfl (hB rfl rfl rfl (hR rfl rfl (hB rfl rfl rfl .nil))) rfl) (fun n n19 h => ?_)
     refine rn 5 rfl ?_
     refine spL rfl (fun hb20 => ?_) (fun hb20 => ?_)
     ·obtain ⟨x22, tl, hx23, h, hk2⟩ := RG.t hA28 h hb20
      unfold M50_1_L2 at h
      refine rn 2 rfl ?_
      refine jK h (fun _ : Unit => (⟨[(2, (iV a3)), (3, (V.ptr 0 2 0 0)), (7, (V.own 1 l9.length)), (10, (V.ptr 2 4 0 0)), (14, (V.lst 3 (a2.map encTpolicy_ruling))), (15, (iV ((a2.length : Nat) : Int))), (16, (iV n8)), (28, (V.lst 1 (x13.waivers.map encI_i64))), (29, (iV ((x13.waivers.length : Nat) : Int))), (30, (iV n19))], [(0, (Ob.arr 33 2 [(encTPolicy a1)])), (1, (Ob.arr 50 4 (l9.map encTDecision))), (2, (Ob.arr 50 4 [[(iV n8), (iV x13.rule), (iV (-1)), (iV x13.level)]]))], 3⟩ : St)) (fun k21 (_ : Unit) => k21 = some r) (fun k21 h => ?_) ?_
      ·refine rn 3 rfl ?_
       refine ixh hx23 rfl rfl ?_
       refine rn 8 rfl ?_
       refine ixl h rfl rfl (fun x24 hx25 h => ?_)
       refine rn 11 rfl ?_
       refine spO 43 h rfl (fun hb26 h => ?_) (fun hb26 h => ?_)
       ·refine rn 6 rfl ?_
        refine spC h rfl (fun hb27 h => ?_) (fun hb27 h => ?_)
        ·refine rn 1 rfl ?_
         refine dr mixed (vs 7 rfl .nil) (by kernel_rfl) ?_
         refine rn 1 rfl ?_
         exact jX (x22, x24.Level) h (gr [0, 1, 2] rfl (hB rfl rfl rfl (hR rfl rfl (hB rfl rfl rfl .nil))) rfl)
        refine rn 2 rfl ?_
        exact jX () h (gr [0, 1, 2] rfl (hB rfl rfl rfl (hR rfl rfl (hB rfl rfl rfl .nil))) rfl)
       refine rn 9 rfl ?_
       exact jX () h (gr [0, 1, 2] rfl (hB rfl rfl rfl (hR rfl rfl (hB rfl rfl rfl .nil))) rfl)
      intro _ h
      refine rn 4 rfl ?_
      exact jX (w64 (n19 + 1)) (hk2 _ h) (gr [0, 1, 2] rfl (hB rfl rfl rfl (hR rfl rfl (hB rfl rfl rfl .nil))) rfl)
     replace h := RG.f h hb20
     unfold M50_1_L2 at h
     refine rn 1 rfl ?_
     exact jX ((-1), x13.level) h (gr [0, 1, 2] rfl (hB rfl rfl rfl (hR rfl rfl (hB rfl rfl rfl .nil))) rfl)
    rintro ⟨n16, n17⟩ h
    refine rn 3 rfl ?_
    refine aops_buildSlice [(0, (V.agg [(iV n8), (iV x13.rule), (iV n16), (iV n17)]))] [[(iV n8), (iV x13.rule), (iV n16), (iV n17)]] tEl45 tZ50 rfl rfl rfl rfl wants_none (evp_cons rfl evp_nil) rfl rfl (by simp) rfl ?_
    refine fo ?_
    refine apO encTDecision h rfl rfl rfl rfl rfl rfl rfl rfl (fun h => ?_)
    refine rn 3 rfl ?_
    exact jX (l9 ++ ([(TDecision.mk n8 x13.rule n16 n17)] : List TDecision)) h (gr [0, 4] rfl (hB rfl rfl rfl (hR rfl rfl .nil)) rfl)
   intro l12 h
   refine rn 4 rfl ?_
   exact jX ((w64 (n8 + 1)), l12) (hk1 _ h) (gr [0, 1] rfl (hB rfl rfl rfl (hR rfl rfl .nil)) rfl)
  replace h := RG.f h hb10
  unfold M50_1_L1 at h
  refine rn 1 rfl ?_
  exact jX l9 h (gr [1] rfl (hR rfl rfl .nil) rfl)
 intro l5 h
 refine rn 5 rfl ?_
 refine awp_ghost (ghost_frzEs 0 [6, 7, 60] rfl (rows_imm imms_encTDecision) (List.forall_mem_cons.2 ⟨rfl, (List.forall_mem_cons.2 ⟨rfl, (List.forall_mem_cons.2 ⟨rfl, (fun _ hx => nomatch hx)⟩)⟩)⟩) (List.length_map ..).symm) ?_
 refine fa ?_
 exact rt h rfl
theorem W27 (F : Nat) (a1 : TPolicy) (a2 : (List TFact)) (a3 : Int) (r : ((List Int) × Int)) (h : M27 F a1 a2 a3 = some r) : Pure Tryz.prog 27 [(V.agg (encTPolicy a1)), (V.lst 4 (a2.map encTFact)), (iV a3)] (V.tup [(V.lst 1 ((r.1).map encI_i64)), (iV (r.2))]) := by
 refine pin (fun r => (V.tup [(V.lst 1 ((r.1).map encI_i64)), (iV (r.2))])) r rfl Tryz.func27 rfl rfl rfl rfl rfl (fun w0 m0 hg => ?_)
 unfold M27 at h
 refine rn 12 rfl ?_
 refine cl h rfl rfl rfl (W49 _ _ _ _) rfl (fun y4 hx5 h => ?_)
 refine rn 7 rfl ?_
 refine spC h rfl (fun hb6 h => ?_) (fun hb6 h => ?_)
 ·refine rn 6 rfl ?_
  exact rt h rfl
 obtain ⟨y7, hx8, h⟩ := bind_some h
 obtain ⟨y9, hx10, h⟩ := bind_some h
 refine rn 8 rfl ?_
 refine dr mixed (vs 3 rfl (cD rfl rfl rfl rfl (W51 _ _ _ _ hx8) rfl (vs 1 rfl (cD rfl rfl rfl rfl (W50_1 _ _ _ _ _ hx10) rfl (nD rfl rfl rfl (vs 1 rfl .nil)))))) (by kernel_rfl) ?_
 refine jK h (fun (p : (List (Int × Bool))) => (⟨[(2, (iV a3)), (3, (V.ptr 0 2 0 0)), (9, (V.map 1))], [(0, (Ob.arr 33 2 [(encTPolicy a1)])), (1, (Ob.map (p.map encM3_4)))], 2⟩ : St)) (fun k11 p => k11 p = some r) (fun k11 h => ?_) ?_
 ·refine rn 1 rfl ?_
  refine wl (A := y9) 28 rfl (fun hA20 => ?_)
  refine lC (fun (p : Int × (List (Int × Bool))) => (⟨[(2, (iV a3)), (3, (V.ptr 0 2 0 0)), (9, (V.map 1)), (28, (V.lst 4 (y9.map encTDecision))), (29, (iV ((y9.length : Nat) : Int))), (30, (iV (p.1)))], [(0, (Ob.arr 33 2 [(encTPolicy a1)])), (1, (Ob.map ((p.2).map encM3_4)))], 2⟩ : St)) (fun n p => RG y9 (fun tl nn => M27_L1 F k11 tl p.2 = some r) n p.1) (fun p h => RG.zero h) (y9.length + 1) (0, ([] : List (Int × Bool))) (RG.start h) (gr [0, 1] rfl (hB rfl rfl rfl (hM rfl rfl .nil)) rfl) (fun n p h => ?_)
  obtain ⟨n15, m16⟩ := p
  refine rn 5 rfl ?_
  refine spL rfl (fun hb17 => ?_) (fun hb17 => ?_)
  ·obtain ⟨x18, tl, hx19, h, hk1⟩ := RG.t hA20 h hb17
   unfold M27_L1 at h
   refine rn 5 rfl ?_
   refine ixh hx19 rfl rfl ?_
   refine rn 8 rfl ?_
   refine aops_mapUpdate (es := m16.map encM3_4) ((mput m16 x18.Waiver true).map encM3_4) tMap102 tKey3 wants_none rfl rfl (.con rfl) ⟨_, rfl⟩ encM3_4_good rfl (encM3_4_puts m16 x18.Waiver true) ?_
   refine fo (rn 6 rfl ?_)
   exact jX ((w64 (n15 + 1)), (mput m16 x18.Waiver true)) (hk1 _ h) (gr [0, 1] rfl (hB rfl rfl rfl (hM rfl rfl .nil)) rfl)
  replace h := RG.f h hb17
  unfold M27_L1 at h
  refine rn 1 rfl ?_
  exact jX m16 h (gr [0, 1] rfl (hB rfl rfl rfl (hM rfl rfl .nil)) rfl)
 intro m12 h
 refine rn 9 rfl ?_
 refine ln rfl rfl ?_
 refine rn 2 rfl ?_
 refine jK h (fun (p : (List Int)) => (⟨[(12, (V.own 0 p.length))], [(0, (Ob.arr 3 1 (p.map encI_i64)))], 1⟩ : St)) (fun k21 p => k21 p = some r) (fun k21 h => ?_) ?_
 ·refine rn 1 rfl ?_
  refine wl (A := a1.Waivers) 39 rfl (fun hA38 => ?_)
  refine lC (fun (p : Int × (List Int)) => (⟨[(2, (iV a3)), (9, (V.map 0)), (12, (V.own 1 (p.2).length)), (39, (V.lst 6 (a1.Waivers.map encTWaiver))), (40, (iV ((a1.Waivers.length : Nat) : Int))), (41, (iV (p.1)))], [(0, (Ob.map (m12.map encM3_4))), (1, (Ob.arr 3 1 ((p.2).map encI_i64)))], 2⟩ : St)) (fun n p => RG a1.Waivers (fun tl nn => M27_L2 F a3 m12 k21 tl nn p.2 = some r) n p.1) (fun p h => RG.zero h) (a1.Waivers.length + 1) (0, ([] : List Int)) (RG.start h) (Ghost.trans (ghost_nilE 12 3 1 rfl) (ghost_ren 2 (fun i => ([1, 2] : List Nat).getD i 0) _ _ (by decide) (EnvSub.get (.cons (Sub.imm (Imm.con _)) (.cons (Sub.map rfl rfl) (.cons (Sub.ownE rfl rfl (by simp)) (.cons (Sub.imm (Imm.lst _ _)) (.cons (Sub.imm (Imm.con _)) (.cons (Sub.imm (Imm.con _)) .nil))))))) (HpSub.get (.cons rfl (ObSub.maps encM3_4_imm) (.cons rfl (ObSub.rows (rows_imm imms_encI_i64)) .nil))) rfl)) (fun n p h => ?_)
  obtain ⟨n25, l26⟩ := p
  refine rn 5 rfl ?_
  refine spL rfl (fun hb27 => ?_) (fun hb27 => ?_)
  ·obtain ⟨x30, tl, hx31, h, hk2⟩ := RG.t hA38 h hb27
   unfold M27_L2 at h
   refine rn 2 rfl ?_
   refine jK h (fun (p : (List Int)) => (⟨[(2, (iV a3)), (9, (V.map 0)), (12, (V.own 1 p.length)), (39, (V.lst 6 (a1.Waivers.map encTWaiver))), (40, (iV ((a1.Waivers.length : Nat) : Int))), (41, (iV n25))], [(0, (Ob.map (m12.map encM3_4))), (1, (Ob.arr 3 1 (p.map encI_i64)))], 2⟩ : St)) (fun k28 p => k28 p = some r) (fun k28 h => ?_) ?_
   ·refine rn 4 rfl ?_
    refine ixh hx31 rfl rfl ?_
    refine rn 9 rfl ?_
    refine aops_lookup _ (bV false) (bV ((mget m12 n25).getD false)) tMap102 tKey3 tZo4 (irel_con _) wants_none rfl (.own rfl) (.con rfl) ⟨_, rfl⟩ encM3_4_good (encM3_4_look m12 n25) (getD_map (encM3_4_val) (mget m12 n25) false) rfl ?_
    refine fo (rn 2 rfl ?_)
    refine spO 50 h rfl (fun hb32 h => ?_) (fun hb32 h => ?_)
    ·refine rn 6 rfl ?_
     refine spO 56 h rfl (fun hb33 h => ?_) (fun hb33 h => ?_)
     ·refine rn 6 rfl ?_
      refine jK h (fun (p : (List Int)) => (⟨[(2, (iV a3)), (9, (V.map 0)), (12, (V.own 1 p.length)), (39, (V.lst 6 (a1.Waivers.map encTWaiver))), (40, (iV ((a1.Waivers.length : Nat) : Int))), (41, (iV n25)), (54, (bV (decide (a3 ≥ x30.From)))), (60, (bV (decide (a3 ≤ x30.To))))], [(0, (Ob.map (m12.map encM3_4))), (1, (Ob.arr 3 1 (p.map encI_i64)))], 2⟩ : St)) (fun k34 p => k34 p = some r) (fun k34 h => ?_) ?_
      ·refine spC h rfl (fun hb36 h => ?_) (fun hb36 h => ?_)
       ·refine rn 3 rfl ?_
        refine aops_buildSlice [(0, (iV n25))] [[(iV n25)]] tEl57 tZ3 rfl rfl rfl rfl wants_none (evp_cons rfl evp_nil) rfl rfl (by simp) rfl ?_
        refine fo ?_
        refine apO encI_i64 h rfl rfl rfl rfl rfl rfl rfl rfl (fun h => ?_)
        refine rn 2 rfl ?_
        exact jX (l26 ++ ([n25] : List Int)) h (gr [0, 4] rfl (hM rfl rfl (hR rfl rfl .nil)) rfl)
       refine rn 1 rfl ?_
       exact jX l26 h (gr [0, 1] rfl (hM rfl rfl (hR rfl rfl .nil)) rfl)
      intro l35 h
      refine rn 1 rfl ?_
      exact jX l35 h (gr [0, 1] rfl (hM rfl rfl (hR rfl rfl .nil)) rfl)
     refine rn 9 rfl ?_
     exact jX l26 h (gr [0, 1] rfl (hM rfl rfl (hR rfl rfl .nil)) rfl)
    refine rn 15 rfl ?_
    exact jX l26 h (gr [0, 1] rfl (hM rfl rfl (hR rfl rfl .nil)) rfl)
   intro l29 h
   refine rn 4 rfl ?_
   exact jX ((w64 (n25 + 1)), l29) (hk2 _ h) (gr [0, 1] rfl (hM rfl rfl (hR rfl rfl .nil)) rfl)
  replace h := RG.f h hb27
  unfold M27_L2 at h
  refine rn 1 rfl ?_
  exact jX l26 h (gr [1] rfl (hR rfl rfl .nil) rfl)
 intro l22 h
 refine rn 6 rfl ?_
 refine awp_ghost (ghost_frzEs 0 [6, 12, 67] rfl (rows_imm imms_encI_i64) (List.forall_mem_cons.2 ⟨rfl, (List.forall_mem_cons.2 ⟨rfl, (List.forall_mem_cons.2 ⟨rfl, (fun _ hx => nomatch hx)⟩)⟩)⟩) (List.length_map ..).symm) ?_
 refine fa ?_
 exact rt h rfl
theorem W18 (F : Nat) (a1 : (List TWaiver)) (r : (List TWaiver)) (h : M18 F a1 = some r) : Mut Tryz.prog 18 [(V.lst 6 (a1.map encTWaiver))] 0 [] (resV [(V.own 0 r.length)]) 1 [(0, (Ob.arr 44 6 (r.map encTWaiver)))] := by
 refine mut_enter Tryz.func18 rfl rfl (l := [.tmp 2]) rfl rfl [(0, (V.lst 6 (a1.map encTWaiver)))] rfl (fun w0 m0 β0 hg => en ?_)
 unfold M18 at h
 refine rn 8 rfl ?_
 refine aops_isNil (n := a1.length) false tIsSl31 wants_none rfl rfl (congrArg some (List.length_map ..)) rfl (fun b7 hn8 => ?_)
 replace h := nilq_elim h hn8
 refine fo (rn 1 rfl ?_)
 refine spC h rfl (fun hb9 h => ?_) (fun hb9 h => ?_)
 ·refine rn 4 rfl ?_
  replace h := Option.some.inj h
  subst h
  exact wR ⟨.inl rfl, [(2, (V.own 0 ([] : List TWaiver).length))], (Ghost.trans (ghost_nilE 2 44 6 rfl) (ghost_ren 1 (fun i => ([0] : List Nat).getD i 0) _ _ (by decide) (EnvSub.get (.cons (Sub.ownE rfl rfl (by simp)) .nil)) (HpSub.get (.cons rfl (ObSub.rows (rows_imm imms_encTWaiver)) .nil)) rfl)), (.cons (.tmp rfl) .nil)⟩
 refine rn 3 rfl ?_
 refine aops_emptySlice tEl31 wants_none rfl ?_
 refine fo (rn 1 rfl ?_)
 refine apL encTWaiver h rfl rfl rfl (by simp) rfl (fun h => ?_)
 refine rn 2 rfl ?_
 replace h := Option.some.inj h
 subst h
 exact wR ⟨.inl rfl, [(2, (V.own 0 (([] : List TWaiver) ++ a1).length))], (gr [1] rfl (hR rfl rfl .nil) rfl), (.cons (.tmp rfl) .nil)⟩
theorem W17_1 (F : Nat) (a1 : TPolicy) (a2 : (List TFact)) (a3 : Int) (r : (Int × (List TDecision))) (h : M17_1 F a1 a2 a3 = some r) : Mut Tryz.prog 17 [(V.agg (encTPolicy a1)), (V.lst 4 (a2.map encTFact)), (iV a3)] 0 [] (resV [(V.own 0 (r.2).length), (iV (r.1))]) 1 [(0, (Ob.arr 50 4 ((r.2).map encTDecision)))] := by
 refine mut_enter Tryz.func17 rfl rfl (l := [.tmp 6, .tmp 7]) rfl rfl [(0, (V.agg (encTPolicy a1))), (1, (V.lst 4 (a2.map encTFact))), (2, (iV a3))] rfl (fun w0 m0 β0 hg => en ?_)
 unfold M17_1 at h
 refine rn 12 rfl ?_
 refine cl h rfl rfl rfl (W49 _ _ _ _) rfl (fun y13 hx14 h => ?_)
 refine rn 7 rfl ?_
 refine spC h rfl (fun hb15 h => ?_) (fun hb15 h => ?_)
 ·refine rn 6 rfl ?_
  replace h := Option.some.inj h
  subst h
  exact wR ⟨.inl rfl, [(6, (V.own 0 ([] : List TDecision).length)), (7, (iV y13))], (Ghost.trans (ghost_nilE 6 50 4 rfl) (ghost_ren 1 (fun i => ([1] : List Nat).getD i 0) _ _ (by decide) (EnvSub.get (.cons (Sub.ownE rfl rfl (by simp)) (.cons (Sub.imm (Imm.con _)) .nil))) (HpSub.get (.cons rfl (ObSub.rows (rows_imm imms_encTDecision)) .nil)) rfl)), (.cons (.tmp rfl) (.cons (.tmp rfl) .nil))⟩
 obtain ⟨y16, hx17, h⟩ := bind_some h
 obtain ⟨y18, hx19, h⟩ := bind_some h
 refine rn 2 rfl ?_
 refine awp_ghost ghost_res ?_
 refine fa ?_
 refine dr mixed (vs 3 rfl (cD rfl rfl rfl rfl (W51 _ _ _ _ hx17) rfl (vs 1 rfl (xD (OD.mk [(16, (V.agg (encTPolicy a1))), (19, (V.lst 3 (y16.map encTpolicy_ruling))), (20, (iV a3))] [(1, Ob.res)] [(21, (V.own 1 y18.length))] [(1, (Ob.arr 50 4 (y18.map encTDecision)))]) ⟨⟨rfl, rfl, rfl, trivial⟩, ⟨rfl, trivial⟩⟩ (by exact fun S hn h hh => aops_mcall_at [1] rfl hn (List.forall_mem_cons.2 ⟨hh.1, (fun _ hx => nomatch hx)⟩) (V.own 1 y18.length) [(V.agg (encTPolicy a1)), (V.lst 3 (y16.map encTpolicy_ruling)), (iV a3)] [(1, (Ob.arr 50 4 (y18.map encTDecision)))] fOk50 wants_none rfl (evm_cons h.1 (evm_cons h.2.1 (evm_cons h.2.2.1 evm_nil))) (.cons (Sub.imm (Imm.agg (imms_encTPolicy _))) (.cons (Sub.imm (Imm.lst _ _)) (.cons (Sub.imm (Imm.con _)) .nil))) (W50 F a1 y16 a3 y18 hx19) rfl rfl (Sub.ownT rfl rfl) (.cons rfl (ObSub.rowsT (rows_imm imms_encTDecision)) .nil) (aops_nil ⟨rfl, rfl⟩)) rfl (vs 2 rfl .nil))))) (by kernel_rfl) ?_
 replace h := Option.some.inj h
 subst h
 exact wR ⟨.inl rfl, [(6, (V.own 0 y18.length)), (7, (iV 0))], (gr [1] rfl (hR rfl rfl .nil) rfl), (.cons (.tmp rfl) (.cons (.tmp rfl) .nil))⟩
theorem W30 (F : Nat) (a1 : Int) (a2 : Int) (a3 : List TWaiver) (r : List TWaiver) (h : M30 F a1 a2 a3 = some r) : Mut Tryz.prog 30 [(V.own 0 a3.length), (iV a1), (iV a2)] 1 [(0, (Ob.arr 44 6 (a3.map encTWaiver)))] (resV [(V.own 0 r.length)]) 1 [(0, (Ob.arr 44 6 (r.map encTWaiver)))] := by
 unfold M30 at h
 by_cases hc : 0 ≤ a1 ∧ a1 ≤ a2 ∧ a2.toNat ≤ a3.length
 ·rw [if_pos hc] at h
  replace h := Option.some.inj h
  subst h
  exact (mut_deleteG encTWaiver (fun _ => rfl) (fun x => (imms_encTWaiver _)) a3 a1 a2 rfl del30 nil30 hc).heap hget_one
 ·rw [if_neg hc] at h; simp at h
theorem W7 (F : Nat) (a1 : TPolicy) (a2 : (List TFact)) (a3 : Int) (r : Bool) (h : M7 F a1 a2 a3 = some r) : Pure Tryz.prog 7 [(V.agg (encTPolicy a1)), (V.lst 4 (a2.map encTFact)), (iV a3)] (bV r) := by
 refine pin (fun r => (bV r)) r rfl Tryz.func7 rfl rfl rfl rfl rfl (fun w0 m0 hg => ?_)
 unfold M7 at h
 refine rn 10 rfl ?_
 refine cl h rfl rfl rfl (W27 _ _ _ _) rfl (fun y4 hx5 h => ?_)
 obtain ⟨y6, hx7, h⟩ := bind_some h
 refine rn 11 rfl ?_
 refine aops_mcallS (V.tup [(V.own 1 (y6.2).length), (iV (y6.1))]) [(V.agg (encTPolicy a1)), (V.lst 4 (a2.map encTFact)), (iV a3)] (fun i => ([] : List Nat).getD i 0) (fun i => ([1] : List Nat).getD i 0) 1 2 [(1, (Ob.arr 50 4 ((y6.2).map encTDecision)))] fOk17 wants_none rfl (evm_cons rfl (evm_cons rfl (evm_cons rfl evm_nil))) (.cons (Sub.imm (Imm.agg (imms_encTPolicy _))) (.cons (Sub.imm (Imm.lst _ _)) (.cons (Sub.imm (Imm.con _)) .nil))) .nil (W17_1 F a1 a2 a3 y6 hx7) rfl rfl rfl rfl (Sub.tupT (.cons (Sub.ownT rfl rfl) (.cons (Sub.immT (Imm.con _)) .nil))) (.cons rfl (ObSub.rowsT (rows_imm imms_encTDecision)) .nil) _ rfl ?_
 refine fo (rn 12 rfl ?_)
 refine spO 33 h rfl (fun hb8 h => ?_) (fun hb8 h => ?_)
 ·refine rn 11 rfl ?_
  refine spO 40 h rfl (fun hb9 h => ?_) (fun hb9 h => ?_)
  ·refine cl h rfl rfl rfl (W16 _) rfl (fun y10 hx11 h => ?_)
   refine rn 3 rfl ?_
   exact rt h rfl
  refine rn 4 rfl ?_
  exact rt h rfl
 refine rn 4 rfl ?_
 refine spC h rfl (fun hb12 h => ?_) (fun hb12 h => ?_)
 ·refine rn 6 rfl ?_
  refine spO 40 h rfl (fun hb13 h => ?_) (fun hb13 h => ?_)
  ·refine cl h rfl rfl rfl (W16 _) rfl (fun y14 hx15 h => ?_)
   refine rn 3 rfl ?_
   exact rt h rfl
  refine rn 4 rfl ?_
  exact rt h rfl
 refine rn 5 rfl ?_
 refine ln rfl rfl ?_
 refine rn 2 rfl ?_
 refine jK h (fun _ : Unit => (⟨[], [], 0⟩ : St)) (fun k16 (_ : Unit) => k16 = some r) (fun k16 h => ?_) ?_
 ·refine rn 1 rfl ?_
  refine wl (A := (y4.1)) 22 rfl (fun hA51 => ?_)
  refine lC (fun (p : Int) => (⟨[(1, (V.lst 4 (a2.map encTFact))), (2, (iV a3)), (3, (V.ptr 0 2 0 0)), (9, (V.own 1 (y6.2).length)), (43, (V.lst 1 ((y4.1).map encI_i64))), (44, (iV (((y4.1).length : Nat) : Int))), (45, (iV p))], [(0, (Ob.arr 33 2 [(encTPolicy a1)])), (1, (Ob.arr 50 4 ((y6.2).map encTDecision)))], 2⟩ : St)) (fun n p => RG (y4.1) (fun tl nn => M7_L1 F a1 a2 a3 y6 k16 tl = some r) n p) (fun p h => RG.zero h) ((y4.1).length + 1) 0 (RG.start h) (gr [0, 1] rfl (hB rfl rfl rfl (hR rfl rfl .nil)) rfl) (fun n n18 h => ?_)
  refine rn 5 rfl ?_
  refine spL rfl (fun hb19 => ?_) (fun hb19 => ?_)
  ·obtain ⟨x22, tl, hx23, h, hk1⟩ := RG.t hA51 h hb19
   unfold M7_L1 at h
   refine rn 2 rfl ?_
   refine jK h (fun (p : Bool) => (⟨[(1, (V.lst 4 (a2.map encTFact))), (2, (iV a3)), (3, (V.ptr 0 2 0 0)), (9, (V.own 1 (y6.2).length)), (43, (V.lst 1 ((y4.1).map encI_i64))), (44, (iV (((y4.1).length : Nat) : Int))), (45, (iV n18)), (92, (bV p))], [(0, (Ob.arr 33 2 [(encTPolicy a1)])), (1, (Ob.arr 50 4 ((y6.2).map encTDecision)))], 2⟩ : St)) (fun k20 p => k20 p = some r) (fun k20 h => ?_) ?_
   ·refine rn 3 rfl ?_
    refine ixh hx23 rfl rfl ?_
    obtain ⟨y24, hx25, h⟩ := bind_some h
    refine rn 13 rfl ?_
    refine aops_mcallS (V.own 3 y24.length) [(V.lst 6 (a1.Waivers.map encTWaiver))] (fun i => ([] : List Nat).getD i 0) (fun i => ([3] : List Nat).getD i 0) 3 4 [(3, (Ob.arr 44 6 (y24.map encTWaiver)))] fOk18 wants_none rfl (evm_cons rfl evm_nil) (.cons (Sub.imm (Imm.lst _ _)) .nil) .nil (W18 F a1.Waivers y24 hx25) rfl rfl rfl rfl (Sub.ownT rfl rfl) (.cons rfl (ObSub.rowsT (rows_imm imms_encTWaiver)) .nil) _ rfl ?_
    obtain ⟨y26, hx27, h⟩ := bind_some h
    refine fo (rn 3 rfl ?_)
    refine aops_mcallS (V.own 3 y26.length) [(V.own 3 y24.length), (iV x22), (iV (w64 (x22 + 1)))] (fun i => ([3] : List Nat).getD i 0) (fun i => ([3] : List Nat).getD i 0) 4 4 [(3, (Ob.arr 44 6 (y26.map encTWaiver)))] fOk30 wants_none rfl (evm_cons rfl (evm_cons rfl (evm_cons rfl evm_nil))) (.cons (Sub.own rfl rfl) (.cons (Sub.imm (Imm.con _)) (.cons (Sub.imm (Imm.con _)) .nil))) (.cons rfl (ObSub.rows (rows_imm imms_encTWaiver)) .nil) (W30 F x22 (w64 (x22 + 1)) y24 y26 hx27) rfl rfl rfl rfl (Sub.ownT rfl rfl) (.cons rfl (ObSub.rowsT (rows_imm imms_encTWaiver)) .nil) _ rfl ?_
    refine fo (rn 1 rfl ?_)
    refine aops_ghost (ghost_frzE 3 56 rfl (rows_imm imms_encTWaiver) rfl (List.length_map ..).symm) ?_
    obtain ⟨y28, hx29, h⟩ := bind_some h
    refine fo (rn 7 rfl ?_)
    refine aops_mcallS (V.tup [(V.own 4 (y28.2).length), (iV (y28.1))]) [(V.agg [(V.lst 9 (a1.Rules.map encTPolicyRule)), (V.lst 6 (y26.map encTWaiver))]), (V.lst 4 (a2.map encTFact)), (iV a3)] (fun i => ([] : List Nat).getD i 0) (fun i => ([4] : List Nat).getD i 0) 4 5 [(4, (Ob.arr 50 4 ((y28.2).map encTDecision)))] fOk17 wants_none rfl (evm_cons rfl (evm_cons rfl (evm_cons rfl evm_nil))) (.cons (Sub.imm (Imm.agg (.cons (Imm.lst _ _) (.cons (Imm.lst _ _) .nil)))) (.cons (Sub.imm (Imm.lst _ _)) (.cons (Sub.imm (Imm.con _)) .nil))) .nil (W17_1 F (TPolicy.mk a1.Rules y26) a2 a3 y28 hx29) rfl rfl rfl rfl (Sub.tupT (.cons (Sub.ownT rfl rfl) (.cons (Sub.immT (Imm.con _)) .nil))) (.cons rfl (ObSub.rowsT (rows_imm imms_encTDecision)) .nil) _ rfl ?_
    refine fo (rn 13 rfl ?_)
    refine jK h (fun (p : (List TDecision)) => (⟨[(1, (V.lst 4 (a2.map encTFact))), (2, (iV a3)), (3, (V.ptr 0 2 0 0)), (9, (V.own 1 (y6.2).length)), (14, (V.own 2 p.length)), (15, (iV (y28.1))), (43, (V.lst 1 ((y4.1).map encI_i64))), (44, (iV (((y4.1).length : Nat) : Int))), (45, (iV n18))], [(0, (Ob.arr 33 2 [(encTPolicy a1)])), (1, (Ob.arr 50 4 ((y6.2).map encTDecision))), (2, (Ob.arr 50 4 (p.map encTDecision)))], 3⟩ : St)) (fun k30 p => k30 p = some r) (fun k30 h => ?_) ?_
    ·refine rn 1 rfl ?_
     refine wlO (A := (y28.2)) 4 rfl (fun hA46 => ?_)
     refine lC (fun (p : Int × (List TDecision)) => (⟨[(1, (V.lst 4 (a2.map encTFact))), (2, (iV a3)), (3, (V.ptr 0 2 0 0)), (9, (V.own 1 (y6.2).length)), (12, (iV x22)), (14, (V.own 2 (p.2).length)), (15, (iV (y28.1))), (43, (V.lst 1 ((y4.1).map encI_i64))), (44, (iV (((y4.1).length : Nat) : Int))), (45, (iV n18)), (66, (iV (((y28.2).length : Nat) : Int))), (67, (iV (p.1)))], [(0, (Ob.arr 33 2 [(encTPolicy a1)])), (1, (Ob.arr 50 4 ((y6.2).map encTDecision))), (2, (Ob.arr 50 4 ((p.2).map encTDecision)))], 3⟩ : St)) (fun n p => RC (((y28.2).length : Nat) : Int) (fun tl nn => M7_L2 F x22 k30 tl nn p.2 = some r) n p.1) (fun p h => RC.zero h) (Int.toNat (((y28.2).length : Nat) : Int) + 1) (0, (y28.2)) (RC.start h) (gr [0, 1, 4] rfl (hB rfl rfl rfl (hR rfl rfl (hR rfl rfl .nil))) rfl) (fun n p h => ?_)
     obtain ⟨n34, l35⟩ := p
     refine rn 5 rfl ?_
     refine spL rfl (fun hb36 => ?_) (fun hb36 => ?_)
     ·obtain ⟨tl, h, hk2⟩ := RC.t (by unfold maxLen at hA46; omega) h hb36
      unfold M7_L2 at h
      refine rn 12 rfl ?_
      refine ixo (a := l35) h rfl rfl rfl (fun x37 hx38 h => ?_)
      refine rn 1 rfl ?_
      refine ldp hx38 rfl rfl rfl rfl ?_
      refine rn 3 rfl ?_
      refine jK h (fun (p : (List TDecision)) => (⟨[(1, (V.lst 4 (a2.map encTFact))), (2, (iV a3)), (3, (V.ptr 0 2 0 0)), (9, (V.own 1 (y6.2).length)), (12, (iV x22)), (14, (V.own 2 p.length)), (15, (iV (y28.1))), (43, (V.lst 1 ((y4.1).map encI_i64))), (44, (iV (((y4.1).length : Nat) : Int))), (45, (iV n18)), (66, (iV (((y28.2).length : Nat) : Int))), (67, (iV n34))], [(0, (Ob.arr 33 2 [(encTPolicy a1)])), (1, (Ob.arr 50 4 ((y6.2).map encTDecision))), (2, (Ob.arr 50 4 (p.map encTDecision)))], 3⟩ : St)) (fun k39 p => k39 p = some r) (fun k39 h => ?_) ?_
      ·refine spC h rfl (fun hb41 h => ?_) (fun hb41 h => ?_)
       ·refine rn 3 rfl ?_
        refine ixo (a := l35) h rfl rfl rfl (fun x42 hx43 h => ?_)
        refine rn 1 rfl ?_
        refine ldp hx43 rfl rfl rfl rfl ?_
        refine rn 1 rfl ?_
        refine ixo (a := l35) h rfl rfl rfl (fun x44 hx45 h => ?_)
        refine rn 1 rfl ?_
        refine stS (TDecision.mk x44.Fact x44.Rule (w64 (x42.Waiver + 1)) x44.Level) hx45 rfl rfl rfl rfl rfl rfl ?_
        refine rn 1 rfl ?_
        exact jX (l35.set n34.toNat (TDecision.mk x44.Fact x44.Rule (w64 (x42.Waiver + 1)) x44.Level)) h (ghost_ren 3 (fun i => ([0, 1, 2] : List Nat).getD i 0) _ _ (by decide) (EnvSub.get (.cons (Sub.imm (Imm.lst _ _)) (.cons (Sub.imm (Imm.con _)) (.cons (Sub.ptr rfl rfl) (.cons (Sub.own rfl rfl) (.cons (Sub.imm (Imm.con _)) (.cons (Sub.ownE rfl rfl (by simp)) (.cons (Sub.imm (Imm.con _)) (.cons (Sub.imm (Imm.lst _ _)) (.cons (Sub.imm (Imm.con _)) (.cons (Sub.imm (Imm.con _)) (.cons (Sub.imm (Imm.con _)) (.cons (Sub.imm (Imm.con _)) .nil))))))))))))) (HpSub.get (.cons rfl (ObSub.box (.cons (Sub.imm (Imm.lst _ _)) (.cons (Sub.imm (Imm.lst _ _)) .nil))) (.cons rfl (ObSub.rows (rows_imm imms_encTDecision)) (.cons rfl (ObSub.rows (rows_imm imms_encTDecision)) .nil)))) rfl)
       refine rn 1 rfl ?_
       exact jX l35 h (gr [0, 1, 2] rfl (hB rfl rfl rfl (hR rfl rfl (hR rfl rfl .nil))) rfl)
      intro l40 h
      refine rn 5 rfl ?_
      exact jX ((w64 (n34 + 1)), l40) (hk2 _ h) (gr [0, 1, 2] rfl (hB rfl rfl rfl (hR rfl rfl (hR rfl rfl .nil))) rfl)
     replace h := RC.f h hb36
     unfold M7_L2 at h
     refine rn 1 rfl ?_
     exact jX l35 h (gr [0, 1, 2] rfl (hB rfl rfl rfl (hR rfl rfl (hR rfl rfl .nil))) rfl)
    intro l31 h
    refine rn 5 rfl ?_
    refine spO 88 h rfl (fun hb47 h => ?_) (fun hb47 h => ?_)
    ·refine rn 11 rfl ?_
     exact rt h rfl
    obtain ⟨y48, hx49, h⟩ := bind_some h
    refine rn 2 rfl ?_
    refine aops_lend_call (bV y48) [(V.lst 4 ((y6.2).map encTDecision)), (V.lst 4 (l31.map encTDecision))] fOk24 (Ghost.trans (ghost_frzEs 1 [89, 9] rfl (rows_imm imms_encTDecision) (List.forall_mem_cons.2 ⟨rfl, (List.forall_mem_cons.2 ⟨rfl, (fun _ hx => nomatch hx)⟩)⟩) (List.length_map ..).symm) (ghost_frzEs 2 [90, 14] rfl (rows_imm imms_encTDecision) (List.forall_mem_cons.2 ⟨rfl, (List.forall_mem_cons.2 ⟨rfl, (fun _ hx => nomatch hx)⟩)⟩) (List.length_map ..).symm)) (Flat.con _) (wants_some (c := false) (b := false) 88 rfl rfl rfl) (evm_cons rfl (evm_cons rfl evm_nil)) (.cons (Imm.lst _ _) (.cons (Imm.lst _ _) .nil)) (W24 F (y6.2) l31 y48 hx49) rfl ?_
    refine fo (rn 3 rfl ?_)
    refine spC h rfl (fun hb50 h => ?_) (fun hb50 h => ?_)
    ·refine rn 4 rfl ?_
     exact rt h rfl
    refine rn 2 rfl ?_
    exact jX (!y48) h (gr [0, 1] rfl (hB rfl rfl rfl (hR rfl rfl .nil)) rfl)
   intro b21 h
   refine rn 4 rfl ?_
   exact jX (w64 (n18 + 1)) (hk1 _ h) (gr [0, 1] rfl (hB rfl rfl rfl (hR rfl rfl .nil)) rfl)
  replace h := RG.f h hb19
  unfold M7_L1 at h
  refine rn 1 rfl ?_
  exact jX () h (g0 rfl rfl)
 intro _ h
 refine rn 2 rfl ?_
 refine cl h rfl rfl rfl (W16 _) rfl (fun y52 hx53 h => ?_)
 refine rn 2 rfl ?_
 exact rt h rfl
end Go.Proofs.YtkeeppclihjlhaaGreatDoor
namespace Go.Pv
open Go
set_option linter.unusedVariables false
theorem GlOk.cons {m : Mem} {gl : Gl} {g : Nat} {row : List V} (h : GlAt m g row) (hr : GlOk gl m) : GlOk ((g, row) :: gl) m := by
 intro g' row' hg
 rw [glk] at hg
 cases hb : Nat.beq g g' with
 | true =>
  rw [hb] at hg
  have e := Nat.eq_of_beq_eq_true hb
  subst e
  simp only [cond_true, Option.some.injEq] at hg
  subst hg
  exact h
 | false =>
  rw [hb] at hg
  exact hr g' row' hg
end Go.Pv
