/- Part of the proof: R6W7a. -/
import Derived.Test.YtpbkggamiipdmaaH7PvQ
import Derived.Test.YtpbkggamiipdmaaH7R6W3a
import Derived.Test.YtpbkggamiipdmaaH7R6W6a
import Derived.KernelRfl
namespace Go.Proofs.Ytpbkggamiipdmaa
open Go Go.Pv
set_option linter.unusedVariables false
set_option maxRecDepth 100000
theorem W37 (F : Nat) (a1 : TGraph) (a2 : Int) (a3 : (List (List UInt8))) (a4 : (List UInt8)) (r : ((Option Treach_world) × Int × Int)) (h : M37 F a1 a2 a3 a4 = some r) : Pure Try.prog 37 [(V.agg (encTGraph a1)), (iV a2), (V.lst 1 (a3.map encS)), (sV a4)] (V.tup [(optr encTreach_world (r.1)), (iV (r.2.1)), (iV (r.2.2))]) := by
 refine pin (fun r => (V.tup [(optr encTreach_world (r.1)), (iV (r.2.1)), (iV (r.2.2))])) r rfl Try.func37 rfl rfl rfl rfl rfl (fun w0 m0 hg => ?_)
 unfold M37 at h
 refine rn 12 rfl ?_
 refine cl h rfl rfl rfl (W31 _ _ _ _) rfl (fun y5 hx6 h => ?_)
 refine rn 12 rfl ?_
 refine spC h rfl (fun hb7 h => ?_) (fun hb7 h => ?_)
 ·refine rn 7 rfl ?_
  exact rt h rfl
 obtain ⟨x8, hx9, h⟩ := bind_some h
 refine rn 2 rfl ?_
 refine opC 11 hx9 rfl ?_
 refine rn 6 rfl ?_
 refine aops_lookup_okB _ (iV 0) (iV ((mget x8.funcs a4).getD 0)) tMap85 tKey9 tZo3 (irel_con _) wants_none rfl .imm (.con rfl) ⟨_, rfl⟩ encM9_3_good (encM9_3_look x8.funcs a4) (getD_map (encM9_3_val) (mget x8.funcs a4) 0) (isSome_map ..) rfl ?_
 refine fo (rn 12 rfl ?_)
 refine spC h rfl (fun hb10 h => ?_) (fun hb10 h => ?_)
 ·refine rn 6 rfl ?_
  exact rt h rfl
 refine rn 9 rfl ?_
 exact rt h rfl
theorem W85 (F : Nat) (a1 : Treach_world) (a2 : Treach_spread) (a3 : (List TMadeBy)) (r : Bool) (h : M85 F a1 a2 a3 = some r) : Pure Try.prog 85 [(V.iptr (encTreach_world a1) 0), (V.iptr (encTreach_spread a2) 0), (V.lst 2 (a3.map encTMadeBy))] (bV r) := by
 refine pin (fun r => (bV r)) r rfl Try.func85 rfl rfl rfl rfl rfl (fun w0 m0 hg => ?_)
 unfold M85 at h
 refine rn 8 rfl ?_
 refine ln rfl rfl ?_
 refine rn 2 rfl ?_
 refine jK h (fun _ : Unit => (⟨[], [], 0⟩ : St)) (fun k4 (_ : Unit) => k4 = some r) (fun k4 h => ?_) ?_
 ·refine rn 1 rfl ?_
  refine wl (A := a3) 2 rfl (fun hA56 => ?_)
  refine lC (fun (p : Int) => (⟨[(0, (V.iptr (encTreach_world a1) 0)), (1, (V.iptr (encTreach_spread a2) 0)), (2, (V.lst 2 (a3.map encTMadeBy))), (13, (V.lst 2 (a3.map encTMadeBy))), (14, (iV ((a3.length : Nat) : Int))), (15, (iV p))], [], 0⟩ : St)) (fun n p => RG a3 (fun tl nn => M85_L1 F a1 a2 a3 k4 tl nn = some r) n p) (fun p h => RG.zero h) (a3.length + 1) 0 (RG.start h) (g0 rfl rfl) (fun n n6 h => ?_)
  refine rn 5 rfl ?_
  refine spL rfl (fun hb7 => ?_) (fun hb7 => ?_)
  ·obtain ⟨x32, tl, hx33, h, hk1⟩ := RG.t hA56 h hb7
   unfold M85_L1 at h
   refine rn 2 rfl ?_
   refine jK h (fun (p : Bool × Bool × Bool × Bool × Int × Bool × Bool × Bool × Int × (List UInt8) × (List UInt8) × (List TCall) × (List (List UInt8)) × (List UInt8) × (List UInt8) × (List TCall) × (List (List UInt8)) × (List (List UInt8)) × (List UInt8) × Bool × Bool × (List UInt8) × (List UInt8)) => (⟨[(0, (V.iptr (encTreach_world a1) 0)), (1, (V.iptr (encTreach_spread a2) 0)), (2, (V.lst 2 (a3.map encTMadeBy))), (13, (V.lst 2 (a3.map encTMadeBy))), (14, (iV ((a3.length : Nat) : Int))), (15, (iV n6)), (43, (bV (p.1))), (44, (bV (p.2.1))), (47, (iV n6)), (48, (bV (decide (n6 > 0)))), (49, (bV (p.2.2.1))), (59, (bV (p.2.2.2.1))), (62, (V.iptr (encTreach_spread a2) 0)), (63, (V.iptr (encTreach_spread a2) 0)), (64, (V.iptr (encTreach_spread a2) 1)), (65, (V.lst 1 (a2.funcs.map encB))), (66, (iV (p.2.2.2.2.1))), (67, (V.iptr [(bV (p.2.2.2.2.2.1))] 0)), (68, (bV (p.2.2.2.2.2.2.1))), (69, (bV (p.2.2.2.2.2.2.2.1))), (72, (V.iptr (encTreach_world a1) 0)), (73, (V.iptr (encTreach_world a1) 0)), (74, (V.iptr (encTreach_world a1) 0)), (75, (V.iptr (encTreach_world a1) 2)), (76, (V.lst 4 (a1.g.Funcs.map encTFunc))), (77, (iV (p.2.2.2.2.2.2.2.2.1))), (78, (V.iptr [(sV (p.2.2.2.2.2.2.2.2.2.1)), (sV (p.2.2.2.2.2.2.2.2.2.2.1)), (V.lst 4 ((p.2.2.2.2.2.2.2.2.2.2.2.1).map encTCall)), (V.lst 1 ((p.2.2.2.2.2.2.2.2.2.2.2.2.1).map encS))] 0)), (79, (V.iptr [(sV (p.2.2.2.2.2.2.2.2.2.2.2.2.2.1)), (sV (p.2.2.2.2.2.2.2.2.2.2.2.2.2.2.1)), (V.lst 4 ((p.2.2.2.2.2.2.2.2.2.2.2.2.2.2.2.1).map encTCall)), (V.lst 1 ((p.2.2.2.2.2.2.2.2.2.2.2.2.2.2.2.2.1).map encS))] 3)), (80, (V.lst 1 ((p.2.2.2.2.2.2.2.2.2.2.2.2.2.2.2.2.2.1).map encS))), (81, (V.ptr 0 2 0 0)), (82, (sV (p.2.2.2.2.2.2.2.2.2.2.2.2.2.2.2.2.2.2.1))), (83, (bV (p.2.2.2.2.2.2.2.2.2.2.2.2.2.2.2.2.2.2.2.1))), (84, (bV (p.2.2.2.2.2.2.2.2.2.2.2.2.2.2.2.2.2.2.2.2.1)))], [(0, (Ob.arr 126 2 [[(sV (p.2.2.2.2.2.2.2.2.2.2.2.2.2.2.2.2.2.2.2.2.2.1)), (sV (p.2.2.2.2.2.2.2.2.2.2.2.2.2.2.2.2.2.2.2.2.2.2))]]))], 1⟩ : St)) (fun k8 p => k8 p.1 p.2.1 p.2.2.1 p.2.2.2.1 p.2.2.2.2.1 p.2.2.2.2.2.1 p.2.2.2.2.2.2.1 p.2.2.2.2.2.2.2.1 p.2.2.2.2.2.2.2.2.1 p.2.2.2.2.2.2.2.2.2.1 p.2.2.2.2.2.2.2.2.2.2.1 p.2.2.2.2.2.2.2.2.2.2.2.1 p.2.2.2.2.2.2.2.2.2.2.2.2.1 p.2.2.2.2.2.2.2.2.2.2.2.2.2.1 p.2.2.2.2.2.2.2.2.2.2.2.2.2.2.1 p.2.2.2.2.2.2.2.2.2.2.2.2.2.2.2.1 p.2.2.2.2.2.2.2.2.2.2.2.2.2.2.2.2.1 p.2.2.2.2.2.2.2.2.2.2.2.2.2.2.2.2.2.1 p.2.2.2.2.2.2.2.2.2.2.2.2.2.2.2.2.2.2.1 p.2.2.2.2.2.2.2.2.2.2.2.2.2.2.2.2.2.2.2.1 p.2.2.2.2.2.2.2.2.2.2.2.2.2.2.2.2.2.2.2.2.1 p.2.2.2.2.2.2.2.2.2.2.2.2.2.2.2.2.2.2.2.2.2.1 p.2.2.2.2.2.2.2.2.2.2.2.2.2.2.2.2.2.2.2.2.2.2 = some r) (fun k8 h => ?_) ?_
   ·refine rn 4 rfl ?_
    refine ixh hx33 rfl rfl ?_
    refine rn 6 rfl ?_
    refine dr mixed (vs 6 rfl (xD (OD.mk [(24, (V.imap (a1.funcs.map encM9_3))), (26, (sV x32.Func))] [] [(27, (V.tup [(iV ((mget a1.funcs x32.Func).getD 0)), (bV ((mget a1.funcs x32.Func).isSome))]))] []) ⟨⟨rfl, rfl, trivial⟩, trivial⟩ (by exact fun S hn h hh => aops_lookup_okB _ (iV 0) (iV ((mget a1.funcs x32.Func).getD 0)) tMap85 tKey9 tZo3 (irel_con _) wants_none h.1 .imm (.con h.2.1) ⟨_, rfl⟩ encM9_3_good (encM9_3_look a1.funcs x32.Func) (getD_map (encM9_3_val) (mget a1.funcs x32.Func) 0) (isSome_map ..) rfl (aops_nil ⟨rfl, rfl⟩)) rfl (vs 5 rfl .nil))) (by kernel_rfl) ?_
    refine rn 1 rfl ?_
    refine dr mixed (vs 6 rfl (xD (OD.mk [(34, (V.imap (a1.types.map encM9_3))), (36, (sV x32.Type_))] [] [(37, (V.tup [(iV ((mget a1.types x32.Type_).getD 0)), (bV ((mget a1.types x32.Type_).isSome))]))] []) ⟨⟨rfl, rfl, trivial⟩, trivial⟩ (by exact fun S hn h hh => aops_lookup_okB _ (iV 0) (iV ((mget a1.types x32.Type_).getD 0)) tMap85 tKey9 tZo3 (irel_con _) wants_none h.1 .imm (.con h.2.1) ⟨_, rfl⟩ encM9_3_good (encM9_3_look a1.types x32.Type_) (getD_map (encM9_3_val) (mget a1.types x32.Type_) 0) (isSome_map ..) rfl (aops_nil ⟨rfl, rfl⟩)) rfl (vs 5 rfl .nil))) (by kernel_rfl) ?_
    refine rn 1 rfl ?_
    refine bs h (fun hb34 h => ?_) (fun hb34 h => ?_)
    ·refine dr mixed (vs 2 rfl (vb hb34 rfl (vs 43 rfl .nil))) (by kernel_rfl) ?_
     refine rn 5 rfl ?_
     exact rt h rfl
    refine bs h (fun hb35 h => ?_) (fun hb35 h => ?_)
    ·refine dr mixed (vs 2 rfl (vb hb34 rfl (vs 3 rfl (vb hb35 rfl (vs 39 rfl .nil))))) (by kernel_rfl) ?_
     refine rn 5 rfl ?_
     exact rt h rfl
    refine bs h (fun hb36 h => ?_) (fun hb36 h => ?_)
    ·obtain ⟨x37, hx38, h⟩ := bind_some h
     refine bs h (fun hb39 h => ?_) (fun hb39 h => ?_)
     ·refine dr mixed (vs 2 rfl (vb hb34 rfl (vs 3 rfl (vb hb35 rfl (vs 2 rfl (vb hb36 rfl (vs 5 rfl (iD hx38 rfl rfl rfl (vs 5 rfl (vb hb39 rfl (vs 24 rfl .nil))))))))))) (by kernel_rfl) ?_
      refine rn 5 rfl ?_
      exact rt h rfl
     obtain ⟨x40, hx41, h⟩ := bind_some h
     refine bs h (fun hb42 h => ?_) (fun hb42 h => ?_)
     ·refine dr mixed (vs 2 rfl (vb hb34 rfl (vs 3 rfl (vb hb35 rfl (vs 2 rfl (vb hb36 rfl (vs 5 rfl (iD hx38 rfl rfl rfl (vs 5 rfl (vb hb39 rfl (vs 5 rfl (iD hx41 rfl rfl rfl (vs 3 rfl (vb hb42 rfl (vs 14 rfl .nil))))))))))))))) (by kernel_rfl) ?_
      refine rn 5 rfl ?_
      exact rt h rfl
     obtain ⟨x43, hx44, h⟩ := bind_some h
     obtain ⟨y45, hx46, h⟩ := bind_some h
     refine dr mixed (vs 2 rfl (vb hb34 rfl (vs 3 rfl (vb hb35 rfl (vs 2 rfl (vb hb36 rfl (vs 5 rfl (iD hx38 rfl rfl rfl (vs 5 rfl (vb hb39 rfl (vs 5 rfl (iD hx41 rfl rfl rfl (vs 3 rfl (vb hb42 rfl (vs 6 rfl (iD hx44 rfl rfl rfl (vs 4 rfl (cD rfl rfl rfl rfl (W16 _ _ _ _ hx46) rfl (vs 2 rfl .nil))))))))))))))))))) (by kernel_rfl) ?_
     refine spC h rfl (fun hb47 h => ?_) (fun hb47 h => ?_)
     ·refine rn 4 rfl ?_
      exact rt h rfl
     refine rn 2 rfl ?_
     exact jX (((mget a1.types x32.Type_).isSome), (!((mget a1.types x32.Type_).isSome)), true, (Op.bytesLess x32.Type_ x37.Type_ || x32.Type_ == x37.Type_), ((mget a1.funcs x32.Func).getD 0), x40, x40, (!x40), ((mget a1.funcs x32.Func).getD 0), x43.Name, x43.Component, x43.Calls, x43.Makes, x43.Name, x43.Component, x43.Calls, x43.Makes, x43.Makes, x32.Type_, y45, (!y45), x32.Type_, x32.Func) h (gr [0] rfl (hB rfl rfl rfl .nil) rfl)
    obtain ⟨x48, hx49, h⟩ := bind_some h
    refine bs h (fun hb50 h => ?_) (fun hb50 h => ?_)
    ·refine dr mixed (vs 2 rfl (vb hb34 rfl (vs 3 rfl (vb hb35 rfl (vs 2 rfl (vb hb36 rfl (vs 17 rfl (iD hx49 rfl rfl rfl (vs 3 rfl (vb hb50 rfl (vs 14 rfl .nil))))))))))) (by kernel_rfl) ?_
     refine rn 5 rfl ?_
     exact rt h rfl
    obtain ⟨x51, hx52, h⟩ := bind_some h
    obtain ⟨y53, hx54, h⟩ := bind_some h
    refine dr mixed (vs 2 rfl (vb hb34 rfl (vs 3 rfl (vb hb35 rfl (vs 2 rfl (vb hb36 rfl (vs 17 rfl (iD hx49 rfl rfl rfl (vs 3 rfl (vb hb50 rfl (vs 6 rfl (iD hx52 rfl rfl rfl (vs 4 rfl (cD rfl rfl rfl rfl (W16 _ _ _ _ hx54) rfl (vs 2 rfl .nil))))))))))))))) (by kernel_rfl) ?_
    refine spC h rfl (fun hb55 h => ?_) (fun hb55 h => ?_)
    ·refine rn 4 rfl ?_
     exact rt h rfl
    refine rn 2 rfl ?_
    exact jX (((mget a1.types x32.Type_).isSome), (!((mget a1.types x32.Type_).isSome)), false, false, ((mget a1.funcs x32.Func).getD 0), x48, x48, (!x48), ((mget a1.funcs x32.Func).getD 0), x51.Name, x51.Component, x51.Calls, x51.Makes, x51.Name, x51.Component, x51.Calls, x51.Makes, x51.Makes, x32.Type_, y53, (!y53), x32.Type_, x32.Func) h (gr [0] rfl (hB rfl rfl rfl .nil) rfl)
   rintro ⟨b9, b10, b11, b12, n13, b14, b15, b16, n17, s18, s19, l20, l21, s22, s23, l24, l25, l26, s27, b28, b29, s30, s31⟩ h
   refine rn 4 rfl ?_
   exact jX (w64 (n6 + 1)) (hk1 _ h) (g0 rfl rfl)
  replace h := RG.f h hb7
  unfold M85_L1 at h
  refine rn 1 rfl ?_
  exact jX () h (g0 rfl rfl)
 intro _ h
 refine rn 4 rfl ?_
 exact rt h rfl
theorem W86 (F : Nat) (a1 : Treach_world) (a2 : THop) (a3 : (List UInt8)) (r : (TCall × Bool)) (h : M86 F a1 a2 a3 = some r) : Pure Try.prog 86 [(V.iptr (encTreach_world a1) 0), (V.agg (encTHop a2)), (sV a3)] (V.tup [(V.agg (encTCall (r.1))), (bV (r.2))]) := by
 refine pin (fun r => (V.tup [(V.agg (encTCall (r.1))), (bV (r.2))])) r rfl Try.func86 rfl rfl rfl rfl rfl (fun w0 m0 hg => ?_)
 unfold M86 at h
 refine rn 13 rfl ?_
 refine aops_lookup_okB _ (iV 0) (iV ((mget a1.funcs a3).getD 0)) tMap85 tKey9 tZo3 (irel_con _) wants_none rfl .imm (.con rfl) ⟨_, rfl⟩ encM9_3_good (encM9_3_look a1.funcs a3) (getD_map (encM9_3_val) (mget a1.funcs a3) 0) (isSome_map ..) rfl ?_
 refine fo (rn 8 rfl ?_)
 refine bs h (fun hb4 h => ?_) (fun hb4 h => ?_)
 ·refine dr mixed (vs 2 rfl (vb hb4 rfl (vs 28 rfl .nil))) (by kernel_rfl) ?_
  refine rn 7 rfl ?_
  exact rt h rfl
 refine bs h (fun hb5 h => ?_) (fun hb5 h => ?_)
 ·refine dr mixed (vs 2 rfl (vb hb4 rfl (vs 6 rfl (vb hb5 rfl (vs 21 rfl .nil))))) (by kernel_rfl) ?_
  refine rn 7 rfl ?_
  exact rt h rfl
 refine bs h (fun hb6 h => ?_) (fun hb6 h => ?_)
 ·refine dr mixed (vs 2 rfl (vb hb4 rfl (vs 6 rfl (vb hb5 rfl (vs 5 rfl (vb hb6 rfl (vs 15 rfl .nil))))))) (by kernel_rfl) ?_
  refine rn 7 rfl ?_
  exact rt h rfl
 obtain ⟨x7, hx8, h⟩ := bind_some h
 refine dr mixed (vs 2 rfl (vb hb4 rfl (vs 6 rfl (vb hb5 rfl (vs 5 rfl (vb hb6 rfl (vs 9 rfl (iD hx8 rfl rfl rfl (vs 2 rfl (nD rfl rfl rfl (vs 2 rfl .nil))))))))))) (by kernel_rfl) ?_
 refine spC h rfl (fun hb9 h => ?_) (fun hb9 h => ?_)
 ·refine rn 6 rfl ?_
  exact rt h rfl
 obtain ⟨x10, hx11, h⟩ := bind_some h
 obtain ⟨x12, hx13, h⟩ := bind_some h
 refine rn 2 rfl ?_
 refine awp_ghost ghost_res ?_
 refine fa ?_
 refine dr mixed (vs 6 rfl (iD hx11 rfl rfl rfl (vs 5 rfl (iD hx13 rfl rfl rfl (vs 1 rfl (xD (OD.mk [] [(2, Ob.res)] [(10, (V.ptr 2 4 0 0))] [(2, (Ob.arr 82 4 [[(iV 0), (sV ([] : List UInt8)), (sV ([] : List UInt8)), (sV ([] : List UInt8))]]))]) ⟨trivial, ⟨rfl, trivial⟩⟩ (by exact fun S hn h hh => aops_alloc_at 2 rfl hn hh.1 tZ82 rfl rfl wants_none rfl (aops_nil ⟨rfl, rfl⟩)) rfl (vs 1 rfl .nil))))))) (by kernel_rfl) ?_
 refine rn 1 rfl ?_
 refine dr mixed (vs 7 rfl (xD (OD.mk [(70, (V.imap (a1.on.map encM9_4))), (72, (sV x12.Feature))] [] [(73, (bV ((mget a1.on x12.Feature).getD false)))] []) ⟨⟨rfl, rfl, trivial⟩, trivial⟩ (by exact fun S hn h hh => aops_lookup _ (bV false) (bV ((mget a1.on x12.Feature).getD false)) tMap72 tKey9 tZo4 (irel_con _) wants_none h.1 .imm (.con h.2.1) ⟨_, rfl⟩ encM9_4_good (encM9_4_look a1.on x12.Feature) (getD_map (encM9_4_val) (mget a1.on x12.Feature) false) rfl (aops_nil ⟨rfl, rfl⟩)) rfl (vs 2 rfl .nil))) (by kernel_rfl) ?_
 exact rt h rfl
theorem W88 (F : Nat) (a1 : Treach_world) (a2 : (List TMadeBy)) (a3 : TCall) (a4 : Int) (r : (List Int)) (h : M88 F a1 a2 a3 a4 = some r) : Pure Try.prog 88 [(V.iptr (encTreach_world a1) 0), (V.lst 2 (a2.map encTMadeBy)), (V.agg (encTCall a3)), (iV a4)] (V.lst 1 (r.map encI_i64)) := by
 refine pin (fun r => (V.lst 1 (r.map encI_i64))) r rfl Try.func88 rfl rfl rfl rfl rfl (fun w0 m0 hg => ?_)
 unfold M88 at h
 refine rn 13 rfl ?_
 refine ln rfl rfl ?_
 refine rn 2 rfl ?_
 refine jK h (fun (p : (List Int)) => (⟨[(9, (V.own 0 p.length))], [(0, (Ob.arr 3 1 (p.map encI_i64)))], 1⟩ : St)) (fun k5 p => k5 p = some r) (fun k5 h => ?_) ?_
 ·refine rn 1 rfl ?_
  refine wl (A := a2) 1 rfl (fun hA25 => ?_)
  refine lC (fun (p : Int × (List Int)) => (⟨[(0, (V.iptr (encTreach_world a1) 0)), (3, (iV a4)), (6, (V.ptr 0 4 0 0)), (9, (V.own 1 (p.2).length)), (13, (V.lst 2 (a2.map encTMadeBy))), (14, (iV ((a2.length : Nat) : Int))), (15, (iV (p.1)))], [(0, (Ob.arr 82 4 [(encTCall a3)])), (1, (Ob.arr 3 1 ((p.2).map encI_i64)))], 2⟩ : St)) (fun n p => RG a2 (fun tl nn => M88_L1 F a1 a3 a4 k5 tl nn p.2 = some r) n p.1) (fun p h => RG.zero h) (a2.length + 1) (0, ([] : List Int)) (RG.start h) (Ghost.trans (ghost_nilE 9 3 1 rfl) (ghost_ren 2 (fun i => ([0, 1] : List Nat).getD i 0) _ _ (by decide) (EnvSub.get (.cons (Sub.imm (Imm.iptr _ _)) (.cons (Sub.imm (Imm.con _)) (.cons (Sub.ptr rfl rfl) (.cons (Sub.ownE rfl rfl (by simp)) (.cons (Sub.imm (Imm.lst _ _)) (.cons (Sub.imm (Imm.con _)) (.cons (Sub.imm (Imm.con _)) .nil)))))))) (HpSub.get (.cons rfl (ObSub.box (.cons (Sub.imm (Imm.con _)) (.cons (Sub.imm (Imm.con _)) (.cons (Sub.imm (Imm.con _)) (.cons (Sub.imm (Imm.con _)) .nil))))) (.cons rfl (ObSub.rows (rows_imm imms_encI_i64)) .nil))) rfl)) (fun n p h => ?_)
  obtain ⟨n9, l10⟩ := p
  refine rn 5 rfl ?_
  refine spL rfl (fun hb11 => ?_) (fun hb11 => ?_)
  ·obtain ⟨x14, tl, hx15, h, hk1⟩ := RG.t hA25 h hb11
   unfold M88_L1 at h
   refine rn 2 rfl ?_
   refine jK h (fun (p : (List Int)) => (⟨[(0, (V.iptr (encTreach_world a1) 0)), (3, (iV a4)), (6, (V.ptr 0 4 0 0)), (9, (V.own 1 p.length)), (13, (V.lst 2 (a2.map encTMadeBy))), (14, (iV ((a2.length : Nat) : Int))), (15, (iV n9))], [(0, (Ob.arr 82 4 [(encTCall a3)])), (1, (Ob.arr 3 1 (p.map encI_i64)))], 2⟩ : St)) (fun k12 p => k12 p = some r) (fun k12 h => ?_) ?_
   ·refine rn 4 rfl ?_
    refine ixh hx15 rfl rfl ?_
    refine rn 6 rfl ?_
    refine dr mixed (vs 6 rfl (xD (OD.mk [(23, (V.imap (a1.types.map encM9_3))), (25, (sV x14.Type_))] [] [(26, (iV ((mget a1.types x14.Type_).getD 0)))] []) ⟨⟨rfl, rfl, trivial⟩, trivial⟩ (by exact fun S hn h hh => aops_lookup _ (iV 0) (iV ((mget a1.types x14.Type_).getD 0)) tMap85 tKey9 tZo3 (irel_con _) wants_none h.1 .imm (.con h.2.1) ⟨_, rfl⟩ encM9_3_good (encM9_3_look a1.types x14.Type_) (getD_map (encM9_3_val) (mget a1.types x14.Type_) 0) rfl (aops_nil ⟨rfl, rfl⟩)) rfl (vs 1 rfl .nil))) (by kernel_rfl) ?_
    obtain ⟨y16, hx17, h⟩ := bind_some h
    refine rn 1 rfl ?_
    refine bs h (fun hb18 h => ?_) (fun hb18 h => ?_)
    ·obtain ⟨y19, hx20, h⟩ := bind_some h
     refine dr mixed (vs 6 rfl (xD (OD.mk [(30, (V.imap (a1.fitting.map encM9_62))), (32, (sV a3.Target))] [] [(33, (V.lst 1 (((mget a1.fitting a3.Target).getD ([] : (List Int))).map encI_i64)))] []) ⟨⟨rfl, rfl, trivial⟩, trivial⟩ (by exact fun S hn h hh => aops_lookup _ (V.lst 1 (([] : (List Int)).map encI_i64)) (V.lst 1 (((mget a1.fitting a3.Target).getD ([] : (List Int))).map encI_i64)) tMap86 tKey9 tZo62 (fun _ => .nil _ _ _) wants_none h.1 .imm (.con h.2.1) ⟨_, rfl⟩ encM9_62_good (encM9_62_look a1.fitting a3.Target) (getD_map (encM9_62_val) (mget a1.fitting a3.Target) ([] : (List Int))) rfl (aops_nil ⟨rfl, rfl⟩)) rfl (vs 1 rfl (cD rfl rfl rfl rfl (W87 _ _ _ _ hx17) rfl (vb hb18 rfl (vs 3 rfl (cD rfl rfl rfl rfl (W82 _ _ _ _ _ hx20) rfl (vs 3 rfl .nil)))))))) (by kernel_rfl) ?_
     refine jK h (fun (p : (List Int)) => (⟨[(0, (V.iptr (encTreach_world a1) 0)), (3, (iV a4)), (6, (V.ptr 0 4 0 0)), (9, (V.own 1 p.length)), (13, (V.lst 2 (a2.map encTMadeBy))), (14, (iV ((a2.length : Nat) : Int))), (15, (iV n9)), (37, (V.iptr (encTreach_world a1) 0)), (38, (V.agg (encTCall a3))), (39, (iV ((mget a1.types x14.Type_).getD 0))), (40, (iV y19)), (41, (iV a4)), (42, (bV (y19 == a4)))], [(0, (Ob.arr 82 4 [(encTCall a3)])), (1, (Ob.arr 3 1 (p.map encI_i64)))], 2⟩ : St)) (fun k21 p => k21 p = some r) (fun k21 h => ?_) ?_
     ·refine spC h rfl (fun hb23 h => ?_) (fun hb23 h => ?_)
      ·refine rn 3 rfl ?_
       refine aops_buildSlice [(0, (iV n9))] [[(iV n9)]] tEl62 tZ3 rfl rfl rfl rfl wants_none (evp_cons rfl evp_nil) rfl rfl (by simp) rfl ?_
       refine fo ?_
       refine apO encI_i64 h rfl rfl rfl rfl rfl rfl rfl rfl (fun h => ?_)
       refine rn 2 rfl ?_
       exact jX (l10 ++ ([n9] : List Int)) h (gr [0, 4] rfl (hB rfl rfl rfl (hR rfl rfl .nil)) rfl)
      refine rn 1 rfl ?_
      exact jX l10 h (gr [0, 1] rfl (hB rfl rfl rfl (hR rfl rfl .nil)) rfl)
     intro l22 h
     refine rn 1 rfl ?_
     exact jX l22 h (gr [0, 1] rfl (hB rfl rfl rfl (hR rfl rfl .nil)) rfl)
    refine dr mixed (vs 6 rfl (xD (OD.mk [(30, (V.imap (a1.fitting.map encM9_62))), (32, (sV a3.Target))] [] [(33, (V.lst 1 (((mget a1.fitting a3.Target).getD ([] : (List Int))).map encI_i64)))] []) ⟨⟨rfl, rfl, trivial⟩, trivial⟩ (by exact fun S hn h hh => aops_lookup _ (V.lst 1 (([] : (List Int)).map encI_i64)) (V.lst 1 (((mget a1.fitting a3.Target).getD ([] : (List Int))).map encI_i64)) tMap86 tKey9 tZo62 (fun _ => .nil _ _ _) wants_none h.1 .imm (.con h.2.1) ⟨_, rfl⟩ encM9_62_good (encM9_62_look a1.fitting a3.Target) (getD_map (encM9_62_val) (mget a1.fitting a3.Target) ([] : (List Int))) rfl (aops_nil ⟨rfl, rfl⟩)) rfl (vs 1 rfl (cD rfl rfl rfl rfl (W87 _ _ _ _ hx17) rfl (vb hb18 rfl (vs 7 rfl .nil)))))) (by kernel_rfl) ?_
    refine rn 3 rfl ?_
    exact jX l10 h (gr [0, 1] rfl (hB rfl rfl rfl (hR rfl rfl .nil)) rfl)
   intro l13 h
   refine rn 4 rfl ?_
   exact jX ((w64 (n9 + 1)), l13) (hk1 _ h) (gr [0, 1] rfl (hB rfl rfl rfl (hR rfl rfl .nil)) rfl)
  replace h := RG.f h hb11
  unfold M88_L1 at h
  refine rn 1 rfl ?_
  exact jX l10 h (gr [1] rfl (hR rfl rfl .nil) rfl)
 intro l6 h
 refine rn 5 rfl ?_
 refine awp_ghost (ghost_frzEs 0 [8, 9, 49] rfl (rows_imm imms_encI_i64) (List.forall_mem_cons.2 ⟨rfl, (List.forall_mem_cons.2 ⟨rfl, (List.forall_mem_cons.2 ⟨rfl, (fun _ hx => nomatch hx)⟩)⟩)⟩) (List.length_map ..).symm) ?_
 refine fa ?_
 exact rt h rfl
theorem W117 (F : Nat) (a1 : (List Bool)) (a2 : Bool) (r : Int) (h : M117 F a1 a2 = some r) : Pure Try.prog 117 [(V.lst 1 (a1.map encB)), (bV a2)] (iV r) := by
 refine pin (fun r => (iV r)) r rfl Try.func117 rfl rfl rfl rfl rfl (fun w0 m0 hg => ?_)
 unfold M117 at h
 refine rn 8 rfl ?_
 refine ln rfl rfl ?_
 refine rn 2 rfl ?_
 refine jK h (fun _ : Unit => (⟨[], [], 0⟩ : St)) (fun k3 (_ : Unit) => k3 = some r) (fun k3 h => ?_) ?_
 ·refine rn 1 rfl ?_
  refine wl (A := a1) 0 rfl (fun hA10 => ?_)
  refine lC (fun (p : Int) => (⟨[(0, (V.lst 1 (a1.map encB))), (1, (bV a2)), (7, (iV ((a1.length : Nat) : Int))), (8, (iV p))], [], 0⟩ : St)) (fun n p => RG a1 (fun tl nn => M117_L1 F a2 k3 tl nn = some r) n p) (fun p h => RG.zero h) (a1.length + 1) 0 (RG.start h) (g0 rfl rfl) (fun n n5 h => ?_)
  refine rn 5 rfl ?_
  refine spL rfl (fun hb6 => ?_) (fun hb6 => ?_)
  ·obtain ⟨x7, tl, hx8, h, hk1⟩ := RG.t hA10 h hb6
   unfold M117_L1 at h
   refine rn 13 rfl ?_
   refine ixh hx8 rfl rfl ?_
   refine rn 3 rfl ?_
   refine spC h rfl (fun hb9 h => ?_) (fun hb9 h => ?_)
   ·refine rn 5 rfl ?_
    exact rt h rfl
   refine rn 6 rfl ?_
   exact jX (w64 (n5 + 1)) (hk1 _ h) (g0 rfl rfl)
  replace h := RG.f h hb6
  unfold M117_L1 at h
  refine rn 1 rfl ?_
  exact jX () h (g0 rfl rfl)
 intro _ h
 refine rn 4 rfl ?_
 exact rt h rfl
theorem W89 (F : Nat) (a1 : (List Bool)) (a2 : Bool) (r : Bool) (h : M89 F a1 a2 = some r) : Pure Try.prog 89 [(V.lst 1 (a1.map encB)), (bV a2)] (bV r) := by
 refine pin (fun r => (bV r)) r rfl Try.func89 rfl rfl rfl rfl rfl (fun w0 m0 hg => ?_)
 unfold M89 at h
 refine rn 8 rfl ?_
 refine cl h rfl rfl rfl (W117 _ _ _) rfl (fun y3 hx4 h => ?_)
 refine rn 3 rfl ?_
 exact rt h rfl
theorem W59 (F : Nat) (a1 : Treach_world) (a2 : (List UInt8)) (a3 : TWitness) (r : Bool) (h : M59 F a1 a2 a3 = some r) : Pure Try.prog 59 [(V.iptr (encTreach_world a1) 0), (sV a2), (V.agg (encTWitness a3))] (bV r) := by
 refine pin (fun r => (bV r)) r rfl Try.func59 rfl rfl rfl rfl rfl (fun w0 m0 hg => ?_)
 unfold M59 at h
 refine rn 8 rfl ?_
 refine cl h rfl rfl rfl (W32 _ _ _) rfl (fun y4 hx5 h => ?_)
 obtain ⟨x6, hx7, h⟩ := bind_some h
 refine rn 4 rfl ?_
 refine opC 7 hx7 rfl ?_
 obtain ⟨y8, hx9, h⟩ := bind_some h
 refine bs h (fun hb10 h => ?_) (fun hb10 h => ?_)
 ·refine dr mixed (vs 7 rfl (cD rfl rfl rfl rfl (W16 _ _ _ _ hx9) rfl (vs 1 rfl (vb hb10 rfl (vs 20 rfl .nil))))) (by kernel_rfl) ?_
  refine rn 5 rfl ?_
  exact rt h rfl
 obtain ⟨y11, hx12, h⟩ := bind_some h
 refine bs h (fun hb13 h => ?_) (fun hb13 h => ?_)
 ·refine dr mixed (vs 7 rfl (cD rfl rfl rfl rfl (W16 _ _ _ _ hx9) rfl (vs 1 rfl (vb hb10 rfl (vs 4 rfl (cD rfl rfl rfl rfl (W85 _ _ _ _ _ hx12) rfl (vs 2 rfl (vb hb13 rfl (vs 12 rfl .nil))))))))) (by kernel_rfl) ?_
  refine rn 5 rfl ?_
  exact rt h rfl
 refine bs h (fun hb14 h => ?_) (fun hb14 h => ?_)
 ·refine dr mixed (vs 7 rfl (cD rfl rfl rfl rfl (W16 _ _ _ _ hx9) rfl (vs 1 rfl (vb hb10 rfl (vs 4 rfl (cD rfl rfl rfl rfl (W85 _ _ _ _ _ hx12) rfl (vs 2 rfl (vb hb13 rfl (vs 5 rfl (vb hb14 rfl (vs 2 rfl (nD rfl rfl rfl (vs 3 rfl .nil))))))))))))) (by kernel_rfl) ?_
  refine spC h rfl (fun hb15 h => ?_) (fun hb15 h => ?_)
  ·refine rn 4 rfl ?_
   exact rt h rfl
  refine rn 5 rfl ?_
  refine ln rfl rfl ?_
  refine ck h (fun hc16 h => ?_)
  refine aops_makeSlice (ln := (List.replicate (((a3.Made.length : Nat) : Int)).toNat (false : Bool)).length) ((List.replicate (((a3.Made.length : Nat) : Int)).toNat (false : Bool)).map encB) tEl28 tZ4 rfl rfl hc16 List.map_replicate List.length_replicate wants_none rfl rfl ?_
  refine fo (rn 13 rfl ?_)
  refine ln rfl rfl ?_
  refine rn 2 rfl ?_
  refine jK h (fun (p : (List UInt8) × (List Bool)) => (⟨[(1, (sV a2)), (8, (V.own 0 (p.2).length)), (9, (sV (p.1)))], [(0, (Ob.arr 4 1 ((p.2).map encB)))], 1⟩ : St)) (fun k17 p => k17 p.1 p.2 = some r) (fun k17 h => ?_) ?_
  ·refine rn 1 rfl ?_
   refine wl (A := a3.Hops) 58 rfl (fun hA70 => ?_)
   refine lC (fun (p : (List UInt8) × Int × (List Bool)) => (⟨[(0, (V.iptr (encTreach_world a1) 0)), (1, (sV a2)), (5, (V.ptr 0 3 0 0)), (8, (V.own 1 (p.2.2).length)), (9, (sV (p.1))), (58, (V.lst 3 (a3.Hops.map encTHop))), (59, (iV ((a3.Hops.length : Nat) : Int))), (60, (iV (p.2.1)))], [(0, (Ob.arr 51 3 [(encTWitness a3)])), (1, (Ob.arr 4 1 ((p.2.2).map encB)))], 2⟩ : St)) (fun n p => RG a3.Hops (fun tl nn => M59_L1 F a1 a3 k17 tl p.1 p.2.2 = some r) n p.2.1) (fun p h => RG.zero h) (a3.Hops.length + 1) (a3.Entry, 0, (List.replicate (((a3.Made.length : Nat) : Int)).toNat (false : Bool))) (RG.start h) (gr [0, 1] rfl (hB rfl rfl rfl (hR rfl rfl .nil)) rfl) (fun n p h => ?_)
   obtain ⟨s23, n24, l25⟩ := p
   refine rn 5 rfl ?_
   refine spL rfl (fun hb26 => ?_) (fun hb26 => ?_)
   ·obtain ⟨x40, tl, hx41, h, hk1⟩ := RG.t hA70 h hb26
    unfold M59_L1 at h
    refine rn 2 rfl ?_
    refine jK h (fun (p : (List UInt8) × Bool × Bool × Int × (List UInt8) × (List UInt8) × (List UInt8) × (List Int) × Int × Bool × Bool × (List Bool)) => (⟨[(0, (V.iptr (encTreach_world a1) 0)), (1, (sV a2)), (5, (V.ptr 0 3 0 0)), (8, (V.own 1 (p.2.2.2.2.2.2.2.2.2.2.2).length)), (9, (sV (p.1))), (58, (V.lst 3 (a3.Hops.map encTHop))), (59, (iV ((a3.Hops.length : Nat) : Int))), (60, (iV n24)), (84, (bV (p.2.1))), (85, (bV (p.2.2.1))), (88, (V.iptr (encTreach_world a1) 0)), (89, (V.agg [(iV (p.2.2.2.1)), (sV (p.2.2.2.2.1)), (sV (p.2.2.2.2.2.1)), (sV (p.2.2.2.2.2.2.1))])), (90, (V.lst 1 ((p.2.2.2.2.2.2.2.1).map encI_i64))), (91, (iV (p.2.2.2.2.2.2.2.2.1))), (92, (bV (p.2.2.2.2.2.2.2.2.2.1))), (93, (bV (p.2.2.2.2.2.2.2.2.2.2.1)))], [(0, (Ob.arr 51 3 [(encTWitness a3)])), (1, (Ob.arr 4 1 ((p.2.2.2.2.2.2.2.2.2.2.2).map encB)))], 2⟩ : St)) (fun k27 p => k27 p.1 p.2.1 p.2.2.1 p.2.2.2.1 p.2.2.2.2.1 p.2.2.2.2.2.1 p.2.2.2.2.2.2.1 p.2.2.2.2.2.2.2.1 p.2.2.2.2.2.2.2.2.1 p.2.2.2.2.2.2.2.2.2.1 p.2.2.2.2.2.2.2.2.2.2.1 p.2.2.2.2.2.2.2.2.2.2.2 = some r) (fun k27 h => ?_) ?_
    ·refine rn 3 rfl ?_
     refine ixh hx41 rfl rfl ?_
     refine rn 9 rfl ?_
     refine cl h rfl rfl rfl (W86 _ _ _ _) rfl (fun y42 hx43 h => ?_)
     refine rn 8 rfl ?_
     refine dr mixed (vs 6 rfl (xD (OD.mk [(75, (V.imap (a1.funcs.map encM9_3))), (77, (sV x40.To))] [] [(78, (V.tup [(iV ((mget a1.funcs x40.To).getD 0)), (bV ((mget a1.funcs x40.To).isSome))]))] []) ⟨⟨rfl, rfl, trivial⟩, trivial⟩ (by exact fun S hn h hh => aops_lookup_okB _ (iV 0) (iV ((mget a1.funcs x40.To).getD 0)) tMap85 tKey9 tZo3 (irel_con _) wants_none h.1 .imm (.con h.2.1) ⟨_, rfl⟩ encM9_3_good (encM9_3_look a1.funcs x40.To) (getD_map (encM9_3_val) (mget a1.funcs x40.To) 0) (isSome_map ..) rfl (aops_nil ⟨rfl, rfl⟩)) rfl (vs 5 rfl .nil))) (by kernel_rfl) ?_
     refine rn 6 rfl ?_
     refine spO 83 h rfl (fun hb44 h => ?_) (fun hb44 h => ?_)
     ·refine rn 17 rfl ?_
      exact rt h rfl
     refine rn 4 rfl ?_
     refine spO 87 h rfl (fun hb45 h => ?_) (fun hb45 h => ?_)
     ·refine rn 13 rfl ?_
      exact rt h rfl
     refine rn 2 rfl ?_
     refine cl h rfl rfl rfl (W56 _ _ _) rfl (fun y46 hx47 h => ?_)
     refine rn 1 rfl ?_
     refine cl h rfl rfl rfl (W87 _ _ _) rfl (fun y48 hx49 h => ?_)
     refine rn 3 rfl ?_
     refine spC h rfl (fun hb50 h => ?_) (fun hb50 h => ?_)
     ·refine rn 4 rfl ?_
      exact rt h rfl
     refine rn 9 rfl ?_
     refine spO 99 h rfl (fun hb51 h => ?_) (fun hb51 h => ?_)
     ·refine rn 5 rfl ?_
      refine jK h (fun (p : (List Bool)) => (⟨[(0, (V.iptr (encTreach_world a1) 0)), (1, (sV a2)), (5, (V.ptr 0 3 0 0)), (8, (V.own 1 p.length)), (11, (V.ptr 2 3 0 0)), (58, (V.lst 3 (a3.Hops.map encTHop))), (59, (iV ((a3.Hops.length : Nat) : Int))), (60, (iV n24)), (84, (bV ((mget a1.funcs x40.To).isSome))), (85, (bV (!((mget a1.funcs x40.To).isSome)))), (88, (V.iptr (encTreach_world a1) 0)), (89, (V.agg (encTCall (y42.1)))), (90, (V.lst 1 (y46.map encI_i64))), (91, (iV ((mget a1.funcs x40.To).getD 0))), (92, (bV y48)), (93, (bV (!y48))), (100, (V.ptr 3 4 0 0)), (101, (iV (y42.1).Kind)), (102, (bV ((y42.1).Kind == 2)))], [(0, (Ob.arr 51 3 [(encTWitness a3)])), (1, (Ob.arr 4 1 (p.map encB))), (2, (Ob.arr 121 3 [(encTHop x40)])), (3, (Ob.arr 82 4 [(encTCall (y42.1))]))], 4⟩ : St)) (fun k52 p => k52 p = some r) (fun k52 h => ?_) ?_
      ·refine spC h rfl (fun hb54 h => ?_) (fun hb54 h => ?_)
       ·refine rn 7 rfl ?_
        refine cl h rfl rfl rfl (W88 _ _ _ _ _) rfl (fun y55 hx56 h => ?_)
        refine rn 6 rfl ?_
        refine ln rfl rfl ?_
        refine rn 2 rfl ?_
        refine spC h rfl (fun hb57 h => ?_) (fun hb57 h => ?_)
        ·refine rn 4 rfl ?_
         exact rt h rfl
        refine rn 4 rfl ?_
        refine ln rfl rfl ?_
        refine rn 2 rfl ?_
        refine jK h (fun (p : (List Bool)) => (⟨[(0, (V.iptr (encTreach_world a1) 0)), (1, (sV a2)), (5, (V.ptr 0 3 0 0)), (8, (V.own 1 p.length)), (11, (V.ptr 2 3 0 0)), (58, (V.lst 3 (a3.Hops.map encTHop))), (59, (iV ((a3.Hops.length : Nat) : Int))), (60, (iV n24)), (84, (bV ((mget a1.funcs x40.To).isSome))), (85, (bV (!((mget a1.funcs x40.To).isSome)))), (88, (V.iptr (encTreach_world a1) 0)), (89, (V.agg (encTCall (y42.1)))), (90, (V.lst 1 (y46.map encI_i64))), (91, (iV ((mget a1.funcs x40.To).getD 0))), (92, (bV y48)), (93, (bV (!y48))), (100, (V.ptr 3 4 0 0)), (101, (iV (y42.1).Kind)), (102, (bV ((y42.1).Kind == 2)))], [(0, (Ob.arr 51 3 [(encTWitness a3)])), (1, (Ob.arr 4 1 (p.map encB))), (2, (Ob.arr 121 3 [(encTHop x40)])), (3, (Ob.arr 82 4 [(encTCall (y42.1))]))], 4⟩ : St)) (fun k58 p => k58 p = some r) (fun k58 h => ?_) ?_
        ·refine rn 1 rfl ?_
         refine wl (A := y55) 109 rfl (fun hA69 => ?_)
         refine lC (fun (p : Int × (List Bool)) => (⟨[(0, (V.iptr (encTreach_world a1) 0)), (1, (sV a2)), (5, (V.ptr 0 3 0 0)), (8, (V.own 1 (p.2).length)), (11, (V.ptr 2 3 0 0)), (58, (V.lst 3 (a3.Hops.map encTHop))), (59, (iV ((a3.Hops.length : Nat) : Int))), (60, (iV n24)), (84, (bV ((mget a1.funcs x40.To).isSome))), (85, (bV (!((mget a1.funcs x40.To).isSome)))), (88, (V.iptr (encTreach_world a1) 0)), (89, (V.agg (encTCall (y42.1)))), (90, (V.lst 1 (y46.map encI_i64))), (91, (iV ((mget a1.funcs x40.To).getD 0))), (92, (bV y48)), (93, (bV (!y48))), (100, (V.ptr 3 4 0 0)), (101, (iV (y42.1).Kind)), (102, (bV ((y42.1).Kind == 2))), (113, (V.lst 1 (y55.map encI_i64))), (114, (iV ((y55.length : Nat) : Int))), (115, (iV (p.1)))], [(0, (Ob.arr 51 3 [(encTWitness a3)])), (1, (Ob.arr 4 1 ((p.2).map encB))), (2, (Ob.arr 121 3 [(encTHop x40)])), (3, (Ob.arr 82 4 [(encTCall (y42.1))]))], 4⟩ : St)) (fun n p => RG y55 (fun tl nn => M59_L2 F k58 tl p.2 = some r) n p.1) (fun p h => RG.zero h) (y55.length + 1) (0, l25) (RG.start h) (gr [0, 1, 2, 3] rfl (hB rfl rfl rfl (hR rfl rfl (hB rfl rfl rfl (hB rfl rfl rfl .nil)))) rfl) (fun n p h => ?_)
         obtain ⟨n62, l63⟩ := p
         refine rn 5 rfl ?_
         refine spL rfl (fun hb64 => ?_) (fun hb64 => ?_)
         ·obtain ⟨x65, tl, hx66, h, hk2⟩ := RG.t hA69 h hb64
          unfold M59_L2 at h
          refine rn 5 rfl ?_
          refine ixh hx66 rfl rfl ?_
          refine rn 6 rfl ?_
          refine ixo (a := l63) h rfl rfl rfl (fun x67 hx68 h => ?_)
          refine stS true hx68 rfl rfl rfl rfl rfl rfl ?_
          refine rn 6 rfl ?_
          exact jX ((w64 (n62 + 1)), (l63.set x65.toNat true)) (hk2 _ h) (ghost_ren 4 (fun i => ([0, 1, 2, 3] : List Nat).getD i 0) _ _ (by decide) (EnvSub.get (.cons (Sub.imm (Imm.iptr _ _)) (.cons (Sub.imm (Imm.con _)) (.cons (Sub.ptr rfl rfl) (.cons (Sub.ownE rfl rfl (by simp)) (.cons (Sub.ptr rfl rfl) (.cons (Sub.imm (Imm.lst _ _)) (.cons (Sub.imm (Imm.con _)) (.cons (Sub.imm (Imm.con _)) (.cons (Sub.imm (Imm.con _)) (.cons (Sub.imm (Imm.con _)) (.cons (Sub.imm (Imm.iptr _ _)) (.cons (Sub.imm (Imm.agg (imms_encTCall _))) (.cons (Sub.imm (Imm.lst _ _)) (.cons (Sub.imm (Imm.con _)) (.cons (Sub.imm (Imm.con _)) (.cons (Sub.imm (Imm.con _)) (.cons (Sub.ptr rfl rfl) (.cons (Sub.imm (Imm.con _)) (.cons (Sub.imm (Imm.con _)) (.cons (Sub.imm (Imm.lst _ _)) (.cons (Sub.imm (Imm.con _)) (.cons (Sub.imm (Imm.con _)) .nil))))))))))))))))))))))) (HpSub.get (.cons rfl (ObSub.box (.cons (Sub.imm (Imm.con _)) (.cons (Sub.imm (Imm.lst _ _)) (.cons (Sub.imm (Imm.lst _ _)) .nil)))) (.cons rfl (ObSub.rows (rows_imm imms_encB)) (.cons rfl (ObSub.box (.cons (Sub.imm (Imm.con _)) (.cons (Sub.imm (Imm.con _)) (.cons (Sub.imm (Imm.con _)) .nil)))) (.cons rfl (ObSub.box (.cons (Sub.imm (Imm.con _)) (.cons (Sub.imm (Imm.con _)) (.cons (Sub.imm (Imm.con _)) (.cons (Sub.imm (Imm.con _)) .nil))))) .nil))))) rfl)
         replace h := RG.f h hb64
         unfold M59_L2 at h
         refine rn 1 rfl ?_
         exact jX l63 h (gr [0, 1, 2, 3] rfl (hB rfl rfl rfl (hR rfl rfl (hB rfl rfl rfl (hB rfl rfl rfl .nil)))) rfl)
        intro l59 h
        exact jX l59 h (gr [0, 1, 2, 3] rfl (hB rfl rfl rfl (hR rfl rfl (hB rfl rfl rfl (hB rfl rfl rfl .nil)))) rfl)
       refine rn 1 rfl ?_
       exact jX l25 h (gr [0, 1, 2, 3] rfl (hB rfl rfl rfl (hR rfl rfl (hB rfl rfl rfl (hB rfl rfl rfl .nil)))) rfl)
      intro l53 h
      refine rn 6 rfl ?_
      exact jX (x40.To, ((mget a1.funcs x40.To).isSome), (!((mget a1.funcs x40.To).isSome)), (y42.1).Kind, (y42.1).Target, (y42.1).Method, (y42.1).Feature, y46, ((mget a1.funcs x40.To).getD 0), y48, (!y48), l53) h (gr [0, 1] rfl (hB rfl rfl rfl (hR rfl rfl .nil)) rfl)
     refine rn 13 rfl ?_
     exact jX (x40.To, ((mget a1.funcs x40.To).isSome), (!((mget a1.funcs x40.To).isSome)), (y42.1).Kind, (y42.1).Target, (y42.1).Method, (y42.1).Feature, y46, ((mget a1.funcs x40.To).getD 0), y48, (!y48), l25) h (gr [0, 1] rfl (hB rfl rfl rfl (hR rfl rfl .nil)) rfl)
    rintro ⟨s28, b29, b30, n31, s32, s33, s34, l35, n36, b37, b38, l39⟩ h
    refine rn 4 rfl ?_
    exact jX (s28, (w64 (n24 + 1)), l39) (hk1 _ h) (gr [0, 1] rfl (hB rfl rfl rfl (hR rfl rfl .nil)) rfl)
   replace h := RG.f h hb26
   unfold M59_L1 at h
   refine rn 1 rfl ?_
   exact jX (s23, l25) h (gr [1] rfl (hR rfl rfl .nil) rfl)
  rintro ⟨s18, l19⟩ h
  refine rn 6 rfl ?_
  refine spO 129 h rfl (fun hb71 h => ?_) (fun hb71 h => ?_)
  ·obtain ⟨y72, hx73, h⟩ := bind_some h
   refine rn 1 rfl ?_
   refine aops_lend_call (bV y72) [(V.lst 1 (l19.map encB)), (bV false)] fOk89 (ghost_frzEs 0 [130, 8] rfl (rows_imm imms_encB) (List.forall_mem_cons.2 ⟨rfl, (List.forall_mem_cons.2 ⟨rfl, (fun _ hx => nomatch hx)⟩)⟩) (List.length_map ..).symm) (Flat.con _) (wants_some (c := true) (b := true) 129 rfl rfl rfl) (evm_cons rfl (evm_cons rfl evm_nil)) (.cons (Imm.lst _ _) (.cons (Imm.con _) .nil)) (W89 F l19 false y72 hx73) rfl ?_
   refine fo (rn 4 rfl ?_)
   exact rt h rfl
  refine rn 6 rfl ?_
  exact rt h rfl
 refine dr mixed (vs 7 rfl (cD rfl rfl rfl rfl (W16 _ _ _ _ hx9) rfl (vs 1 rfl (vb hb10 rfl (vs 4 rfl (cD rfl rfl rfl rfl (W85 _ _ _ _ _ hx12) rfl (vs 2 rfl (vb hb13 rfl (vs 5 rfl (vb hb14 rfl (vs 6 rfl .nil))))))))))) (by kernel_rfl) ?_
 refine rn 6 rfl ?_
 refine ln rfl rfl ?_
 refine ck h (fun hc74 h => ?_)
 refine aops_makeSlice (ln := (List.replicate (((a3.Made.length : Nat) : Int)).toNat (false : Bool)).length) ((List.replicate (((a3.Made.length : Nat) : Int)).toNat (false : Bool)).map encB) tEl28 tZ4 rfl rfl hc74 List.map_replicate List.length_replicate wants_none rfl rfl ?_
 refine fo (rn 13 rfl ?_)
 refine ln rfl rfl ?_
 refine rn 2 rfl ?_
 refine jK h (fun (p : (List UInt8) × (List Bool)) => (⟨[(1, (sV a2)), (8, (V.own 0 (p.2).length)), (9, (sV (p.1)))], [(0, (Ob.arr 4 1 ((p.2).map encB)))], 1⟩ : St)) (fun k75 p => k75 p.1 p.2 = some r) (fun k75 h => ?_) ?_
 ·refine rn 1 rfl ?_
  refine wl (A := a3.Hops) 58 rfl (fun hA128 => ?_)
  refine lC (fun (p : (List UInt8) × Int × (List Bool)) => (⟨[(0, (V.iptr (encTreach_world a1) 0)), (1, (sV a2)), (5, (V.ptr 0 3 0 0)), (8, (V.own 1 (p.2.2).length)), (9, (sV (p.1))), (58, (V.lst 3 (a3.Hops.map encTHop))), (59, (iV ((a3.Hops.length : Nat) : Int))), (60, (iV (p.2.1)))], [(0, (Ob.arr 51 3 [(encTWitness a3)])), (1, (Ob.arr 4 1 ((p.2.2).map encB)))], 2⟩ : St)) (fun n p => RG a3.Hops (fun tl nn => M59_L3 F a1 a3 k75 tl p.1 p.2.2 = some r) n p.2.1) (fun p h => RG.zero h) (a3.Hops.length + 1) (a3.Entry, 0, (List.replicate (((a3.Made.length : Nat) : Int)).toNat (false : Bool))) (RG.start h) (gr [0, 1] rfl (hB rfl rfl rfl (hR rfl rfl .nil)) rfl) (fun n p h => ?_)
  obtain ⟨s81, n82, l83⟩ := p
  refine rn 5 rfl ?_
  refine spL rfl (fun hb84 => ?_) (fun hb84 => ?_)
  ·obtain ⟨x98, tl, hx99, h, hk3⟩ := RG.t hA128 h hb84
   unfold M59_L3 at h
   refine rn 2 rfl ?_
   refine jK h (fun (p : (List UInt8) × Bool × Bool × Int × (List UInt8) × (List UInt8) × (List UInt8) × (List Int) × Int × Bool × Bool × (List Bool)) => (⟨[(0, (V.iptr (encTreach_world a1) 0)), (1, (sV a2)), (5, (V.ptr 0 3 0 0)), (8, (V.own 1 (p.2.2.2.2.2.2.2.2.2.2.2).length)), (9, (sV (p.1))), (58, (V.lst 3 (a3.Hops.map encTHop))), (59, (iV ((a3.Hops.length : Nat) : Int))), (60, (iV n82)), (84, (bV (p.2.1))), (85, (bV (p.2.2.1))), (88, (V.iptr (encTreach_world a1) 0)), (89, (V.agg [(iV (p.2.2.2.1)), (sV (p.2.2.2.2.1)), (sV (p.2.2.2.2.2.1)), (sV (p.2.2.2.2.2.2.1))])), (90, (V.lst 1 ((p.2.2.2.2.2.2.2.1).map encI_i64))), (91, (iV (p.2.2.2.2.2.2.2.2.1))), (92, (bV (p.2.2.2.2.2.2.2.2.2.1))), (93, (bV (p.2.2.2.2.2.2.2.2.2.2.1)))], [(0, (Ob.arr 51 3 [(encTWitness a3)])), (1, (Ob.arr 4 1 ((p.2.2.2.2.2.2.2.2.2.2.2).map encB)))], 2⟩ : St)) (fun k85 p => k85 p.1 p.2.1 p.2.2.1 p.2.2.2.1 p.2.2.2.2.1 p.2.2.2.2.2.1 p.2.2.2.2.2.2.1 p.2.2.2.2.2.2.2.1 p.2.2.2.2.2.2.2.2.1 p.2.2.2.2.2.2.2.2.2.1 p.2.2.2.2.2.2.2.2.2.2.1 p.2.2.2.2.2.2.2.2.2.2.2 = some r) (fun k85 h => ?_) ?_
   ·refine rn 3 rfl ?_
    refine ixh hx99 rfl rfl ?_
    refine rn 9 rfl ?_
    refine cl h rfl rfl rfl (W86 _ _ _ _) rfl (fun y100 hx101 h => ?_)
    refine rn 8 rfl ?_
    refine dr mixed (vs 6 rfl (xD (OD.mk [(75, (V.imap (a1.funcs.map encM9_3))), (77, (sV x98.To))] [] [(78, (V.tup [(iV ((mget a1.funcs x98.To).getD 0)), (bV ((mget a1.funcs x98.To).isSome))]))] []) ⟨⟨rfl, rfl, trivial⟩, trivial⟩ (by exact fun S hn h hh => aops_lookup_okB _ (iV 0) (iV ((mget a1.funcs x98.To).getD 0)) tMap85 tKey9 tZo3 (irel_con _) wants_none h.1 .imm (.con h.2.1) ⟨_, rfl⟩ encM9_3_good (encM9_3_look a1.funcs x98.To) (getD_map (encM9_3_val) (mget a1.funcs x98.To) 0) (isSome_map ..) rfl (aops_nil ⟨rfl, rfl⟩)) rfl (vs 5 rfl .nil))) (by kernel_rfl) ?_
    refine rn 6 rfl ?_
    refine spO 83 h rfl (fun hb102 h => ?_) (fun hb102 h => ?_)
    ·refine rn 17 rfl ?_
     exact rt h rfl
    refine rn 4 rfl ?_
    refine spO 87 h rfl (fun hb103 h => ?_) (fun hb103 h => ?_)
    ·refine rn 13 rfl ?_
     exact rt h rfl
    refine rn 2 rfl ?_
    refine cl h rfl rfl rfl (W56 _ _ _) rfl (fun y104 hx105 h => ?_)
    refine rn 1 rfl ?_
    refine cl h rfl rfl rfl (W87 _ _ _) rfl (fun y106 hx107 h => ?_)
    refine rn 3 rfl ?_
    refine spC h rfl (fun hb108 h => ?_) (fun hb108 h => ?_)
    ·refine rn 4 rfl ?_
     exact rt h rfl
    refine rn 9 rfl ?_
    refine spO 99 h rfl (fun hb109 h => ?_) (fun hb109 h => ?_)
    ·refine rn 5 rfl ?_
     refine jK h (fun (p : (List Bool)) => (⟨[(0, (V.iptr (encTreach_world a1) 0)), (1, (sV a2)), (5, (V.ptr 0 3 0 0)), (8, (V.own 1 p.length)), (11, (V.ptr 2 3 0 0)), (58, (V.lst 3 (a3.Hops.map encTHop))), (59, (iV ((a3.Hops.length : Nat) : Int))), (60, (iV n82)), (84, (bV ((mget a1.funcs x98.To).isSome))), (85, (bV (!((mget a1.funcs x98.To).isSome)))), (88, (V.iptr (encTreach_world a1) 0)), (89, (V.agg (encTCall (y100.1)))), (90, (V.lst 1 (y104.map encI_i64))), (91, (iV ((mget a1.funcs x98.To).getD 0))), (92, (bV y106)), (93, (bV (!y106))), (100, (V.ptr 3 4 0 0)), (101, (iV (y100.1).Kind)), (102, (bV ((y100.1).Kind == 2)))], [(0, (Ob.arr 51 3 [(encTWitness a3)])), (1, (Ob.arr 4 1 (p.map encB))), (2, (Ob.arr 121 3 [(encTHop x98)])), (3, (Ob.arr 82 4 [(encTCall (y100.1))]))], 4⟩ : St)) (fun k110 p => k110 p = some r) (fun k110 h => ?_) ?_
     ·refine spC h rfl (fun hb112 h => ?_) (fun hb112 h => ?_)
      ·refine rn 7 rfl ?_
       refine cl h rfl rfl rfl (W88 _ _ _ _ _) rfl (fun y113 hx114 h => ?_)
       refine rn 6 rfl ?_
       refine ln rfl rfl ?_
       refine rn 2 rfl ?_
       refine spC h rfl (fun hb115 h => ?_) (fun hb115 h => ?_)
       ·refine rn 4 rfl ?_
        exact rt h rfl
       refine rn 4 rfl ?_
       refine ln rfl rfl ?_
       refine rn 2 rfl ?_
       refine jK h (fun (p : (List Bool)) => (⟨[(0, (V.iptr (encTreach_world a1) 0)), (1, (sV a2)), (5, (V.ptr 0 3 0 0)), (8, (V.own 1 p.length)), (11, (V.ptr 2 3 0 0)), (58, (V.lst 3 (a3.Hops.map encTHop))), (59, (iV ((a3.Hops.length : Nat) : Int))), (60, (iV n82)), (84, (bV ((mget a1.funcs x98.To).isSome))), (85, (bV (!((mget a1.funcs x98.To).isSome)))), (88, (V.iptr (encTreach_world a1) 0)), (89, (V.agg (encTCall (y100.1)))), (90, (V.lst 1 (y104.map encI_i64))), (91, (iV ((mget a1.funcs x98.To).getD 0))), (92, (bV y106)), (93, (bV (!y106))), (100, (V.ptr 3 4 0 0)), (101, (iV (y100.1).Kind)), (102, (bV ((y100.1).Kind == 2)))], [(0, (Ob.arr 51 3 [(encTWitness a3)])), (1, (Ob.arr 4 1 (p.map encB))), (2, (Ob.arr 121 3 [(encTHop x98)])), (3, (Ob.arr 82 4 [(encTCall (y100.1))]))], 4⟩ : St)) (fun k116 p => k116 p = some r) (fun k116 h => ?_) ?_
       ·refine rn 1 rfl ?_
        refine wl (A := y113) 109 rfl (fun hA127 => ?_)
        refine lC (fun (p : Int × (List Bool)) => (⟨[(0, (V.iptr (encTreach_world a1) 0)), (1, (sV a2)), (5, (V.ptr 0 3 0 0)), (8, (V.own 1 (p.2).length)), (11, (V.ptr 2 3 0 0)), (58, (V.lst 3 (a3.Hops.map encTHop))), (59, (iV ((a3.Hops.length : Nat) : Int))), (60, (iV n82)), (84, (bV ((mget a1.funcs x98.To).isSome))), (85, (bV (!((mget a1.funcs x98.To).isSome)))), (88, (V.iptr (encTreach_world a1) 0)), (89, (V.agg (encTCall (y100.1)))), (90, (V.lst 1 (y104.map encI_i64))), (91, (iV ((mget a1.funcs x98.To).getD 0))), (92, (bV y106)), (93, (bV (!y106))), (100, (V.ptr 3 4 0 0)), (101, (iV (y100.1).Kind)), (102, (bV ((y100.1).Kind == 2))), (113, (V.lst 1 (y113.map encI_i64))), (114, (iV ((y113.length : Nat) : Int))), (115, (iV (p.1)))], [(0, (Ob.arr 51 3 [(encTWitness a3)])), (1, (Ob.arr 4 1 ((p.2).map encB))), (2, (Ob.arr 121 3 [(encTHop x98)])), (3, (Ob.arr 82 4 [(encTCall (y100.1))]))], 4⟩ : St)) (fun n p => RG y113 (fun tl nn => M59_L4 F k116 tl p.2 = some r) n p.1) (fun p h => RG.zero h) (y113.length + 1) (0, l83) (RG.start h) (gr [0, 1, 2, 3] rfl (hB rfl rfl rfl (hR rfl rfl (hB rfl rfl rfl (hB rfl rfl rfl .nil)))) rfl) (fun n p h => ?_)
        obtain ⟨n120, l121⟩ := p
        refine rn 5 rfl ?_
        refine spL rfl (fun hb122 => ?_) (fun hb122 => ?_)
        ·obtain ⟨x123, tl, hx124, h, hk4⟩ := RG.t hA127 h hb122
         unfold M59_L4 at h
         refine rn 5 rfl ?_
         refine ixh hx124 rfl rfl ?_
         refine rn 6 rfl ?_
         refine ixo (a := l121) h rfl rfl rfl (fun x125 hx126 h => ?_)
         refine stS true hx126 rfl rfl rfl rfl rfl rfl ?_
         refine rn 6 rfl ?_
         exact jX ((w64 (n120 + 1)), (l121.set x123.toNat true)) (hk4 _ h) (ghost_ren 4 (fun i => ([0, 1, 2, 3] : List Nat).getD i 0) _ _ (by decide) (EnvSub.get (.cons (Sub.imm (Imm.iptr _ _)) (.cons (Sub.imm (Imm.con _)) (.cons (Sub.ptr rfl rfl) (.cons (Sub.ownE rfl rfl (by simp)) (.cons (Sub.ptr rfl rfl) (.cons (Sub.imm (Imm.lst _ _)) (.cons (Sub.imm (Imm.con _)) (.cons (Sub.imm (Imm.con _)) (.cons (Sub.imm (Imm.con _)) (.cons (Sub.imm (Imm.con _)) (.cons (Sub.imm (Imm.iptr _ _)) (.cons (Sub.imm (Imm.agg (imms_encTCall _))) (.cons (Sub.imm (Imm.lst _ _)) (.cons (Sub.imm (Imm.con _)) (.cons (Sub.imm (Imm.con _)) (.cons (Sub.imm (Imm.con _)) (.cons (Sub.ptr rfl rfl) (.cons (Sub.imm (Imm.con _)) (.cons (Sub.imm (Imm.con _)) (.cons (Sub.imm (Imm.lst _ _)) (.cons (Sub.imm (Imm.con _)) (.cons (Sub.imm (Imm.con _)) .nil))))))))))))))))))))))) (HpSub.get (.cons rfl (ObSub.box (.cons (Sub.imm (Imm.con _)) (.cons (Sub.imm (Imm.lst _ _)) (.cons (Sub.imm (Imm.lst _ _)) .nil)))) (.cons rfl (ObSub.rows (rows_imm imms_encB)) (.cons rfl (ObSub.box (.cons (Sub.imm (Imm.con _)) (.cons (Sub.imm (Imm.con _)) (.cons (Sub.imm (Imm.con _)) .nil)))) (.cons rfl (ObSub.box (.cons (Sub.imm (Imm.con _)) (.cons (Sub.imm (Imm.con _)) (.cons (Sub.imm (Imm.con _)) (.cons (Sub.imm (Imm.con _)) .nil))))) .nil))))) rfl)
        replace h := RG.f h hb122
        unfold M59_L4 at h
        refine rn 1 rfl ?_
        exact jX l121 h (gr [0, 1, 2, 3] rfl (hB rfl rfl rfl (hR rfl rfl (hB rfl rfl rfl (hB rfl rfl rfl .nil)))) rfl)
       intro l117 h
       exact jX l117 h (gr [0, 1, 2, 3] rfl (hB rfl rfl rfl (hR rfl rfl (hB rfl rfl rfl (hB rfl rfl rfl .nil)))) rfl)
      refine rn 1 rfl ?_
      exact jX l83 h (gr [0, 1, 2, 3] rfl (hB rfl rfl rfl (hR rfl rfl (hB rfl rfl rfl (hB rfl rfl rfl .nil)))) rfl)
     intro l111 h
     refine rn 6 rfl ?_
     exact jX (x98.To, ((mget a1.funcs x98.To).isSome), (!((mget a1.funcs x98.To).isSome)), (y100.1).Kind, (y100.1).Target, (y100.1).Method, (y100.1).Feature, y104, ((mget a1.funcs x98.To).getD 0), y106, (!y106), l111) h (gr [0, 1] rfl (hB rfl rfl rfl (hR rfl rfl .nil)) rfl)
    refine rn 13 rfl ?_
    exact jX (x98.To, ((mget a1.funcs x98.To).isSome), (!((mget a1.funcs x98.To).isSome)), (y100.1).Kind, (y100.1).Target, (y100.1).Method, (y100.1).Feature, y104, ((mget a1.funcs x98.To).getD 0), y106, (!y106), l83) h (gr [0, 1] rfl (hB rfl rfl rfl (hR rfl rfl .nil)) rfl)
   rintro ⟨s86, b87, b88, n89, s90, s91, s92, l93, n94, b95, b96, l97⟩ h
   refine rn 4 rfl ?_
   exact jX (s86, (w64 (n82 + 1)), l97) (hk3 _ h) (gr [0, 1] rfl (hB rfl rfl rfl (hR rfl rfl .nil)) rfl)
  replace h := RG.f h hb84
  unfold M59_L3 at h
  refine rn 1 rfl ?_
  exact jX (s81, l83) h (gr [1] rfl (hR rfl rfl .nil) rfl)
 rintro ⟨s76, l77⟩ h
 refine rn 6 rfl ?_
 refine spO 129 h rfl (fun hb129 h => ?_) (fun hb129 h => ?_)
 ·obtain ⟨y130, hx131, h⟩ := bind_some h
  refine rn 1 rfl ?_
  refine aops_lend_call (bV y130) [(V.lst 1 (l77.map encB)), (bV false)] fOk89 (ghost_frzEs 0 [130, 8] rfl (rows_imm imms_encB) (List.forall_mem_cons.2 ⟨rfl, (List.forall_mem_cons.2 ⟨rfl, (fun _ hx => nomatch hx)⟩)⟩) (List.length_map ..).symm) (Flat.con _) (wants_some (c := true) (b := true) 129 rfl rfl rfl) (evm_cons rfl (evm_cons rfl evm_nil)) (.cons (Imm.lst _ _) (.cons (Imm.con _) .nil)) (W89 F l77 false y130 hx131) rfl ?_
  refine fo (rn 4 rfl ?_)
  exact rt h rfl
 refine rn 6 rfl ?_
 exact rt h rfl
theorem W27 (F : Nat) (a1 : TGraph) (a2 : Int) (a3 : (List (List UInt8))) (a4 : (List UInt8)) (a5 : TWitness) (r : (Bool × Int)) (h : M27 F a1 a2 a3 a4 a5 = some r) : Pure Try.prog 27 [(V.agg (encTGraph a1)), (iV a2), (V.lst 1 (a3.map encS)), (sV a4), (V.agg (encTWitness a5))] (V.tup [(bV (r.1)), (iV (r.2))]) := by
 refine pin (fun r => (V.tup [(bV (r.1)), (iV (r.2))])) r rfl Try.func27 rfl rfl rfl rfl rfl (fun w0 m0 hg => ?_)
 unfold M27 at h
 refine rn 13 rfl ?_
 refine cl h rfl rfl rfl (W37 _ _ _ _ _) rfl (fun y6 hx7 h => ?_)
 refine rn 14 rfl ?_
 refine spC h rfl (fun hb8 h => ?_) (fun hb8 h => ?_)
 ·refine rn 6 rfl ?_
  exact rt h rfl
 obtain ⟨x9, hx10, h⟩ := bind_some h
 refine rn 2 rfl ?_
 refine opC 12 hx10 rfl ?_
 refine rn 4 rfl ?_
 refine cl h rfl rfl rfl (W59 _ _ _ _) rfl (fun y11 hx12 h => ?_)
 refine rn 3 rfl ?_
 exact rt h rfl
theorem W60 (F : Nat) (a1 : Tprovenderref6_net) (a2 : Tprovenderref6_sets) (a3 : (List TMadeBy)) (r : Bool) (h : M60 F a1 a2 a3 = some r) : Pure Try.prog 60 [(V.agg (encTprovenderref6_net a1)), (V.agg (encTprovenderref6_sets a2)), (V.lst 2 (a3.map encTMadeBy))] (bV r) := by
 refine pin (fun r => (bV r)) r rfl Try.func60 rfl rfl rfl rfl rfl (fun w0 m0 hg => ?_)
 unfold M60 at h
 refine rn 10 rfl ?_
 refine ln rfl rfl ?_
 refine rn 2 rfl ?_
 refine jK h (fun _ : Unit => (⟨[], [], 0⟩ : St)) (fun k4 (_ : Unit) => k4 = some r) (fun k4 h => ?_) ?_
 ·refine rn 1 rfl ?_
  refine wl (A := a3) 2 rfl (fun hA50 => ?_)
  refine lC (fun (p : Int) => (⟨[(2, (V.lst 2 (a3.map encTMadeBy))), (3, (V.ptr 0 6 0 0)), (4, (V.ptr 1 2 0 0)), (12, (V.lst 2 (a3.map encTMadeBy))), (13, (iV ((a3.length : Nat) : Int))), (14, (iV p))], [(0, (Ob.arr 78 6 [(encTprovenderref6_net a1)])), (1, (Ob.arr 74 2 [(encTprovenderref6_sets a2)]))], 2⟩ : St)) (fun n p => RG a3 (fun tl nn => M60_L1 F a1 a2 a3 k4 tl nn = some r) n p) (fun p h => RG.zero h) (a3.length + 1) 0 (RG.start h) (gr [0, 1] rfl (hB rfl rfl rfl (hB rfl rfl rfl .nil)) rfl) (fun n n6 h => ?_)
  refine rn 5 rfl ?_
  refine spL rfl (fun hb7 => ?_) (fun hb7 => ?_)
  ·obtain ⟨x14, tl, hx15, h, hk1⟩ := RG.t hA50 h hb7
   unfold M60_L1 at h
   refine rn 2 rfl ?_
   refine jK h (fun (p : (List UInt8) × Bool × Bool × (List UInt8) × (List UInt8)) => (⟨[(2, (V.lst 2 (a3.map encTMadeBy))), (3, (V.ptr 0 6 0 0)), (4, (V.ptr 1 2 0 0)), (12, (V.lst 2 (a3.map encTMadeBy))), (13, (iV ((a3.length : Nat) : Int))), (14, (iV n6)), (33, (V.ptr 1 2 0 0)), (34, (V.imap (a2.reached.map encM9_4))), (35, (V.ptr 2 2 0 1)), (36, (sV (p.1))), (37, (bV (p.2.1))), (38, (bV (p.2.2.1)))], [(0, (Ob.arr 78 6 [(encTprovenderref6_net a1)])), (1, (Ob.arr 74 2 [(encTprovenderref6_sets a2)])), (2, (Ob.arr 126 2 [[(sV (p.2.2.2.1)), (sV (p.2.2.2.2))]]))], 3⟩ : St)) (fun k8 p => k8 p.1 p.2.1 p.2.2.1 p.2.2.2.1 p.2.2.2.2 = some r) (fun k8 h => ?_) ?_
   ·refine rn 4 rfl ?_
    refine ixh hx15 rfl rfl ?_
    refine rn 7 rfl ?_
    refine bs h (fun hb16 h => ?_) (fun hb16 h => ?_)
    ·obtain ⟨x17, hx18, h⟩ := bind_some h
     refine bs h (fun hb19 h => ?_) (fun hb19 h => ?_)
     ·refine dr mixed (vs 2 rfl (vb hb16 rfl (vs 5 rfl (iD hx18 rfl rfl rfl (vs 4 rfl (vb hb19 rfl (vs 7 rfl .nil))))))) (by kernel_rfl) ?_
      refine rn 5 rfl ?_
      exact rt h rfl
     refine dr mixed (vs 2 rfl (vb hb16 rfl (vs 5 rfl (iD hx18 rfl rfl rfl (vs 4 rfl (vb hb19 rfl (vs 4 rfl (xD (OD.mk [(32, (bV false)), (34, (V.imap (a2.reached.map encM9_4))), (36, (sV x14.Func))] [] [(37, (bV ((mget a2.reached x14.Func).getD false)))] []) ⟨⟨rfl, rfl, rfl, trivial⟩, trivial⟩ (by exact fun S hn h hh => aops_lookup _ (bV false) (bV ((mget a2.reached x14.Func).getD false)) tMap72 tKey9 tZo4 (irel_con _) (wants_some (c := false) (b := false) 32 rfl h.1 rfl) h.2.1 .imm (.con h.2.2.1) ⟨_, rfl⟩ encM9_4_good (encM9_4_look a2.reached x14.Func) (getD_map (encM9_4_val) (mget a2.reached x14.Func) false) rfl (aops_nil ⟨rfl, rfl⟩)) rfl (vs 2 rfl .nil))))))))) (by kernel_rfl) ?_
     refine spC h rfl (fun hb20 h => ?_) (fun hb20 h => ?_)
     ·refine rn 4 rfl ?_
      exact rt h rfl
     refine rn 12 rfl ?_
     refine aops_lookup _ (V.agg [(sV ([] : List UInt8)), (sV ([] : List UInt8)), (V.lst 4 (([] : List TCall).map encTCall)), (V.lst 1 (([] : List (List UInt8)).map encS))]) (V.agg (encTFunc ((mget a1.funcs x14.Func).getD (TFunc.mk ([] : List UInt8) ([] : List UInt8) ([] : (List TCall)) ([] : (List (List UInt8))))))) tMap76 tKey9 tZo69 (irel_aggZ (.con (.con (.sl (.sl .nil))))) wants_none rfl .imm (.con rfl) ⟨_, rfl⟩ encM9_69_good (encM9_69_look a1.funcs x14.Func) (getD_map (encM9_69_val) (mget a1.funcs x14.Func) (TFunc.mk ([] : List UInt8) ([] : List UInt8) ([] : (List TCall)) ([] : (List (List UInt8))))) rfl ?_
     refine fo (rn 1 rfl ?_)
     refine ln rfl rfl ?_
     refine rn 2 rfl ?_
     refine jK h (fun (p : Bool) => (⟨[(2, (V.lst 2 (a3.map encTMadeBy))), (3, (V.ptr 0 6 0 0)), (4, (V.ptr 1 2 0 0)), (9, (bV p)), (12, (V.lst 2 (a3.map encTMadeBy))), (13, (iV ((a3.length : Nat) : Int))), (14, (iV n6)), (22, (V.ptr 2 2 0 0)), (23, (sV x14.Type_)), (24, (V.lst 2 (a3.map encTMadeBy))), (25, (iV n6)), (26, (iV (w64 (n6 - 1)))), (27, (V.iptr (encTMadeBy x17) 0)), (28, (V.iptr (encTMadeBy x17) 0)), (29, (sV x17.Type_)), (30, (bV (Op.bytesLess x14.Type_ x17.Type_ || x14.Type_ == x17.Type_))), (33, (V.ptr 1 2 0 0)), (34, (V.imap (a2.reached.map encM9_4))), (35, (V.ptr 2 2 0 1)), (36, (sV x14.Func)), (37, (bV ((mget a2.reached x14.Func).getD false))), (38, (bV (!((mget a2.reached x14.Func).getD false))))], [(0, (Ob.arr 78 6 [(encTprovenderref6_net a1)])), (1, (Ob.arr 74 2 [(encTprovenderref6_sets a2)])), (2, (Ob.arr 126 2 [(encTMadeBy x14)]))], 3⟩ : St)) (fun k21 p => k21 p = some r) (fun k21 h => ?_) ?_
     ·refine rn 1 rfl ?_
      refine wl (A := ((mget a1.funcs x14.Func).getD (TFunc.mk ([] : List UInt8) ([] : List UInt8) ([] : (List TCall)) ([] : (List (List UInt8))))).Makes) 45 rfl (fun hA33 => ?_)
      refine lC (fun (p : Bool × Int) => (⟨[(2, (V.lst 2 (a3.map encTMadeBy))), (3, (V.ptr 0 6 0 0)), (4, (V.ptr 1 2 0 0)), (8, (V.ptr 2 2 0 0)), (9, (bV (p.1))), (12, (V.lst 2 (a3.map encTMadeBy))), (13, (iV ((a3.length : Nat) : Int))), (14, (iV n6)), (22, (V.ptr 2 2 0 0)), (23, (sV x14.Type_)), (24, (V.lst 2 (a3.map encTMadeBy))), (25, (iV n6)), (26, (iV (w64 (n6 - 1)))), (27, (V.iptr (encTMadeBy x17) 0)), (28, (V.iptr (encTMadeBy x17) 0)), (29, (sV x17.Type_)), (30, (bV (Op.bytesLess x14.Type_ x17.Type_ || x14.Type_ == x17.Type_))), (33, (V.ptr 1 2 0 0)), (34, (V.imap (a2.reached.map encM9_4))), (35, (V.ptr 2 2 0 1)), (36, (sV x14.Func)), (37, (bV ((mget a2.reached x14.Func).getD false))), (38, (bV (!((mget a2.reached x14.Func).getD false)))), (45, (V.lst 1 (((mget a1.funcs x14.Func).getD (TFunc.mk ([] : List UInt8) ([] : List UInt8) ([] : (List TCall)) ([] : (List (List UInt8))))).Makes.map encS))), (46, (iV ((((mget a1.funcs x14.Func).getD (TFunc.mk ([] : List UInt8) ([] : List UInt8) ([] : (List TCall)) ([] : (List (List UInt8))))).Makes.length : Nat) : Int))), (47, (iV (p.2)))], [(0, (Ob.arr 78 6 [(encTprovenderref6_net a1)])), (1, (Ob.arr 74 2 [(encTprovenderref6_sets a2)])), (2, (Ob.arr 126 2 [(encTMadeBy x14)]))], 3⟩ : St)) (fun n p => RG (((mget a1.funcs x14.Func).getD (TFunc.mk ([] : List UInt8) ([] : List UInt8) ([] : (List TCall)) ([] : (List (List UInt8))))).Makes) (fun tl nn => M60_L2 F x14 k21 tl p.1 = some r) n p.2) (fun p h => RG.zero h) ((((mget a1.funcs x14.Func).getD (TFunc.mk ([] : List UInt8) ([] : List UInt8) ([] : (List TCall)) ([] : (List (List UInt8))))).Makes).length + 1) (false, 0) (RG.start h) (gr [0, 1, 2] rfl (hB rfl rfl rfl (hB rfl rfl rfl (hB rfl rfl rfl .nil))) rfl) (fun n p h => ?_)
      obtain ⟨b25, n26⟩ := p
      refine rn 5 rfl ?_
      refine spL rfl (fun hb27 => ?_) (fun hb27 => ?_)
      ·obtain ⟨x30, tl, hx31, h, hk2⟩ := RG.t hA33 h hb27
       unfold M60_L2 at h
       refine rn 2 rfl ?_
       refine jK h (fun (p : Bool) => (⟨[(2, (V.lst 2 (a3.map encTMadeBy))), (3, (V.ptr 0 6 0 0)), (4, (V.ptr 1 2 0 0)), (8, (V.ptr 2 2 0 0)), (9, (bV p)), (12, (V.lst 2 (a3.map encTMadeBy))), (13, (iV ((a3.length : Nat) : Int))), (14, (iV n6)), (22, (V.ptr 2 2 0 0)), (23, (sV x14.Type_)), (24, (V.lst 2 (a3.map encTMadeBy))), (25, (iV n6)), (26, (iV (w64 (n6 - 1)))), (27, (V.iptr (encTMadeBy x17) 0)), (28, (V.iptr (encTMadeBy x17) 0)), (29, (sV x17.Type_)), (30, (bV (Op.bytesLess x14.Type_ x17.Type_ || x14.Type_ == x17.Type_))), (33, (V.ptr 1 2 0 0)), (34, (V.imap (a2.reached.map encM9_4))), (35, (V.ptr 2 2 0 1)), (36, (sV x14.Func)), (37, (bV ((mget a2.reached x14.Func).getD false))), (38, (bV (!((mget a2.reached x14.Func).getD false)))), (45, (V.lst 1 (((mget a1.funcs x14.Func).getD (TFunc.mk ([] : List UInt8) ([] : List UInt8) ([] : (List TCall)) ([] : (List (List UInt8))))).Makes.map encS))), (46, (iV ((((mget a1.funcs x14.Func).getD (TFunc.mk ([] : List UInt8) ([] : List UInt8) ([] : (List TCall)) ([] : (List (List UInt8))))).Makes.length : Nat) : Int))), (47, (iV n26))], [(0, (Ob.arr 78 6 [(encTprovenderref6_net a1)])), (1, (Ob.arr 74 2 [(encTprovenderref6_sets a2)])), (2, (Ob.arr 126 2 [(encTMadeBy x14)]))], 3⟩ : St)) (fun k28 p => k28 p = some r) (fun k28 h => ?_) ?_
       ·refine rn 3 rfl ?_
        refine ixh hx31 rfl rfl ?_
        refine rn 6 rfl ?_
        refine spO 52 h rfl (fun hb32 h => ?_) (fun hb32 h => ?_)
        ·refine rn 8 rfl ?_
         exact jX true h (gr [0, 1, 2] rfl (hB rfl rfl rfl (hB rfl rfl rfl (hB rfl rfl rfl .nil))) rfl)
        refine rn 8 rfl ?_
        exact jX (x30 == x14.Type_) h (gr [0, 1, 2] rfl (hB rfl rfl rfl (hB rfl rfl rfl (hB rfl rfl rfl .nil))) rfl)
       intro b29 h
       refine rn 4 rfl ?_
       exact jX (b29, (w64 (n26 + 1))) (hk2 _ h) (gr [0, 1, 2] rfl (hB rfl rfl rfl (hB rfl rfl rfl (hB rfl rfl rfl .nil))) rfl)
      replace h := RG.f h hb27
      unfold M60_L2 at h
      refine rn 1 rfl ?_
      exact jX b25 h (gr [0, 1, 2] rfl (hB rfl rfl rfl (hB rfl rfl rfl (hB rfl rfl rfl .nil))) rfl)
     intro b22 h
     refine rn 5 rfl ?_
     refine spC h rfl (fun hb34 h => ?_) (fun hb34 h => ?_)
     ·refine rn 4 rfl ?_
      exact rt h rfl
     refine rn 2 rfl ?_
     exact jX (x14.Func, ((mget a2.reached x14.Func).getD false), (!((mget a2.reached x14.Func).getD false)), x14.Type_, x14.Func) h (gr [0, 1, 2] rfl (hB rfl rfl rfl (hB rfl rfl rfl (hB rfl rfl rfl .nil))) rfl)
    refine dr mixed (vs 2 rfl (vb hb16 rfl (vs 15 rfl (xD (OD.mk [(32, (bV false)), (34, (V.imap (a2.reached.map encM9_4))), (36, (sV x14.Func))] [] [(37, (bV ((mget a2.reached x14.Func).getD false)))] []) ⟨⟨rfl, rfl, rfl, trivial⟩, trivial⟩ (by exact fun S hn h hh => aops_lookup _ (bV false) (bV ((mget a2.reached x14.Func).getD false)) tMap72 tKey9 tZo4 (irel_con _) (wants_some (c := false) (b := false) 32 rfl h.1 rfl) h.2.1 .imm (.con h.2.2.1) ⟨_, rfl⟩ encM9_4_good (encM9_4_look a2.reached x14.Func) (getD_map (encM9_4_val) (mget a2.reached x14.Func) false) rfl (aops_nil ⟨rfl, rfl⟩)) rfl (vs 2 rfl .nil))))) (by kernel_rfl) ?_
    refine spC h rfl (fun hb35 h => ?_) (fun hb35 h => ?_)
    ·refine rn 4 rfl ?_
     exact rt h rfl
    refine rn 12 rfl ?_
    refine aops_lookup _ (V.agg [(sV ([] : List UInt8)), (sV ([] : List UInt8)), (V.lst 4 (([] : List TCall).map encTCall)), (V.lst 1 (([] : List (List UInt8)).map encS))]) (V.agg (encTFunc ((mget a1.funcs x14.Func).getD (TFunc.mk ([] : List UInt8) ([] : List UInt8) ([] : (List TCall)) ([] : (List (List UInt8))))))) tMap76 tKey9 tZo69 (irel_aggZ (.con (.con (.sl (.sl .nil))))) wants_none rfl .imm (.con rfl) ⟨_, rfl⟩ encM9_69_good (encM9_69_look a1.funcs x14.Func) (getD_map (encM9_69_val) (mget a1.funcs x14.Func) (TFunc.mk ([] : List UInt8) ([] : List UInt8) ([] : (List TCall)) ([] : (List (List UInt8))))) rfl ?_
    refine fo (rn 1 rfl ?_)
    refine ln rfl rfl ?_
    refine rn 2 rfl ?_
    refine jK h (fun (p : Bool) => (⟨[(2, (V.lst 2 (a3.map encTMadeBy))), (3, (V.ptr 0 6 0 0)), (4, (V.ptr 1 2 0 0)), (9, (bV p)), (12, (V.lst 2 (a3.map encTMadeBy))), (13, (iV ((a3.length : Nat) : Int))), (14, (iV n6)), (22, (V.con undef)), (23, (V.con undef)), (24, (V.con undef)), (25, (V.con undef)), (26, (V.con undef)), (27, (V.con undef)), (28, (V.con undef)), (29, (V.con undef)), (30, (V.con undef)), (33, (V.ptr 1 2 0 0)), (34, (V.imap (a2.reached.map encM9_4))), (35, (V.ptr 2 2 0 1)), (36, (sV x14.Func)), (37, (bV ((mget a2.reached x14.Func).getD false))), (38, (bV (!((mget a2.reached x14.Func).getD false))))], [(0, (Ob.arr 78 6 [(encTprovenderref6_net a1)])), (1, (Ob.arr 74 2 [(encTprovenderref6_sets a2)])), (2, (Ob.arr 126 2 [(encTMadeBy x14)]))], 3⟩ : St)) (fun k36 p => k36 p = some r) (fun k36 h => ?_) ?_
    ·refine rn 1 rfl ?_
     refine wl (A := ((mget a1.funcs x14.Func).getD (TFunc.mk ([] : List UInt8) ([] : List UInt8) ([] : (List TCall)) ([] : (List (List UInt8))))).Makes) 45 rfl (fun hA48 => ?_)
     refine lC (fun (p : Bool × Int) => (⟨[(2, (V.lst 2 (a3.map encTMadeBy))), (3, (V.ptr 0 6 0 0)), (4, (V.ptr 1 2 0 0)), (8, (V.ptr 2 2 0 0)), (9, (bV (p.1))), (12, (V.lst 2 (a3.map encTMadeBy))), (13, (iV ((a3.length : Nat) : Int))), (14, (iV n6)), (22, (V.con undef)), (23, (V.con undef)), (24, (V.con undef)), (25, (V.con undef)), (26, (V.con undef)), (27, (V.con undef)), (28, (V.con undef)), (29, (V.con undef)), (30, (V.con undef)), (33, (V.ptr 1 2 0 0)), (34, (V.imap (a2.reached.map encM9_4))), (35, (V.ptr 2 2 0 1)), (36, (sV x14.Func)), (37, (bV ((mget a2.reached x14.Func).getD false))), (38, (bV (!((mget a2.reached x14.Func).getD false)))), (45, (V.lst 1 (((mget a1.funcs x14.Func).getD (TFunc.mk ([] : List UInt8) ([] : List UInt8) ([] : (List TCall)) ([] : (List (List UInt8))))).Makes.map encS))), (46, (iV ((((mget a1.funcs x14.Func).getD (TFunc.mk ([] : List UInt8) ([] : List UInt8) ([] : (List TCall)) ([] : (List (List UInt8))))).Makes.length : Nat) : Int))), (47, (iV (p.2)))], [(0, (Ob.arr 78 6 [(encTprovenderref6_net a1)])), (1, (Ob.arr 74 2 [(encTprovenderref6_sets a2)])), (2, (Ob.arr 126 2 [(encTMadeBy x14)]))], 3⟩ : St)) (fun n p => RG (((mget a1.funcs x14.Func).getD (TFunc.mk ([] : List UInt8) ([] : List UInt8) ([] : (List TCall)) ([] : (List (List UInt8))))).Makes) (fun tl nn => M60_L3 F x14 k36 tl p.1 = some r) n p.2) (fun p h => RG.zero h) ((((mget a1.funcs x14.Func).getD (TFunc.mk ([] : List UInt8) ([] : List UInt8) ([] : (List TCall)) ([] : (List (List UInt8))))).Makes).length + 1) (false, 0) (RG.start h) (gr [0, 1, 2] rfl (hB rfl rfl rfl (hB rfl rfl rfl (hB rfl rfl rfl .nil))) rfl) (fun n p h => ?_)
     obtain ⟨b40, n41⟩ := p
     refine rn 5 rfl ?_
     refine spL rfl (fun hb42 => ?_) (fun hb42 => ?_)
     ·obtain ⟨x45, tl, hx46, h, hk3⟩ := RG.t hA48 h hb42
      unfold M60_L3 at h
      refine rn 2 rfl ?_
      refine jK h (fun (p : Bool) => (⟨[(2, (V.lst 2 (a3.map encTMadeBy))), (3, (V.ptr 0 6 0 0)), (4, (V.ptr 1 2 0 0)), (8, (V.ptr 2 2 0 0)), (9, (bV p)), (12, (V.lst 2 (a3.map encTMadeBy))), (13, (iV ((a3.length : Nat) : Int))), (14, (iV n6)), (22, (V.con undef)), (23, (V.con undef)), (24, (V.con undef)), (25, (V.con undef)), (26, (V.con undef)), (27, (V.con undef)), (28, (V.con undef)), (29, (V.con undef)), (30, (V.con undef)), (33, (V.ptr 1 2 0 0)), (34, (V.imap (a2.reached.map encM9_4))), (35, (V.ptr 2 2 0 1)), (36, (sV x14.Func)), (37, (bV ((mget a2.reached x14.Func).getD false))), (38, (bV (!((mget a2.reached x14.Func).getD false)))), (45, (V.lst 1 (((mget a1.funcs x14.Func).getD (TFunc.mk ([] : List UInt8) ([] : List UInt8) ([] : (List TCall)) ([] : (List (List UInt8))))).Makes.map encS))), (46, (iV ((((mget a1.funcs x14.Func).getD (TFunc.mk ([] : List UInt8) ([] : List UInt8) ([] : (List TCall)) ([] : (List (List UInt8))))).Makes.length : Nat) : Int))), (47, (iV n41))], [(0, (Ob.arr 78 6 [(encTprovenderref6_net a1)])), (1, (Ob.arr 74 2 [(encTprovenderref6_sets a2)])), (2, (Ob.arr 126 2 [(encTMadeBy x14)]))], 3⟩ : St)) (fun k43 p => k43 p = some r) (fun k43 h => ?_) ?_
      ·refine rn 3 rfl ?_
       refine ixh hx46 rfl rfl ?_
       refine rn 6 rfl ?_
       refine spO 52 h rfl (fun hb47 h => ?_) (fun hb47 h => ?_)
       ·refine rn 8 rfl ?_
        exact jX true h (gr [0, 1, 2] rfl (hB rfl rfl rfl (hB rfl rfl rfl (hB rfl rfl rfl .nil))) rfl)
       refine rn 8 rfl ?_
       exact jX (x45 == x14.Type_) h (gr [0, 1, 2] rfl (hB rfl rfl rfl (hB rfl rfl rfl (hB rfl rfl rfl .nil))) rfl)
      intro b44 h
      refine rn 4 rfl ?_
      exact jX (b44, (w64 (n41 + 1))) (hk3 _ h) (gr [0, 1, 2] rfl (hB rfl rfl rfl (hB rfl rfl rfl (hB rfl rfl rfl .nil))) rfl)
     replace h := RG.f h hb42
     unfold M60_L3 at h
     refine rn 1 rfl ?_
     exact jX b40 h (gr [0, 1, 2] rfl (hB rfl rfl rfl (hB rfl rfl rfl (hB rfl rfl rfl .nil))) rfl)
    intro b37 h
    refine rn 5 rfl ?_
    refine spC h rfl (fun hb49 h => ?_) (fun hb49 h => ?_)
    ·refine rn 4 rfl ?_
     exact rt h rfl
    refine rn 2 rfl ?_
    exact jX (x14.Func, ((mget a2.reached x14.Func).getD false), (!((mget a2.reached x14.Func).getD false)), x14.Type_, x14.Func) h (gr [0, 1, 2] rfl (hB rfl rfl rfl (hB rfl rfl rfl (hB rfl rfl rfl .nil))) rfl)
   rintro ⟨s9, b10, b11, s12, s13⟩ h
   refine rn 4 rfl ?_
   exact jX (w64 (n6 + 1)) (hk1 _ h) (gr [0, 1] rfl (hB rfl rfl rfl (hB rfl rfl rfl .nil)) rfl)
  replace h := RG.f h hb7
  unfold M60_L1 at h
  refine rn 1 rfl ?_
  exact jX () h (g0 rfl rfl)
 intro _ h
 refine rn 4 rfl ?_
 exact rt h rfl
theorem W28 (F : Nat) (a1 : TGraph) (a2 : Int) (a3 : (List (List UInt8))) (a4 : (List UInt8)) (a5 : TWitness) (r : (Bool × Int)) (h : M28 F a1 a2 a3 a4 a5 = some r) : Pure Try.prog 28 [(V.agg (encTGraph a1)), (iV a2), (V.lst 1 (a3.map encS)), (sV a4), (V.agg (encTWitness a5))] (V.tup [(bV (r.1)), (iV (r.2))]) := by
 refine pin (fun r => (V.tup [(bV (r.1)), (iV (r.2))])) r rfl Try.func28 rfl rfl rfl rfl rfl (fun w0 m0 hg => ?_)
 unfold M28 at h
 refine rn 14 rfl ?_
 refine aops_buildSlice [(0, (sV a4))] [[(sV a4)]] tEl25 tZ9 rfl rfl rfl rfl wants_none (evp_cons rfl evp_nil) rfl rfl (by simp) rfl ?_
 obtain ⟨y6, hx7, h⟩ := bind_some h
 refine aops_lend_call (iV y6) [(V.agg (encTGraph a1)), (iV a2), (V.lst 1 (a3.map encS)), (V.lst 1 (([a4] : List (List UInt8)).map encS))] fOk33 (ghost_frzE 2 34 rfl (imms_rows (.cons (.cons (Imm.con _) .nil) .nil)) rfl rfl) (Flat.con _) wants_none (evm_cons rfl (evm_cons rfl (evm_cons rfl (evm_cons rfl evm_nil)))) (.cons (Imm.agg (imms_encTGraph _)) (.cons (Imm.con _) (.cons (Imm.lst _ _) (.cons (Imm.lst _ _) .nil)))) (W33 F a1 a2 a3 ([a4] : List (List UInt8)) y6 hx7) rfl ?_
 refine fo (rn 7 rfl ?_)
 refine spC h rfl (fun hb8 h => ?_) (fun hb8 h => ?_)
 ·refine rn 6 rfl ?_
  exact rt h rfl
 refine rn 5 rfl ?_
 refine cl h rfl rfl rfl (W35 _ _ _) rfl (fun y9 hx10 h => ?_)
 refine rn 12 rfl ?_
 refine ln rfl rfl ?_
 refine rn 2 rfl ?_
 refine jK h (fun (p : Bool) => (⟨[(1, (iV a2)), (3, (sV a4)), (9, (V.ptr 0 3 0 0)), (13, (V.ptr 1 6 0 0)), (14, (bV p))], [(0, (Ob.arr 51 3 [(encTWitness a5)])), (1, (Ob.arr 78 6 [(encTprovenderref6_net y9)]))], 2⟩ : St)) (fun k11 p => k11 p = some r) (fun k11 h => ?_) ?_
 ·refine rn 1 rfl ?_
  refine wl (A := a1.Entries) 43 rfl (fun hA23 => ?_)
  refine lC (fun (p : Bool × Int) => (⟨[(1, (iV a2)), (3, (sV a4)), (9, (V.ptr 0 3 0 0)), (13, (V.ptr 1 6 0 0)), (14, (bV (p.1))), (43, (V.lst 1 (a1.Entries.map encS))), (44, (iV ((a1.Entries.length : Nat) : Int))), (45, (iV (p.2)))], [(0, (Ob.arr 51 3 [(encTWitness a5)])), (1, (Ob.arr 78 6 [(encTprovenderref6_net y9)]))], 2⟩ : St)) (fun n p => RG a1.Entries (fun tl nn => M28_L1 F a5 k11 tl p.1 = some r) n p.2) (fun p h => RG.zero h) (a1.Entries.length + 1) (false, 0) (RG.start h) (gr [1, 3] rfl (hB rfl rfl rfl (hB rfl rfl rfl .nil)) rfl) (fun n p h => ?_)
  obtain ⟨b15, n16⟩ := p
  refine rn 5 rfl ?_
  refine spL rfl (fun hb17 => ?_) (fun hb17 => ?_)
  ·obtain ⟨x20, tl, hx21, h, hk1⟩ := RG.t hA23 h hb17
   unfold M28_L1 at h
   refine rn 2 rfl ?_
   refine jK h (fun (p : Bool) => (⟨[(1, (iV a2)), (3, (sV a4)), (9, (V.ptr 0 3 0 0)), (13, (V.ptr 1 6 0 0)), (14, (bV p)), (43, (V.lst 1 (a1.Entries.map encS))), (44, (iV ((a1.Entries.length : Nat) : Int))), (45, (iV n16))], [(0, (Ob.arr 51 3 [(encTWitness a5)])), (1, (Ob.arr 78 6 [(encTprovenderref6_net y9)]))], 2⟩ : St)) (fun k18 p => k18 p = some r) (fun k18 h => ?_) ?_
   ·refine rn 3 rfl ?_
    refine ixh hx21 rfl rfl ?_
    refine rn 6 rfl ?_
    refine spO 50 h rfl (fun hb22 h => ?_) (fun hb22 h => ?_)
    ·refine rn 8 rfl ?_
     exact jX true h (gr [0, 1] rfl (hB rfl rfl rfl (hB rfl rfl rfl .nil)) rfl)
    refine rn 8 rfl ?_
    exact jX (x20 == a5.Entry) h (gr [0, 1] rfl (hB rfl rfl rfl (hB rfl rfl rfl .nil)) rfl)
   intro b19 h
   refine rn 4 rfl ?_
   exact jX (b19, (w64 (n16 + 1))) (hk1 _ h) (gr [0, 1] rfl (hB rfl rfl rfl (hB rfl rfl rfl .nil)) rfl)
  replace h := RG.f h hb17
  unfold M28_L1 at h
  refine rn 1 rfl ?_
  exact jX b15 h (gr [0, 1] rfl (hB rfl rfl rfl (hB rfl rfl rfl .nil)) rfl)
 intro b12 h
 refine rn 2 rfl ?_
 refine bs h (fun hb24 h => ?_) (fun hb24 h => ?_)
 ·refine dr mixed (vs 2 rfl (vb hb24 rfl (vs 19 rfl .nil))) (by kernel_rfl) ?_
  refine rn 6 rfl ?_
  exact rt h rfl
 refine bs h (fun hb25 h => ?_) (fun hb25 h => ?_)
 ·refine bs h (fun hb26 h => ?_) (fun hb26 h => ?_)
  ·refine dr mixed (vs 2 rfl (vb hb24 rfl (vs 2 rfl (vb hb25 rfl (vs 2 rfl (nD rfl rfl rfl (vs 3 rfl (vb hb26 rfl (vs 9 rfl .nil))))))))) (by kernel_rfl) ?_
   refine rn 6 rfl ?_
   exact rt h rfl
  obtain ⟨y27, hx28, h⟩ := bind_some h
  obtain ⟨y29, hx30, h⟩ := bind_some h
  refine dr mixed (vs 2 rfl (vb hb24 rfl (vs 2 rfl (vb hb25 rfl (vs 2 rfl (nD rfl rfl rfl (vs 3 rfl (vb hb26 rfl (vs 3 rfl (cD rfl rfl rfl rfl (W36 _ _ _ _ hx28) rfl (vs 2 rfl (cD rfl rfl rfl rfl (W60 _ _ _ _ _ hx30) rfl (vs 2 rfl .nil))))))))))))) (by kernel_rfl) ?_
  refine spC h rfl (fun hb31 h => ?_) (fun hb31 h => ?_)
  ·refine rn 5 rfl ?_
   exact rt h rfl
  refine rn 5 rfl ?_
  refine ln rfl rfl ?_
  refine ck h (fun hc32 h => ?_)
  refine aops_makeSlice (ln := (List.replicate (((a5.Made.length : Nat) : Int)).toNat (false : Bool)).length) ((List.replicate (((a5.Made.length : Nat) : Int)).toNat (false : Bool)).map encB) tEl28 tZ4 rfl rfl hc32 List.map_replicate List.length_replicate wants_none rfl rfl ?_
  refine fo (rn 13 rfl ?_)
  refine ln rfl rfl ?_
  refine rn 2 rfl ?_
  refine jK h (fun (p : (List UInt8) × (List Bool)) => (⟨[(3, (sV a4)), (17, (V.own 0 (p.2).length)), (18, (sV (p.1)))], [(0, (Ob.arr 4 1 ((p.2).map encB)))], 1⟩ : St)) (fun k33 p => k33 p.1 p.2 = some r) (fun k33 h => ?_) ?_
  ·refine rn 1 rfl ?_
   refine wl (A := a5.Hops) 86 rfl (fun hA121 => ?_)
   refine lC (fun (p : (List UInt8) × Int × (List Bool)) => (⟨[(1, (iV a2)), (3, (sV a4)), (9, (V.ptr 0 3 0 0)), (13, (V.ptr 1 6 0 0)), (17, (V.own 2 (p.2.2).length)), (18, (sV (p.1))), (86, (V.lst 3 (a5.Hops.map encTHop))), (87, (iV ((a5.Hops.length : Nat) : Int))), (88, (iV (p.2.1)))], [(0, (Ob.arr 51 3 [(encTWitness a5)])), (1, (Ob.arr 78 6 [(encTprovenderref6_net y9)])), (2, (Ob.arr 4 1 ((p.2.2).map encB)))], 3⟩ : St)) (fun n p => RG a5.Hops (fun tl nn => M28_L2 F a5 y9 k33 tl p.1 p.2.2 = some r) n p.2.1) (fun p h => RG.zero h) (a5.Hops.length + 1) (a5.Entry, 0, (List.replicate (((a5.Made.length : Nat) : Int)).toNat (false : Bool))) (RG.start h) (gr [0, 1, 2] rfl (hB rfl rfl rfl (hB rfl rfl rfl (hR rfl rfl .nil))) rfl) (fun n p h => ?_)
   obtain ⟨s39, n40, l41⟩ := p
   refine rn 5 rfl ?_
   refine spL rfl (fun hb42 => ?_) (fun hb42 => ?_)
   ·obtain ⟨x46, tl, hx47, h, hk2⟩ := RG.t hA121 h hb42
    unfold M28_L2 at h
    refine rn 2 rfl ?_
    refine jK h (fun (p : (List UInt8) × (List Bool)) => (⟨[(1, (iV a2)), (3, (sV a4)), (9, (V.ptr 0 3 0 0)), (13, (V.ptr 1 6 0 0)), (17, (V.own 2 (p.2).length)), (18, (sV (p.1))), (86, (V.lst 3 (a5.Hops.map encTHop))), (87, (iV ((a5.Hops.length : Nat) : Int))), (88, (iV n40))], [(0, (Ob.arr 51 3 [(encTWitness a5)])), (1, (Ob.arr 78 6 [(encTprovenderref6_net y9)])), (2, (Ob.arr 4 1 ((p.2).map encB)))], 3⟩ : St)) (fun k43 p => k43 p.1 p.2 = some r) (fun k43 h => ?_) ?_
    ·refine rn 3 rfl ?_
     refine ixh hx47 rfl rfl ?_
     refine rn 13 rfl ?_
     refine spC h rfl (fun hb48 h => ?_) (fun hb48 h => ?_)
     ·refine rn 5 rfl ?_
      exact rt h rfl
     refine rn 11 rfl ?_
     refine aops_lookup _ (V.lst 3 (([] : (List Tprovenderref6_link)).map encTprovenderref6_link)) (V.lst 3 (((mget y9.links s39).getD ([] : (List Tprovenderref6_link))).map encTprovenderref6_link)) tMap75 tKey9 tZo122 (fun _ => .nil _ _ _) wants_none rfl .imm (.con rfl) ⟨_, rfl⟩ encM9_122_good (encM9_122_look y9.links s39) (getD_map (encM9_122_val) (mget y9.links s39) ([] : (List Tprovenderref6_link))) rfl ?_
     refine fo ?_
     refine ln rfl rfl ?_
     refine rn 2 rfl ?_
     refine jK h (fun (p : Bool × (List Bool)) => (⟨[(1, (iV a2)), (3, (sV a4)), (9, (V.ptr 0 3 0 0)), (13, (V.ptr 1 6 0 0)), (17, (V.own 2 (p.2).length)), (20, (V.ptr 3 3 0 0)), (21, (bV (p.1))), (86, (V.lst 3 (a5.Hops.map encTHop))), (87, (iV ((a5.Hops.length : Nat) : Int))), (88, (iV n40))], [(0, (Ob.arr 51 3 [(encTWitness a5)])), (1, (Ob.arr 78 6 [(encTprovenderref6_net y9)])), (2, (Ob.arr 4 1 ((p.2).map encB))), (3, (Ob.arr 121 3 [(encTHop x46)]))], 4⟩ : St)) (fun k49 p => k49 p.1 p.2 = some r) (fun k49 h => ?_) ?_
     ·refine rn 1 rfl ?_
      refine wl (A := ((mget y9.links s39).getD ([] : (List Tprovenderref6_link)))) 100 rfl (fun hA119 => ?_)
      refine lC (fun (p : Bool × Int × (List Bool)) => (⟨[(1, (iV a2)), (3, (sV a4)), (9, (V.ptr 0 3 0 0)), (13, (V.ptr 1 6 0 0)), (17, (V.own 2 (p.2.2).length)), (20, (V.ptr 3 3 0 0)), (21, (bV (p.1))), (86, (V.lst 3 (a5.Hops.map encTHop))), (87, (iV ((a5.Hops.length : Nat) : Int))), (88, (iV n40)), (100, (V.lst 3 (((mget y9.links s39).getD ([] : (List Tprovenderref6_link))).map encTprovenderref6_link))), (101, (iV ((((mget y9.links s39).getD ([] : (List Tprovenderref6_link))).length : Nat) : Int))), (102, (iV (p.2.1)))], [(0, (Ob.arr 51 3 [(encTWitness a5)])), (1, (Ob.arr 78 6 [(encTprovenderref6_net y9)])), (2, (Ob.arr 4 1 ((p.2.2).map encB))), (3, (Ob.arr 121 3 [(encTHop x46)]))], 4⟩ : St)) (fun n p => RG ((mget y9.links s39).getD ([] : (List Tprovenderref6_link))) (fun tl nn => M28_L3 F a5 x46 k49 tl p.1 p.2.2 = some r) n p.2.1) (fun p h => RG.zero h) (((mget y9.links s39).getD ([] : (List Tprovenderref6_link))).length + 1) (false, 0, l41) (RG.start h) (gr [0, 1, 2, 3] rfl (hB rfl rfl rfl (hB rfl rfl rfl (hR rfl rfl (hB rfl rfl rfl .nil)))) rfl) (fun n p h => ?_)
      obtain ⟨b55, n56, l57⟩ := p
      refine rn 5 rfl ?_
      refine spL rfl (fun hb58 => ?_) (fun hb58 => ?_)
      ·obtain ⟨x62, tl, hx63, h, hk3⟩ := RG.t hA119 h hb58
       unfold M28_L3 at h
       refine rn 2 rfl ?_
       refine jK h (fun (p : Bool × (List Bool)) => (⟨[(1, (iV a2)), (3, (sV a4)), (9, (V.ptr 0 3 0 0)), (13, (V.ptr 1 6 0 0)), (17, (V.own 2 (p.2).length)), (20, (V.ptr 3 3 0 0)), (21, (bV (p.1))), (86, (V.lst 3 (a5.Hops.map encTHop))), (87, (iV ((a5.Hops.length : Nat) : Int))), (88, (iV n40)), (100, (V.lst 3 (((mget y9.links s39).getD ([] : (List Tprovenderref6_link))).map encTprovenderref6_link))), (101, (iV ((((mget y9.links s39).getD ([] : (List Tprovenderref6_link))).length : Nat) : Int))), (102, (iV n56))], [(0, (Ob.arr 51 3 [(encTWitness a5)])), (1, (Ob.arr 78 6 [(encTprovenderref6_net y9)])), (2, (Ob.arr 4 1 ((p.2).map encB))), (3, (Ob.arr 121 3 [(encTHop x46)]))], 4⟩ : St)) (fun k59 p => k59 p.1 p.2 = some r) (fun k59 h => ?_) ?_
       ·refine rn 3 rfl ?_
        refine ixh hx63 rfl rfl ?_
        refine rn 11 rfl ?_
        refine aops_eqS true (xs := cv43 x62.site) (ys := cv43 x46.Site) (b := (decide (x62.site = x46.Site))) eqk43 ⟨_, rfl⟩ ⟨_, rfl⟩ (eq_b cv43 _ _ (inj_cv43 _ _)) tEqG43 wants_none rfl rfl rfl ?_
        refine fo (rn 1 rfl ?_)
        refine spC h rfl (fun hb64 h => ?_) (fun hb64 h => ?_)
        ·refine rn 1 rfl ?_
         exact jX (b55, l57) h (gr [0, 1, 2, 3] rfl (hB rfl rfl rfl (hB rfl rfl rfl (hR rfl rfl (hB rfl rfl rfl .nil)))) rfl)
        refine rn 5 rfl ?_
        refine ln rfl rfl ?_
        refine rn 2 rfl ?_
        refine jK h (fun (p : Bool × (List Bool)) => (⟨[(1, (iV a2)), (3, (sV a4)), (9, (V.ptr 0 3 0 0)), (13, (V.ptr 1 6 0 0)), (17, (V.own 2 (p.2).length)), (20, (V.ptr 3 3 0 0)), (21, (bV (p.1))), (86, (V.lst 3 (a5.Hops.map encTHop))), (87, (iV ((a5.Hops.length : Nat) : Int))), (88, (iV n40)), (100, (V.lst 3 (((mget y9.links s39).getD ([] : (List Tprovenderref6_link))).map encTprovenderref6_link))), (101, (iV ((((mget y9.links s39).getD ([] : (List Tprovenderref6_link))).length : Nat) : Int))), (102, (iV n56))], [(0, (Ob.arr 51 3 [(encTWitness a5)])), (1, (Ob.arr 78 6 [(encTprovenderref6_net y9)])), (2, (Ob.arr 4 1 ((p.2).map encB))), (3, (Ob.arr 121 3 [(encTHop x46)]))], 4⟩ : St)) (fun k65 p => k65 p.1 p.2 = some r) (fun k65 h => ?_) ?_
        ·refine rn 1 rfl ?_
         refine wl (A := x62.aims) 112 rfl (fun hA118 => ?_)
         refine lC (fun (p : Bool × Int × (List Bool)) => (⟨[(1, (iV a2)), (3, (sV a4)), (9, (V.ptr 0 3 0 0)), (13, (V.ptr 1 6 0 0)), (17, (V.own 2 (p.2.2).length)), (20, (V.ptr 3 3 0 0)), (21, (bV (p.1))), (86, (V.lst 3 (a5.Hops.map encTHop))), (87, (iV ((a5.Hops.length : Nat) : Int))), (88, (iV n40)), (100, (V.lst 3 (((mget y9.links s39).getD ([] : (List Tprovenderref6_link))).map encTprovenderref6_link))), (101, (iV ((((mget y9.links s39).getD ([] : (List Tprovenderref6_link))).length : Nat) : Int))), (102, (iV n56)), (112, (V.lst 2 (x62.aims.map encTprovenderref6_aim))), (113, (iV ((x62.aims.length : Nat) : Int))), (114, (iV (p.2.1)))], [(0, (Ob.arr 51 3 [(encTWitness a5)])), (1, (Ob.arr 78 6 [(encTprovenderref6_net y9)])), (2, (Ob.arr 4 1 ((p.2.2).map encB))), (3, (Ob.arr 121 3 [(encTHop x46)]))], 4⟩ : St)) (fun n p => RG x62.aims (fun tl nn => M28_L4 F a5 x46 k65 tl p.1 p.2.2 = some r) n p.2.1) (fun p h => RG.zero h) (x62.aims.length + 1) (b55, 0, l57) (RG.start h) (gr [0, 1, 2, 3] rfl (hB rfl rfl rfl (hB rfl rfl rfl (hR rfl rfl (hB rfl rfl rfl .nil)))) rfl) (fun n p h => ?_)
         obtain ⟨b71, n72, l73⟩ := p
         refine rn 5 rfl ?_
         refine spL rfl (fun hb74 => ?_) (fun hb74 => ?_)
         ·obtain ⟨x78, tl, hx79, h, hk4⟩ := RG.t hA118 h hb74
          unfold M28_L4 at h
          refine rn 2 rfl ?_
          refine jK h (fun (p : Bool × (List Bool)) => (⟨[(1, (iV a2)), (3, (sV a4)), (9, (V.ptr 0 3 0 0)), (13, (V.ptr 1 6 0 0)), (17, (V.own 2 (p.2).length)), (20, (V.ptr 3 3 0 0)), (21, (bV (p.1))), (86, (V.lst 3 (a5.Hops.map encTHop))), (87, (iV ((a5.Hops.length : Nat) : Int))), (88, (iV n40)), (100, (V.lst 3 (((mget y9.links s39).getD ([] : (List Tprovenderref6_link))).map encTprovenderref6_link))), (101, (iV ((((mget y9.links s39).getD ([] : (List Tprovenderref6_link))).length : Nat) : Int))), (102, (iV n56)), (112, (V.lst 2 (x62.aims.map encTprovenderref6_aim))), (113, (iV ((x62.aims.length : Nat) : Int))), (114, (iV n72))], [(0, (Ob.arr 51 3 [(encTWitness a5)])), (1, (Ob.arr 78 6 [(encTprovenderref6_net y9)])), (2, (Ob.arr 4 1 ((p.2).map encB))), (3, (Ob.arr 121 3 [(encTHop x46)]))], 4⟩ : St)) (fun k75 p => k75 p.1 p.2 = some r) (fun k75 h => ?_) ?_
          ·refine rn 3 rfl ?_
           refine ixh hx79 rfl rfl ?_
           refine rn 13 rfl ?_
           refine spC h rfl (fun hb80 h => ?_) (fun hb80 h => ?_)
           ·refine rn 1 rfl ?_
            exact jX (b71, l73) h (gr [0, 1, 2, 3] rfl (hB rfl rfl rfl (hB rfl rfl rfl (hR rfl rfl (hB rfl rfl rfl .nil)))) rfl)
           refine rn 5 rfl ?_
           refine spO 124 h rfl (fun hb81 h => ?_) (fun hb81 h => ?_)
           ·refine rn 14 rfl ?_
            refine ln rfl rfl ?_
            refine rn 2 rfl ?_
            refine jK h (fun (p : (List Bool)) => (⟨[(1, (iV a2)), (3, (sV a4)), (9, (V.ptr 0 3 0 0)), (13, (V.ptr 1 6 0 0)), (17, (V.own 2 p.length)), (20, (V.ptr 3 3 0 0)), (21, (bV true)), (86, (V.lst 3 (a5.Hops.map encTHop))), (87, (iV ((a5.Hops.length : Nat) : Int))), (88, (iV n40)), (100, (V.lst 3 (((mget y9.links s39).getD ([] : (List Tprovenderref6_link))).map encTprovenderref6_link))), (101, (iV ((((mget y9.links s39).getD ([] : (List Tprovenderref6_link))).length : Nat) : Int))), (102, (iV n56)), (112, (V.lst 2 (x62.aims.map encTprovenderref6_aim))), (113, (iV ((x62.aims.length : Nat) : Int))), (114, (iV n72)), (125, (V.con undef)), (126, (V.con undef)), (129, (V.con undef)), (130, (V.con undef)), (131, (V.con undef))], [(0, (Ob.arr 51 3 [(encTWitness a5)])), (1, (Ob.arr 78 6 [(encTprovenderref6_net y9)])), (2, (Ob.arr 4 1 (p.map encB))), (3, (Ob.arr 121 3 [(encTHop x46)]))], 4⟩ : St)) (fun k82 p => k82 p = some r) (fun k82 h => ?_) ?_
            ·refine rn 1 rfl ?_
             refine wl (A := a5.Made) 134 rfl (fun hA99 => ?_)
             refine lC (fun (p : Int × (List Bool)) => (⟨[(1, (iV a2)), (3, (sV a4)), (9, (V.ptr 0 3 0 0)), (13, (V.ptr 1 6 0 0)), (17, (V.own 2 (p.2).length)), (20, (V.ptr 3 3 0 0)), (21, (bV true)), (25, (V.ptr 4 2 0 0)), (86, (V.lst 3 (a5.Hops.map encTHop))), (87, (iV ((a5.Hops.length : Nat) : Int))), (88, (iV n40)), (100, (V.lst 3 (((mget y9.links s39).getD ([] : (List Tprovenderref6_link))).map encTprovenderref6_link))), (101, (iV ((((mget y9.links s39).getD ([] : (List Tprovenderref6_link))).length : Nat) : Int))), (102, (iV n56)), (112, (V.lst 2 (x62.aims.map encTprovenderref6_aim))), (113, (iV ((x62.aims.length : Nat) : Int))), (114, (iV n72)), (125, (V.con undef)), (126, (V.con undef)), (129, (V.con undef)), (130, (V.con undef)), (131, (V.con undef)), (134, (V.lst 2 (a5.Made.map encTMadeBy))), (135, (iV ((a5.Made.length : Nat) : Int))), (136, (iV (p.1)))], [(0, (Ob.arr 51 3 [(encTWitness a5)])), (1, (Ob.arr 78 6 [(encTprovenderref6_net y9)])), (2, (Ob.arr 4 1 ((p.2).map encB))), (3, (Ob.arr 121 3 [(encTHop x46)])), (4, (Ob.arr 117 2 [(encTprovenderref6_aim x78)]))], 5⟩ : St)) (fun n p => RG a5.Made (fun tl nn => M28_L5 F x78 k82 tl nn p.2 = some r) n p.1) (fun p h => RG.zero h) (a5.Made.length + 1) (0, l73) (RG.start h) (gr [0, 1, 2, 3, 4] rfl (hB rfl rfl rfl (hB rfl rfl rfl (hR rfl rfl (hB rfl rfl rfl (hB rfl rfl rfl .nil))))) rfl) (fun n p h => ?_)
             obtain ⟨n86, l87⟩ := p
             refine rn 5 rfl ?_
             refine spL rfl (fun hb88 => ?_) (fun hb88 => ?_)
             ·obtain ⟨x91, tl, hx92, h, hk5⟩ := RG.t hA99 h hb88
              unfold M28_L5 at h
              refine rn 2 rfl ?_
              refine jK h (fun (p : (List Bool)) => (⟨[(1, (iV a2)), (3, (sV a4)), (9, (V.ptr 0 3 0 0)), (13, (V.ptr 1 6 0 0)), (17, (V.own 2 p.length)), (20, (V.ptr 3 3 0 0)), (21, (bV true)), (25, (V.ptr 4 2 0 0)), (86, (V.lst 3 (a5.Hops.map encTHop))), (87, (iV ((a5.Hops.length : Nat) : Int))), (88, (iV n40)), (100, (V.lst 3 (((mget y9.links s39).getD ([] : (List Tprovenderref6_link))).map encTprovenderref6_link))), (101, (iV ((((mget y9.links s39).getD ([] : (List Tprovenderref6_link))).length : Nat) : Int))), (102, (iV n56)), (112, (V.lst 2 (x62.aims.map encTprovenderref6_aim))), (113, (iV ((x62.aims.length : Nat) : Int))), (114, (iV n72)), (125, (V.con undef)), (126, (V.con undef)), (129, (V.con undef)), (130, (V.con undef)), (131, (V.con undef)), (134, (V.lst 2 (a5.Made.map encTMadeBy))), (135, (iV ((a5.Made.length : Nat) : Int))), (136, (iV n86))], [(0, (Ob.arr 51 3 [(encTWitness a5)])), (1, (Ob.arr 78 6 [(encTprovenderref6_net y9)])), (2, (Ob.arr 4 1 (p.map encB))), (3, (Ob.arr 121 3 [(encTHop x46)])), (4, (Ob.arr 117 2 [(encTprovenderref6_aim x78)]))], 5⟩ : St)) (fun k89 p => k89 p = some r) (fun k89 h => ?_) ?_
              ·refine rn 4 rfl ?_
               refine ixh hx92 rfl rfl ?_
               refine rn 11 rfl ?_
               refine spO 144 h rfl (fun hb93 h => ?_) (fun hb93 h => ?_)
               ·refine rn 7 rfl ?_
                refine jK h (fun (p : (List Bool)) => (⟨[(1, (iV a2)), (3, (sV a4)), (9, (V.ptr 0 3 0 0)), (13, (V.ptr 1 6 0 0)), (17, (V.own 2 p.length)), (20, (V.ptr 3 3 0 0)), (21, (bV true)), (25, (V.ptr 4 2 0 0)), (86, (V.lst 3 (a5.Hops.map encTHop))), (87, (iV ((a5.Hops.length : Nat) : Int))), (88, (iV n40)), (100, (V.lst 3 (((mget y9.links s39).getD ([] : (List Tprovenderref6_link))).map encTprovenderref6_link))), (101, (iV ((((mget y9.links s39).getD ([] : (List Tprovenderref6_link))).length : Nat) : Int))), (102, (iV n56)), (112, (V.lst 2 (x62.aims.map encTprovenderref6_aim))), (113, (iV ((x62.aims.length : Nat) : Int))), (114, (iV n72)), (125, (V.con undef)), (126, (V.con undef)), (129, (V.con undef)), (130, (V.con undef)), (131, (V.con undef)), (134, (V.lst 2 (a5.Made.map encTMadeBy))), (135, (iV ((a5.Made.length : Nat) : Int))), (136, (iV n86)), (145, (V.ptr 5 2 0 0)), (146, (sV x91.Type_)), (147, (V.ptr 4 2 0 0)), (148, (sV x78.typ)), (149, (bV (x91.Type_ == x78.typ)))], [(0, (Ob.arr 51 3 [(encTWitness a5)])), (1, (Ob.arr 78 6 [(encTprovenderref6_net y9)])), (2, (Ob.arr 4 1 (p.map encB))), (3, (Ob.arr 121 3 [(encTHop x46)])), (4, (Ob.arr 117 2 [(encTprovenderref6_aim x78)])), (5, (Ob.arr 126 2 [(encTMadeBy x91)]))], 6⟩ : St)) (fun k94 p => k94 p = some r) (fun k94 h => ?_) ?_
                ·refine spC h rfl (fun hb96 h => ?_) (fun hb96 h => ?_)
                 ·refine rn 4 rfl ?_
                  refine ixo (a := l87) h rfl rfl rfl (fun x97 hx98 h => ?_)
                  refine stS true hx98 rfl rfl rfl rfl rfl rfl ?_
                  refine rn 1 rfl ?_
                  exact jX (l87.set n86.toNat true) h (ghost_ren 6 (fun i => ([0, 1, 2, 3, 4, 5] : List Nat).getD i 0) _ _ (by decide) (EnvSub.get (.cons (Sub.imm (Imm.con _)) (.cons (Sub.imm (Imm.con _)) (.cons (Sub.ptr rfl rfl) (.cons (Sub.ptr rfl rfl) (.cons (Sub.ownE rfl rfl (by simp)) (.cons (Sub.ptr rfl rfl) (.cons (Sub.imm (Imm.con _)) (.cons (Sub.ptr rfl rfl) (.cons (Sub.imm (Imm.lst _ _)) (.cons (Sub.imm (Imm.con _)) (.cons (Sub.imm (Imm.con _)) (.cons (Sub.imm (Imm.lst _ _)) (.cons (Sub.imm (Imm.con _)) (.cons (Sub.imm (Imm.con _)) (.cons (Sub.imm (Imm.lst _ _)) (.cons (Sub.imm (Imm.con _)) (.cons (Sub.imm (Imm.con _)) (.cons (Sub.imm (Imm.con _)) (.cons (Sub.imm (Imm.con _)) (.cons (Sub.imm (Imm.con _)) (.cons (Sub.imm (Imm.con _)) (.cons (Sub.imm (Imm.con _)) (.cons (Sub.imm (Imm.lst _ _)) (.cons (Sub.imm (Imm.con _)) (.cons (Sub.imm (Imm.con _)) (.cons (Sub.ptr rfl rfl) (.cons (Sub.imm (Imm.con _)) (.cons (Sub.ptr rfl rfl) (.cons (Sub.imm (Imm.con _)) (.cons (Sub.imm (Imm.con _)) .nil))))))))))))))))))))))))))))))) (HpSub.get (.cons rfl (ObSub.box (.cons (Sub.imm (Imm.con _)) (.cons (Sub.imm (Imm.lst _ _)) (.cons (Sub.imm (Imm.lst _ _)) .nil)))) (.cons rfl (ObSub.box (.cons (Sub.imm (Imm.lst _ _)) (.cons (Sub.imm (Imm.lst _ _)) (.cons (Sub.imm (Imm.lst _ _)) (.cons (Sub.imm (Imm.lst _ _)) (.cons (Sub.imm (Imm.imap _)) (.cons (Sub.imm (Imm.imap _)) .nil))))))) (.cons rfl (ObSub.rows (rows_imm imms_encB)) (.cons rfl (ObSub.box (.cons (Sub.imm (Imm.con _)) (.cons (Sub.imm (Imm.con _)) (.cons (Sub.imm (Imm.con _)) .nil)))) (.cons rfl (ObSub.box (.cons (Sub.imm (Imm.con _)) (.cons (Sub.imm (Imm.con _)) .nil))) (.cons rfl (ObSub.box (.cons (Sub.imm (Imm.con _)) (.cons (Sub.imm (Imm.con _)) .nil))) .nil))))))) rfl)
                 refine rn 1 rfl ?_
                 exact jX l87 h (gr [0, 1, 2, 3, 4, 5] rfl (hB rfl rfl rfl (hB rfl rfl rfl (hR rfl rfl (hB rfl rfl rfl (hB rfl rfl rfl (hB rfl rfl rfl .nil)))))) rfl)
                intro l95 h
                refine rn 1 rfl ?_
                exact jX l95 h (gr [0, 1, 2, 3, 4] rfl (hB rfl rfl rfl (hB rfl rfl rfl (hR rfl rfl (hB rfl rfl rfl (hB rfl rfl rfl .nil))))) rfl)
               refine rn 10 rfl ?_
               exact jX l87 h (gr [0, 1, 2, 3, 4] rfl (hB rfl rfl rfl (hB rfl rfl rfl (hR rfl rfl (hB rfl rfl rfl (hB rfl rfl rfl .nil))))) rfl)
              intro l90 h
              refine rn 4 rfl ?_
              exact jX ((w64 (n86 + 1)), l90) (hk5 _ h) (gr [0, 1, 2, 3, 4] rfl (hB rfl rfl rfl (hB rfl rfl rfl (hR rfl rfl (hB rfl rfl rfl (hB rfl rfl rfl .nil))))) rfl)
             replace h := RG.f h hb88
             unfold M28_L5 at h
             refine rn 1 rfl ?_
             exact jX l87 h (gr [0, 1, 2, 3] rfl (hB rfl rfl rfl (hB rfl rfl rfl (hR rfl rfl (hB rfl rfl rfl .nil)))) rfl)
            intro l83 h
            refine rn 1 rfl ?_
            exact jX (true, l83) h (gr [0, 1, 2, 3] rfl (hB rfl rfl rfl (hB rfl rfl rfl (hR rfl rfl (hB rfl rfl rfl .nil)))) rfl)
           refine rn 4 rfl ?_
           refine fxO 128 hb25 rfl ?_
           refine rn 10 rfl ?_
           refine ln rfl rfl ?_
           refine rn 2 rfl ?_
           refine jK h (fun (p : (List Bool)) => (⟨[(1, (iV a2)), (3, (sV a4)), (9, (V.ptr 0 3 0 0)), (13, (V.ptr 1 6 0 0)), (17, (V.own 2 p.length)), (20, (V.ptr 3 3 0 0)), (21, (bV true)), (86, (V.lst 3 (a5.Hops.map encTHop))), (87, (iV ((a5.Hops.length : Nat) : Int))), (88, (iV n40)), (100, (V.lst 3 (((mget y9.links s39).getD ([] : (List Tprovenderref6_link))).map encTprovenderref6_link))), (101, (iV ((((mget y9.links s39).getD ([] : (List Tprovenderref6_link))).length : Nat) : Int))), (102, (iV n56)), (112, (V.lst 2 (x62.aims.map encTprovenderref6_aim))), (113, (iV ((x62.aims.length : Nat) : Int))), (114, (iV n72)), (125, (iV a2)), (126, (bV (a2 == 1))), (129, (V.con undef)), (130, (V.con undef)), (131, (V.con undef))], [(0, (Ob.arr 51 3 [(encTWitness a5)])), (1, (Ob.arr 78 6 [(encTprovenderref6_net y9)])), (2, (Ob.arr 4 1 (p.map encB))), (3, (Ob.arr 121 3 [(encTHop x46)]))], 4⟩ : St)) (fun k100 p => k100 p = some r) (fun k100 h => ?_) ?_
           ·refine rn 1 rfl ?_
            refine wl (A := a5.Made) 134 rfl (fun hA117 => ?_)
            refine lC (fun (p : Int × (List Bool)) => (⟨[(1, (iV a2)), (3, (sV a4)), (9, (V.ptr 0 3 0 0)), (13, (V.ptr 1 6 0 0)), (17, (V.own 2 (p.2).length)), (20, (V.ptr 3 3 0 0)), (21, (bV true)), (25, (V.ptr 4 2 0 0)), (86, (V.lst 3 (a5.Hops.map encTHop))), (87, (iV ((a5.Hops.length : Nat) : Int))), (88, (iV n40)), (100, (V.lst 3 (((mget y9.links s39).getD ([] : (List Tprovenderref6_link))).map encTprovenderref6_link))), (101, (iV ((((mget y9.links s39).getD ([] : (List Tprovenderref6_link))).length : Nat) : Int))), (102, (iV n56)), (112, (V.lst 2 (x62.aims.map encTprovenderref6_aim))), (113, (iV ((x62.aims.length : Nat) : Int))), (114, (iV n72)), (125, (iV a2)), (126, (bV (a2 == 1))), (129, (V.con undef)), (130, (V.con undef)), (131, (V.con undef)), (134, (V.lst 2 (a5.Made.map encTMadeBy))), (135, (iV ((a5.Made.length : Nat) : Int))), (136, (iV (p.1)))], [(0, (Ob.arr 51 3 [(encTWitness a5)])), (1, (Ob.arr 78 6 [(encTprovenderref6_net y9)])), (2, (Ob.arr 4 1 ((p.2).map encB))), (3, (Ob.arr 121 3 [(encTHop x46)])), (4, (Ob.arr 117 2 [(encTprovenderref6_aim x78)]))], 5⟩ : St)) (fun n p => RG a5.Made (fun tl nn => M28_L6 F x78 k100 tl nn p.2 = some r) n p.1) (fun p h => RG.zero h) (a5.Made.length + 1) (0, l73) (RG.start h) (gr [0, 1, 2, 3, 4] rfl (hB rfl rfl rfl (hB rfl rfl rfl (hR rfl rfl (hB rfl rfl rfl (hB rfl rfl rfl .nil))))) rfl) (fun n p h => ?_)
            obtain ⟨n104, l105⟩ := p
            refine rn 5 rfl ?_
            refine spL rfl (fun hb106 => ?_) (fun hb106 => ?_)
            ·obtain ⟨x109, tl, hx110, h, hk6⟩ := RG.t hA117 h hb106
             unfold M28_L6 at h
             refine rn 2 rfl ?_
             refine jK h (fun (p : (List Bool)) => (⟨[(1, (iV a2)), (3, (sV a4)), (9, (V.ptr 0 3 0 0)), (13, (V.ptr 1 6 0 0)), (17, (V.own 2 p.length)), (20, (V.ptr 3 3 0 0)), (21, (bV true)), (25, (V.ptr 4 2 0 0)), (86, (V.lst 3 (a5.Hops.map encTHop))), (87, (iV ((a5.Hops.length : Nat) : Int))), (88, (iV n40)), (100, (V.lst 3 (((mget y9.links s39).getD ([] : (List Tprovenderref6_link))).map encTprovenderref6_link))), (101, (iV ((((mget y9.links s39).getD ([] : (List Tprovenderref6_link))).length : Nat) : Int))), (102, (iV n56)), (112, (V.lst 2 (x62.aims.map encTprovenderref6_aim))), (113, (iV ((x62.aims.length : Nat) : Int))), (114, (iV n72)), (125, (iV a2)), (126, (bV (a2 == 1))), (129, (V.con undef)), (130, (V.con undef)), (131, (V.con undef)), (134, (V.lst 2 (a5.Made.map encTMadeBy))), (135, (iV ((a5.Made.length : Nat) : Int))), (136, (iV n104))], [(0, (Ob.arr 51 3 [(encTWitness a5)])), (1, (Ob.arr 78 6 [(encTprovenderref6_net y9)])), (2, (Ob.arr 4 1 (p.map encB))), (3, (Ob.arr 121 3 [(encTHop x46)])), (4, (Ob.arr 117 2 [(encTprovenderref6_aim x78)]))], 5⟩ : St)) (fun k107 p => k107 p = some r) (fun k107 h => ?_) ?_
             ·refine rn 4 rfl ?_
              refine ixh hx110 rfl rfl ?_
              refine rn 11 rfl ?_
              refine spO 144 h rfl (fun hb111 h => ?_) (fun hb111 h => ?_)
              ·refine rn 7 rfl ?_
               refine jK h (fun (p : (List Bool)) => (⟨[(1, (iV a2)), (3, (sV a4)), (9, (V.ptr 0 3 0 0)), (13, (V.ptr 1 6 0 0)), (17, (V.own 2 p.length)), (20, (V.ptr 3 3 0 0)), (21, (bV true)), (25, (V.ptr 4 2 0 0)), (86, (V.lst 3 (a5.Hops.map encTHop))), (87, (iV ((a5.Hops.length : Nat) : Int))), (88, (iV n40)), (100, (V.lst 3 (((mget y9.links s39).getD ([] : (List Tprovenderref6_link))).map encTprovenderref6_link))), (101, (iV ((((mget y9.links s39).getD ([] : (List Tprovenderref6_link))).length : Nat) : Int))), (102, (iV n56)), (112, (V.lst 2 (x62.aims.map encTprovenderref6_aim))), (113, (iV ((x62.aims.length : Nat) : Int))), (114, (iV n72)), (125, (iV a2)), (126, (bV (a2 == 1))), (129, (V.con undef)), (130, (V.con undef)), (131, (V.con undef)), (134, (V.lst 2 (a5.Made.map encTMadeBy))), (135, (iV ((a5.Made.length : Nat) : Int))), (136, (iV n104)), (145, (V.ptr 5 2 0 0)), (146, (sV x109.Type_)), (147, (V.ptr 4 2 0 0)), (148, (sV x78.typ)), (149, (bV (x109.Type_ == x78.typ)))], [(0, (Ob.arr 51 3 [(encTWitness a5)])), (1, (Ob.arr 78 6 [(encTprovenderref6_net y9)])), (2, (Ob.arr 4 1 (p.map encB))), (3, (Ob.arr 121 3 [(encTHop x46)])), (4, (Ob.arr 117 2 [(encTprovenderref6_aim x78)])), (5, (Ob.arr 126 2 [(encTMadeBy x109)]))], 6⟩ : St)) (fun k112 p => k112 p = some r) (fun k112 h => ?_) ?_
               ·refine spC h rfl (fun hb114 h => ?_) (fun hb114 h => ?_)
                ·refine rn 4 rfl ?_
                 refine ixo (a := l105) h rfl rfl rfl (fun x115 hx116 h => ?_)
                 refine stS true hx116 rfl rfl rfl rfl rfl rfl ?_
                 refine rn 1 rfl ?_
                 exact jX (l105.set n104.toNat true) h (ghost_ren 6 (fun i => ([0, 1, 2, 3, 4, 5] : List Nat).getD i 0) _ _ (by decide) (EnvSub.get (.cons (Sub.imm (Imm.con _)) (.cons (Sub.imm (Imm.con _)) (.cons (Sub.ptr rfl rfl) (.cons (Sub.ptr rfl rfl) (.cons (Sub.ownE rfl rfl (by simp)) (.cons (Sub.ptr rfl rfl) (.cons (Sub.imm (Imm.con _)) (.cons (Sub.ptr rfl rfl) (.cons (Sub.imm (Imm.lst _ _)) (.cons (Sub.imm (Imm.con _)) (.cons (Sub.imm (Imm.con _)) (.cons (Sub.imm (Imm.lst _ _)) (.cons (Sub.imm (Imm.con _)) (.cons (Sub.imm (Imm.con _)) (.cons (Sub.imm (Imm.lst _ _)) (.cons (Sub.imm (Imm.con _)) (.cons (Sub.imm (Imm.con _)) (.cons (Sub.imm (Imm.con _)) (.cons (Sub.imm (Imm.con _)) (.cons (Sub.imm (Imm.con _)) (.cons (Sub.imm (Imm.con _)) (.cons (Sub.imm (Imm.con _)) (.cons (Sub.imm (Imm.lst _ _)) (.cons (Sub.imm (Imm.con _)) (.cons (Sub.imm (Imm.con _)) (.cons (Sub.ptr rfl rfl) (.cons (Sub.imm (Imm.con _)) (.cons (Sub.ptr rfl rfl) (.cons (Sub.imm (Imm.con _)) (.cons (Sub.imm (Imm.con _)) .nil))))))))))))))))))))))))))))))) (HpSub.get (.cons rfl (ObSub.box (.cons (Sub.imm (Imm.con _)) (.cons (Sub.imm (Imm.lst _ _)) (.cons (Sub.imm (Imm.lst _ _)) .nil)))) (.cons rfl (ObSub.box (.cons (Sub.imm (Imm.lst _ _)) (.cons (Sub.imm (Imm.lst _ _)) (.cons (Sub.imm (Imm.lst _ _)) (.cons (Sub.imm (Imm.lst _ _)) (.cons (Sub.imm (Imm.imap _)) (.cons (Sub.imm (Imm.imap _)) .nil))))))) (.cons rfl (ObSub.rows (rows_imm imms_encB)) (.cons rfl (ObSub.box (.cons (Sub.imm (Imm.con _)) (.cons (Sub.imm (Imm.con _)) (.cons (Sub.imm (Imm.con _)) .nil)))) (.cons rfl (ObSub.box (.cons (Sub.imm (Imm.con _)) (.cons (Sub.imm (Imm.con _)) .nil))) (.cons rfl (ObSub.box (.cons (Sub.imm (Imm.con _)) (.cons (Sub.imm (Imm.con _)) .nil))) .nil))))))) rfl)
                refine rn 1 rfl ?_
                exact jX l105 h (gr [0, 1, 2, 3, 4, 5] rfl (hB rfl rfl rfl (hB rfl rfl rfl (hR rfl rfl (hB rfl rfl rfl (hB rfl rfl rfl (hB rfl rfl rfl .nil)))))) rfl)
               intro l113 h
               refine rn 1 rfl ?_
               exact jX l113 h (gr [0, 1, 2, 3, 4] rfl (hB rfl rfl rfl (hB rfl rfl rfl (hR rfl rfl (hB rfl rfl rfl (hB rfl rfl rfl .nil))))) rfl)
              refine rn 10 rfl ?_
              exact jX l105 h (gr [0, 1, 2, 3, 4] rfl (hB rfl rfl rfl (hB rfl rfl rfl (hR rfl rfl (hB rfl rfl rfl (hB rfl rfl rfl .nil))))) rfl)
             intro l108 h
             refine rn 4 rfl ?_
             exact jX ((w64 (n104 + 1)), l108) (hk6 _ h) (gr [0, 1, 2, 3, 4] rfl (hB rfl rfl rfl (hB rfl rfl rfl (hR rfl rfl (hB rfl rfl rfl (hB rfl rfl rfl .nil))))) rfl)
            replace h := RG.f h hb106
            unfold M28_L6 at h
            refine rn 1 rfl ?_
            exact jX l105 h (gr [0, 1, 2, 3] rfl (hB rfl rfl rfl (hB rfl rfl rfl (hR rfl rfl (hB rfl rfl rfl .nil)))) rfl)
           intro l101 h
           refine rn 1 rfl ?_
           exact jX (true, l101) h (gr [0, 1, 2, 3] rfl (hB rfl rfl rfl (hB rfl rfl rfl (hR rfl rfl (hB rfl rfl rfl .nil)))) rfl)
          rintro ⟨b76, l77⟩ h
          refine rn 4 rfl ?_
          exact jX (b76, (w64 (n72 + 1)), l77) (hk4 _ h) (gr [0, 1, 2, 3] rfl (hB rfl rfl rfl (hB rfl rfl rfl (hR rfl rfl (hB rfl rfl rfl .nil)))) rfl)
         replace h := RG.f h hb74
         unfold M28_L4 at h
         refine rn 1 rfl ?_
         exact jX (b71, l73) h (gr [0, 1, 2, 3] rfl (hB rfl rfl rfl (hB rfl rfl rfl (hR rfl rfl (hB rfl rfl rfl .nil)))) rfl)
        rintro ⟨b66, l67⟩ h
        refine rn 1 rfl ?_
        exact jX (b66, l67) h (gr [0, 1, 2, 3] rfl (hB rfl rfl rfl (hB rfl rfl rfl (hR rfl rfl (hB rfl rfl rfl .nil)))) rfl)
       rintro ⟨b60, l61⟩ h
       refine rn 4 rfl ?_
       exact jX (b60, (w64 (n56 + 1)), l61) (hk3 _ h) (gr [0, 1, 2, 3] rfl (hB rfl rfl rfl (hB rfl rfl rfl (hR rfl rfl (hB rfl rfl rfl .nil)))) rfl)
      replace h := RG.f h hb58
      unfold M28_L3 at h
      refine rn 1 rfl ?_
      exact jX (b55, l57) h (gr [0, 1, 2, 3] rfl (hB rfl rfl rfl (hB rfl rfl rfl (hR rfl rfl (hB rfl rfl rfl .nil)))) rfl)
     rintro ⟨b50, l51⟩ h
     refine rn 6 rfl ?_
     refine spC h rfl (fun hb120 h => ?_) (fun hb120 h => ?_)
     ·refine rn 5 rfl ?_
      exact rt h rfl
     refine rn 7 rfl ?_
     exact jX (x46.To, l51) h (gr [0, 1, 2] rfl (hB rfl rfl rfl (hB rfl rfl rfl (hR rfl rfl .nil))) rfl)
    rintro ⟨s44, l45⟩ h
    refine rn 4 rfl ?_
    exact jX (s44, (w64 (n40 + 1)), l45) (hk2 _ h) (gr [0, 1, 2] rfl (hB rfl rfl rfl (hB rfl rfl rfl (hR rfl rfl .nil))) rfl)
   replace h := RG.f h hb42
   unfold M28_L2 at h
   refine rn 1 rfl ?_
   exact jX (s39, l41) h (gr [2] rfl (hR rfl rfl .nil) rfl)
  rintro ⟨s34, l35⟩ h
  refine rn 7 rfl ?_
  refine jK h (fun _ : Unit => (⟨[(3, (sV a4)), (18, (sV s34))], [], 0⟩ : St)) (fun k122 (_ : Unit) => k122 = some r) (fun k122 h => ?_) ?_
  ·refine rn 1 rfl ?_
   refine wlO (A := l35) 0 rfl (fun hA129 => ?_)
   refine lC (fun (p : Int) => (⟨[(3, (sV a4)), (18, (sV s34)), (162, (V.own 0 l35.length)), (163, (iV ((l35.length : Nat) : Int))), (164, (iV p))], [(0, (Ob.arr 4 1 (l35.map encB)))], 1⟩ : St)) (fun n p => RG l35 (fun tl nn => M28_L7 F k122 tl = some r) n p) (fun p h => RG.zero h) (l35.length + 1) 0 (RG.start h) (gr [0] rfl (hR rfl rfl .nil) rfl) (fun n n124 h => ?_)
   refine rn 5 rfl ?_
   refine spL rfl (fun hb125 => ?_) (fun hb125 => ?_)
   ·obtain ⟨x126, tl, hx127, h, hk7⟩ := RG.t hA129 h hb125
    unfold M28_L7 at h
    refine rn 5 rfl ?_
    refine ixoh (a := l35) hx127 rfl rfl rfl ?_
    refine ldp hx127 rfl rfl rfl rfl ?_
    refine rn 7 rfl ?_
    refine spC h rfl (fun hb128 h => ?_) (fun hb128 h => ?_)
    ·refine rn 5 rfl ?_
     exact rt h rfl
    refine rn 6 rfl ?_
    exact jX (w64 (n124 + 1)) (hk7 _ h) (gr [0] rfl (hR rfl rfl .nil) rfl)
   replace h := RG.f h hb125
   unfold M28_L7 at h
   refine rn 1 rfl ?_
   exact jX () h (g0 rfl rfl)
  intro _ h
  refine rn 8 rfl ?_
  exact rt h rfl
 obtain ⟨y130, hx131, h⟩ := bind_some h
 obtain ⟨y132, hx133, h⟩ := bind_some h
 refine dr mixed (vs 2 rfl (vb hb24 rfl (vs 2 rfl (vb hb25 rfl (vs 10 rfl (cD rfl rfl rfl rfl (W36 _ _ _ _ hx131) rfl (vs 2 rfl (cD rfl rfl rfl rfl (W60 _ _ _ _ _ hx133) rfl (vs 2 rfl .nil))))))))) (by kernel_rfl) ?_
 refine spC h rfl (fun hb134 h => ?_) (fun hb134 h => ?_)
 ·refine rn 5 rfl ?_
  exact rt h rfl
 refine rn 5 rfl ?_
 refine ln rfl rfl ?_
 refine ck h (fun hc135 h => ?_)
 refine aops_makeSlice (ln := (List.replicate (((a5.Made.length : Nat) : Int)).toNat (false : Bool)).length) ((List.replicate (((a5.Made.length : Nat) : Int)).toNat (false : Bool)).map encB) tEl28 tZ4 rfl rfl hc135 List.map_replicate List.length_replicate wants_none rfl rfl ?_
 refine fo (rn 13 rfl ?_)
 refine ln rfl rfl ?_
 refine rn 2 rfl ?_
 refine jK h (fun (p : (List UInt8) × (List Bool)) => (⟨[(3, (sV a4)), (17, (V.own 0 (p.2).length)), (18, (sV (p.1)))], [(0, (Ob.arr 4 1 ((p.2).map encB)))], 1⟩ : St)) (fun k136 p => k136 p.1 p.2 = some r) (fun k136 h => ?_) ?_
 ·refine rn 1 rfl ?_
  refine wl (A := a5.Hops) 86 rfl (fun hA229 => ?_)
  refine lC (fun (p : (List UInt8) × Int × (List Bool)) => (⟨[(1, (iV a2)), (3, (sV a4)), (9, (V.ptr 0 3 0 0)), (13, (V.ptr 1 6 0 0)), (17, (V.own 2 (p.2.2).length)), (18, (sV (p.1))), (86, (V.lst 3 (a5.Hops.map encTHop))), (87, (iV ((a5.Hops.length : Nat) : Int))), (88, (iV (p.2.1)))], [(0, (Ob.arr 51 3 [(encTWitness a5)])), (1, (Ob.arr 78 6 [(encTprovenderref6_net y9)])), (2, (Ob.arr 4 1 ((p.2.2).map encB)))], 3⟩ : St)) (fun n p => RG a5.Hops (fun tl nn => M28_L8 F a5 y9 k136 tl p.1 p.2.2 = some r) n p.2.1) (fun p h => RG.zero h) (a5.Hops.length + 1) (a5.Entry, 0, (List.replicate (((a5.Made.length : Nat) : Int)).toNat (false : Bool))) (RG.start h) (gr [0, 1, 2] rfl (hB rfl rfl rfl (hB rfl rfl rfl (hR rfl rfl .nil))) rfl) (fun n p h => ?_)
  obtain ⟨s142, n143, l144⟩ := p
  refine rn 5 rfl ?_
  refine spL rfl (fun hb145 => ?_) (fun hb145 => ?_)
  ·obtain ⟨x149, tl, hx150, h, hk8⟩ := RG.t hA229 h hb145
   unfold M28_L8 at h
   refine rn 2 rfl ?_
   refine jK h (fun (p : (List UInt8) × (List Bool)) => (⟨[(1, (iV a2)), (3, (sV a4)), (9, (V.ptr 0 3 0 0)), (13, (V.ptr 1 6 0 0)), (17, (V.own 2 (p.2).length)), (18, (sV (p.1))), (86, (V.lst 3 (a5.Hops.map encTHop))), (87, (iV ((a5.Hops.length : Nat) : Int))), (88, (iV n143))], [(0, (Ob.arr 51 3 [(encTWitness a5)])), (1, (Ob.arr 78 6 [(encTprovenderref6_net y9)])), (2, (Ob.arr 4 1 ((p.2).map encB)))], 3⟩ : St)) (fun k146 p => k146 p.1 p.2 = some r) (fun k146 h => ?_) ?_
   ·refine rn 3 rfl ?_
    refine ixh hx150 rfl rfl ?_
    refine rn 13 rfl ?_
    refine spC h rfl (fun hb151 h => ?_) (fun hb151 h => ?_)
    ·refine rn 5 rfl ?_
     exact rt h rfl
    refine rn 11 rfl ?_
    refine aops_lookup _ (V.lst 3 (([] : (List Tprovenderref6_link)).map encTprovenderref6_link)) (V.lst 3 (((mget y9.links s142).getD ([] : (List Tprovenderref6_link))).map encTprovenderref6_link)) tMap75 tKey9 tZo122 (fun _ => .nil _ _ _) wants_none rfl .imm (.con rfl) ⟨_, rfl⟩ encM9_122_good (encM9_122_look y9.links s142) (getD_map (encM9_122_val) (mget y9.links s142) ([] : (List Tprovenderref6_link))) rfl ?_
    refine fo ?_
    refine ln rfl rfl ?_
    refine rn 2 rfl ?_
    refine jK h (fun (p : Bool × (List Bool)) => (⟨[(1, (iV a2)), (3, (sV a4)), (9, (V.ptr 0 3 0 0)), (13, (V.ptr 1 6 0 0)), (17, (V.own 2 (p.2).length)), (20, (V.ptr 3 3 0 0)), (21, (bV (p.1))), (86, (V.lst 3 (a5.Hops.map encTHop))), (87, (iV ((a5.Hops.length : Nat) : Int))), (88, (iV n143))], [(0, (Ob.arr 51 3 [(encTWitness a5)])), (1, (Ob.arr 78 6 [(encTprovenderref6_net y9)])), (2, (Ob.arr 4 1 ((p.2).map encB))), (3, (Ob.arr 121 3 [(encTHop x149)]))], 4⟩ : St)) (fun k152 p => k152 p.1 p.2 = some r) (fun k152 h => ?_) ?_
    ·refine rn 1 rfl ?_
     refine wl (A := ((mget y9.links s142).getD ([] : (List Tprovenderref6_link)))) 100 rfl (fun hA227 => ?_)
     refine lC (fun (p : Bool × Int × (List Bool)) => (⟨[(1, (iV a2)), (3, (sV a4)), (9, (V.ptr 0 3 0 0)), (13, (V.ptr 1 6 0 0)), (17, (V.own 2 (p.2.2).length)), (20, (V.ptr 3 3 0 0)), (21, (bV (p.1))), (86, (V.lst 3 (a5.Hops.map encTHop))), (87, (iV ((a5.Hops.length : Nat) : Int))), (88, (iV n143)), (100, (V.lst 3 (((mget y9.links s142).getD ([] : (List Tprovenderref6_link))).map encTprovenderref6_link))), (101, (iV ((((mget y9.links s142).getD ([] : (List Tprovenderref6_link))).length : Nat) : Int))), (102, (iV (p.2.1)))], [(0, (Ob.arr 51 3 [(encTWitness a5)])), (1, (Ob.arr 78 6 [(encTprovenderref6_net y9)])), (2, (Ob.arr 4 1 ((p.2.2).map encB))), (3, (Ob.arr 121 3 [(encTHop x149)]))], 4⟩ : St)) (fun n p => RG ((mget y9.links s142).getD ([] : (List Tprovenderref6_link))) (fun tl nn => M28_L9 F a5 x149 k152 tl p.1 p.2.2 = some r) n p.2.1) (fun p h => RG.zero h) (((mget y9.links s142).getD ([] : (List Tprovenderref6_link))).length + 1) (false, 0, l144) (RG.start h) (gr [0, 1, 2, 3] rfl (hB rfl rfl rfl (hB rfl rfl rfl (hR rfl rfl (hB rfl rfl rfl .nil)))) rfl) (fun n p h => ?_)
     obtain ⟨b158, n159, l160⟩ := p
     refine rn 5 rfl ?_
     refine spL rfl (fun hb161 => ?_) (fun hb161 => ?_)
     ·obtain ⟨x165, tl, hx166, h, hk9⟩ := RG.t hA227 h hb161
      unfold M28_L9 at h
      refine rn 2 rfl ?_
      refine jK h (fun (p : Bool × (List Bool)) => (⟨[(1, (iV a2)), (3, (sV a4)), (9, (V.ptr 0 3 0 0)), (13, (V.ptr 1 6 0 0)), (17, (V.own 2 (p.2).length)), (20, (V.ptr 3 3 0 0)), (21, (bV (p.1))), (86, (V.lst 3 (a5.Hops.map encTHop))), (87, (iV ((a5.Hops.length : Nat) : Int))), (88, (iV n143)), (100, (V.lst 3 (((mget y9.links s142).getD ([] : (List Tprovenderref6_link))).map encTprovenderref6_link))), (101, (iV ((((mget y9.links s142).getD ([] : (List Tprovenderref6_link))).length : Nat) : Int))), (102, (iV n159))], [(0, (Ob.arr 51 3 [(encTWitness a5)])), (1, (Ob.arr 78 6 [(encTprovenderref6_net y9)])), (2, (Ob.arr 4 1 ((p.2).map encB))), (3, (Ob.arr 121 3 [(encTHop x149)]))], 4⟩ : St)) (fun k162 p => k162 p.1 p.2 = some r) (fun k162 h => ?_) ?_
      ·refine rn 3 rfl ?_
       refine ixh hx166 rfl rfl ?_
       refine rn 11 rfl ?_
       refine aops_eqS true (xs := cv43 x165.site) (ys := cv43 x149.Site) (b := (decide (x165.site = x149.Site))) eqk43 ⟨_, rfl⟩ ⟨_, rfl⟩ (eq_b cv43 _ _ (inj_cv43 _ _)) tEqG43 wants_none rfl rfl rfl ?_
       refine fo (rn 1 rfl ?_)
       refine spC h rfl (fun hb167 h => ?_) (fun hb167 h => ?_)
       ·refine rn 1 rfl ?_
        exact jX (b158, l160) h (gr [0, 1, 2, 3] rfl (hB rfl rfl rfl (hB rfl rfl rfl (hR rfl rfl (hB rfl rfl rfl .nil)))) rfl)
       refine rn 5 rfl ?_
       refine ln rfl rfl ?_
       refine rn 2 rfl ?_
       refine jK h (fun (p : Bool × (List Bool)) => (⟨[(1, (iV a2)), (3, (sV a4)), (9, (V.ptr 0 3 0 0)), (13, (V.ptr 1 6 0 0)), (17, (V.own 2 (p.2).length)), (20, (V.ptr 3 3 0 0)), (21, (bV (p.1))), (86, (V.lst 3 (a5.Hops.map encTHop))), (87, (iV ((a5.Hops.length : Nat) : Int))), (88, (iV n143)), (100, (V.lst 3 (((mget y9.links s142).getD ([] : (List Tprovenderref6_link))).map encTprovenderref6_link))), (101, (iV ((((mget y9.links s142).getD ([] : (List Tprovenderref6_link))).length : Nat) : Int))), (102, (iV n159))], [(0, (Ob.arr 51 3 [(encTWitness a5)])), (1, (Ob.arr 78 6 [(encTprovenderref6_net y9)])), (2, (Ob.arr 4 1 ((p.2).map encB))), (3, (Ob.arr 121 3 [(encTHop x149)]))], 4⟩ : St)) (fun k168 p => k168 p.1 p.2 = some r) (fun k168 h => ?_) ?_
       ·refine rn 1 rfl ?_
        refine wl (A := x165.aims) 112 rfl (fun hA226 => ?_)
        refine lC (fun (p : Bool × Int × (List Bool)) => (⟨[(1, (iV a2)), (3, (sV a4)), (9, (V.ptr 0 3 0 0)), (13, (V.ptr 1 6 0 0)), (17, (V.own 2 (p.2.2).length)), (20, (V.ptr 3 3 0 0)), (21, (bV (p.1))), (86, (V.lst 3 (a5.Hops.map encTHop))), (87, (iV ((a5.Hops.length : Nat) : Int))), (88, (iV n143)), (100, (V.lst 3 (((mget y9.links s142).getD ([] : (List Tprovenderref6_link))).map encTprovenderref6_link))), (101, (iV ((((mget y9.links s142).getD ([] : (List Tprovenderref6_link))).length : Nat) : Int))), (102, (iV n159)), (112, (V.lst 2 (x165.aims.map encTprovenderref6_aim))), (113, (iV ((x165.aims.length : Nat) : Int))), (114, (iV (p.2.1)))], [(0, (Ob.arr 51 3 [(encTWitness a5)])), (1, (Ob.arr 78 6 [(encTprovenderref6_net y9)])), (2, (Ob.arr 4 1 ((p.2.2).map encB))), (3, (Ob.arr 121 3 [(encTHop x149)]))], 4⟩ : St)) (fun n p => RG x165.aims (fun tl nn => M28_L10 F a5 x149 k168 tl p.1 p.2.2 = some r) n p.2.1) (fun p h => RG.zero h) (x165.aims.length + 1) (b158, 0, l160) (RG.start h) (gr [0, 1, 2, 3] rfl (hB rfl rfl rfl (hB rfl rfl rfl (hR rfl rfl (hB rfl rfl rfl .nil)))) rfl) (fun n p h => ?_)
        obtain ⟨b174, n175, l176⟩ := p
        refine rn 5 rfl ?_
        refine spL rfl (fun hb177 => ?_) (fun hb177 => ?_)
        ·obtain ⟨x181, tl, hx182, h, hk10⟩ := RG.t hA226 h hb177
         unfold M28_L10 at h
         refine rn 2 rfl ?_
         refine jK h (fun (p : Bool × (List Bool)) => (⟨[(1, (iV a2)), (3, (sV a4)), (9, (V.ptr 0 3 0 0)), (13, (V.ptr 1 6 0 0)), (17, (V.own 2 (p.2).length)), (20, (V.ptr 3 3 0 0)), (21, (bV (p.1))), (86, (V.lst 3 (a5.Hops.map encTHop))), (87, (iV ((a5.Hops.length : Nat) : Int))), (88, (iV n143)), (100, (V.lst 3 (((mget y9.links s142).getD ([] : (List Tprovenderref6_link))).map encTprovenderref6_link))), (101, (iV ((((mget y9.links s142).getD ([] : (List Tprovenderref6_link))).length : Nat) : Int))), (102, (iV n159)), (112, (V.lst 2 (x165.aims.map encTprovenderref6_aim))), (113, (iV ((x165.aims.length : Nat) : Int))), (114, (iV n175))], [(0, (Ob.arr 51 3 [(encTWitness a5)])), (1, (Ob.arr 78 6 [(encTprovenderref6_net y9)])), (2, (Ob.arr 4 1 ((p.2).map encB))), (3, (Ob.arr 121 3 [(encTHop x149)]))], 4⟩ : St)) (fun k178 p => k178 p.1 p.2 = some r) (fun k178 h => ?_) ?_
         ·refine rn 3 rfl ?_
          refine ixh hx182 rfl rfl ?_
          refine rn 13 rfl ?_
          refine spC h rfl (fun hb183 h => ?_) (fun hb183 h => ?_)
          ·refine rn 1 rfl ?_
           exact jX (b174, l176) h (gr [0, 1, 2, 3] rfl (hB rfl rfl rfl (hB rfl rfl rfl (hR rfl rfl (hB rfl rfl rfl .nil)))) rfl)
          refine rn 5 rfl ?_
          refine spO 124 h rfl (fun hb184 h => ?_) (fun hb184 h => ?_)
          ·refine rn 14 rfl ?_
           refine ln rfl rfl ?_
           refine rn 2 rfl ?_
           refine jK h (fun (p : (List Bool)) => (⟨[(1, (iV a2)), (3, (sV a4)), (9, (V.ptr 0 3 0 0)), (13, (V.ptr 1 6 0 0)), (17, (V.own 2 p.length)), (20, (V.ptr 3 3 0 0)), (21, (bV true)), (86, (V.lst 3 (a5.Hops.map encTHop))), (87, (iV ((a5.Hops.length : Nat) : Int))), (88, (iV n143)), (100, (V.lst 3 (((mget y9.links s142).getD ([] : (List Tprovenderref6_link))).map encTprovenderref6_link))), (101, (iV ((((mget y9.links s142).getD ([] : (List Tprovenderref6_link))).length : Nat) : Int))), (102, (iV n159)), (112, (V.lst 2 (x165.aims.map encTprovenderref6_aim))), (113, (iV ((x165.aims.length : Nat) : Int))), (114, (iV n175)), (125, (V.con undef)), (126, (V.con undef)), (129, (V.con undef)), (130, (V.con undef)), (131, (V.con undef))], [(0, (Ob.arr 51 3 [(encTWitness a5)])), (1, (Ob.arr 78 6 [(encTprovenderref6_net y9)])), (2, (Ob.arr 4 1 (p.map encB))), (3, (Ob.arr 121 3 [(encTHop x149)]))], 4⟩ : St)) (fun k185 p => k185 p = some r) (fun k185 h => ?_) ?_
           ·refine rn 1 rfl ?_
            refine wl (A := a5.Made) 134 rfl (fun hA202 => ?_)
            refine lC (fun (p : Int × (List Bool)) => (⟨[(1, (iV a2)), (3, (sV a4)), (9, (V.ptr 0 3 0 0)), (13, (V.ptr 1 6 0 0)), (17, (V.own 2 (p.2).length)), (20, (V.ptr 3 3 0 0)), (21, (bV true)), (25, (V.ptr 4 2 0 0)), (86, (V.lst 3 (a5.Hops.map encTHop))), (87, (iV ((a5.Hops.length : Nat) : Int))), (88, (iV n143)), (100, (V.lst 3 (((mget y9.links s142).getD ([] : (List Tprovenderref6_link))).map encTprovenderref6_link))), (101, (iV ((((mget y9.links s142).getD ([] : (List Tprovenderref6_link))).length : Nat) : Int))), (102, (iV n159)), (112, (V.lst 2 (x165.aims.map encTprovenderref6_aim))), (113, (iV ((x165.aims.length : Nat) : Int))), (114, (iV n175)), (125, (V.con undef)), (126, (V.con undef)), (129, (V.con undef)), (130, (V.con undef)), (131, (V.con undef)), (134, (V.lst 2 (a5.Made.map encTMadeBy))), (135, (iV ((a5.Made.length : Nat) : Int))), (136, (iV (p.1)))], [(0, (Ob.arr 51 3 [(encTWitness a5)])), (1, (Ob.arr 78 6 [(encTprovenderref6_net y9)])), (2, (Ob.arr 4 1 ((p.2).map encB))), (3, (Ob.arr 121 3 [(encTHop x149)])), (4, (Ob.arr 117 2 [(encTprovenderref6_aim x181)]))], 5⟩ : St)) (fun n p => RG a5.Made (fun tl nn => M28_L11 F x181 k185 tl nn p.2 = some r) n p.1) (fun p h => RG.zero h) (a5.Made.length + 1) (0, l176) (RG.start h) (gr [0, 1, 2, 3, 4] rfl (hB rfl rfl rfl (hB rfl rfl rfl (hR rfl rfl (hB rfl rfl rfl (hB rfl rfl rfl .nil))))) rfl) (fun n p h => ?_)
            obtain ⟨n189, l190⟩ := p
            refine rn 5 rfl ?_
            refine spL rfl (fun hb191 => ?_) (fun hb191 => ?_)
            ·obtain ⟨x194, tl, hx195, h, hk11⟩ := RG.t hA202 h hb191
             unfold M28_L11 at h
             refine rn 2 rfl ?_
             refine jK h (fun (p : (List Bool)) => (⟨[(1, (iV a2)), (3, (sV a4)), (9, (V.ptr 0 3 0 0)), (13, (V.ptr 1 6 0 0)), (17, (V.own 2 p.length)), (20, (V.ptr 3 3 0 0)), (21, (bV true)), (25, (V.ptr 4 2 0 0)), (86, (V.lst 3 (a5.Hops.map encTHop))), (87, (iV ((a5.Hops.length : Nat) : Int))), (88, (iV n143)), (100, (V.lst 3 (((mget y9.links s142).getD ([] : (List Tprovenderref6_link))).map encTprovenderref6_link))), (101, (iV ((((mget y9.links s142).getD ([] : (List Tprovenderref6_link))).length : Nat) : Int))), (102, (iV n159)), (112, (V.lst 2 (x165.aims.map encTprovenderref6_aim))), (113, (iV ((x165.aims.length : Nat) : Int))), (114, (iV n175)), (125, (V.con undef)), (126, (V.con undef)), (129, (V.con undef)), (130, (V.con undef)), (131, (V.con undef)), (134, (V.lst 2 (a5.Made.map encTMadeBy))), (135, (iV ((a5.Made.length : Nat) : Int))), (136, (iV n189))], [(0, (Ob.arr 51 3 [(encTWitness a5)])), (1, (Ob.arr 78 6 [(encTprovenderref6_net y9)])), (2, (Ob.arr 4 1 (p.map encB))), (3, (Ob.arr 121 3 [(encTHop x149)])), (4, (Ob.arr 117 2 [(encTprovenderref6_aim x181)]))], 5⟩ : St)) (fun k192 p => k192 p = some r) (fun k192 h => ?_) ?_
             ·refine rn 4 rfl ?_
              refine ixh hx195 rfl rfl ?_
              refine rn 11 rfl ?_
              refine spO 144 h rfl (fun hb196 h => ?_) (fun hb196 h => ?_)
              ·refine rn 7 rfl ?_
               refine jK h (fun (p : (List Bool)) => (⟨[(1, (iV a2)), (3, (sV a4)), (9, (V.ptr 0 3 0 0)), (13, (V.ptr 1 6 0 0)), (17, (V.own 2 p.length)), (20, (V.ptr 3 3 0 0)), (21, (bV true)), (25, (V.ptr 4 2 0 0)), (86, (V.lst 3 (a5.Hops.map encTHop))), (87, (iV ((a5.Hops.length : Nat) : Int))), (88, (iV n143)), (100, (V.lst 3 (((mget y9.links s142).getD ([] : (List Tprovenderref6_link))).map encTprovenderref6_link))), (101, (iV ((((mget y9.links s142).getD ([] : (List Tprovenderref6_link))).length : Nat) : Int))), (102, (iV n159)), (112, (V.lst 2 (x165.aims.map encTprovenderref6_aim))), (113, (iV ((x165.aims.length : Nat) : Int))), (114, (iV n175)), (125, (V.con undef)), (126, (V.con undef)), (129, (V.con undef)), (130, (V.con undef)), (131, (V.con undef)), (134, (V.lst 2 (a5.Made.map encTMadeBy))), (135, (iV ((a5.Made.length : Nat) : Int))), (136, (iV n189)), (145, (V.ptr 5 2 0 0)), (146, (sV x194.Type_)), (147, (V.ptr 4 2 0 0)), (148, (sV x181.typ)), (149, (bV (x194.Type_ == x181.typ)))], [(0, (Ob.arr 51 3 [(encTWitness a5)])), (1, (Ob.arr 78 6 [(encTprovenderref6_net y9)])), (2, (Ob.arr 4 1 (p.map encB))), (3, (Ob.arr 121 3 [(encTHop x149)])), (4, (Ob.arr 117 2 [(encTprovenderref6_aim x181)])), (5, (Ob.arr 126 2 [(encTMadeBy x194)]))], 6⟩ : St)) (fun k197 p => k197 p = some r) (fun k197 h => ?_) ?_
               ·refine spC h rfl (fun hb199 h => ?_) (fun hb199 h => ?_)
                ·refine rn 4 rfl ?_
                 refine ixo (a := l190) h rfl rfl rfl (fun x200 hx201 h => ?_)
                 refine stS true hx201 rfl rfl rfl rfl rfl rfl ?_
                 refine rn 1 rfl ?_
                 exact jX (l190.set n189.toNat true) h (ghost_ren 6 (fun i => ([0, 1, 2, 3, 4, 5] : List Nat).getD i 0) _ _ (by decide) (EnvSub.get (.cons (Sub.imm (Imm.con _)) (.cons (Sub.imm (Imm.con _)) (.cons (Sub.ptr rfl rfl) (.cons (Sub.ptr rfl rfl) (.cons (Sub.ownE rfl rfl (by simp)) (.cons (Sub.ptr rfl rfl) (.cons (Sub.imm (Imm.con _)) (.cons (Sub.ptr rfl rfl) (.cons (Sub.imm (Imm.lst _ _)) (.cons (Sub.imm (Imm.con _)) (.cons (Sub.imm (Imm.con _)) (.cons (Sub.imm (Imm.lst _ _)) (.cons (Sub.imm (Imm.con _)) (.cons (Sub.imm (Imm.con _)) (.cons (Sub.imm (Imm.lst _ _)) (.cons (Sub.imm (Imm.con _)) (.cons (Sub.imm (Imm.con _)) (.cons (Sub.imm (Imm.con _)) (.cons (Sub.imm (Imm.con _)) (.cons (Sub.imm (Imm.con _)) (.cons (Sub.imm (Imm.con _)) (.cons (Sub.imm (Imm.con _)) (.cons (Sub.imm (Imm.lst _ _)) (.cons (Sub.imm (Imm.con _)) (.cons (Sub.imm (Imm.con _)) (.cons (Sub.ptr rfl rfl) (.cons (Sub.imm (Imm.con _)) (.cons (Sub.ptr rfl rfl) (.cons (Sub.imm (Imm.con _)) (.cons (Sub.imm (Imm.con _)) .nil))))))))))))))))))))))))))))))) (HpSub.get (.cons rfl (ObSub.box (.cons (Sub.imm (Imm.con _)) (.cons (Sub.imm (Imm.lst _ _)) (.cons (Sub.imm (Imm.lst _ _)) .nil)))) (.cons rfl (ObSub.box (.cons (Sub.imm (Imm.lst _ _)) (.cons (Sub.imm (Imm.lst _ _)) (.cons (Sub.imm (Imm.lst _ _)) (.cons (Sub.imm (Imm.lst _ _)) (.cons (Sub.imm (Imm.imap _)) (.cons (Sub.imm (Imm.imap _)) .nil))))))) (.cons rfl (ObSub.rows (rows_imm imms_encB)) (.cons rfl (ObSub.box (.cons (Sub.imm (Imm.con _)) (.cons (Sub.imm (Imm.con _)) (.cons (Sub.imm (Imm.con _)) .nil)))) (.cons rfl (ObSub.box (.cons (Sub.imm (Imm.con _)) (.cons (Sub.imm (Imm.con _)) .nil))) (.cons rfl (ObSub.box (.cons (Sub.imm (Imm.con _)) (.cons (Sub.imm (Imm.con _)) .nil))) .nil))))))) rfl)
                refine rn 1 rfl ?_
                exact jX l190 h (gr [0, 1, 2, 3, 4, 5] rfl (hB rfl rfl rfl (hB rfl rfl rfl (hR rfl rfl (hB rfl rfl rfl (hB rfl rfl rfl (hB rfl rfl rfl .nil)))))) rfl)
               intro l198 h
               refine rn 1 rfl ?_
               exact jX l198 h (gr [0, 1, 2, 3, 4] rfl (hB rfl rfl rfl (hB rfl rfl rfl (hR rfl rfl (hB rfl rfl rfl (hB rfl rfl rfl .nil))))) rfl)
              refine rn 10 rfl ?_
              exact jX l190 h (gr [0, 1, 2, 3, 4] rfl (hB rfl rfl rfl (hB rfl rfl rfl (hR rfl rfl (hB rfl rfl rfl (hB rfl rfl rfl .nil))))) rfl)
             intro l193 h
             refine rn 4 rfl ?_
             exact jX ((w64 (n189 + 1)), l193) (hk11 _ h) (gr [0, 1, 2, 3, 4] rfl (hB rfl rfl rfl (hB rfl rfl rfl (hR rfl rfl (hB rfl rfl rfl (hB rfl rfl rfl .nil))))) rfl)
            replace h := RG.f h hb191
            unfold M28_L11 at h
            refine rn 1 rfl ?_
            exact jX l190 h (gr [0, 1, 2, 3] rfl (hB rfl rfl rfl (hB rfl rfl rfl (hR rfl rfl (hB rfl rfl rfl .nil)))) rfl)
           intro l186 h
           refine rn 1 rfl ?_
           exact jX (true, l186) h (gr [0, 1, 2, 3] rfl (hB rfl rfl rfl (hB rfl rfl rfl (hR rfl rfl (hB rfl rfl rfl .nil)))) rfl)
          refine rn 4 rfl ?_
          refine fxO 128 hb25 rfl ?_
          refine rn 10 rfl ?_
          refine ln rfl rfl ?_
          refine rn 2 rfl ?_
          refine jK h (fun (p : Bool × (List Bool)) => (⟨[(1, (iV a2)), (3, (sV a4)), (9, (V.ptr 0 3 0 0)), (13, (V.ptr 1 6 0 0)), (17, (V.own 2 (p.2).length)), (20, (V.ptr 3 3 0 0)), (21, (bV (p.1))), (86, (V.lst 3 (a5.Hops.map encTHop))), (87, (iV ((a5.Hops.length : Nat) : Int))), (88, (iV n143)), (100, (V.lst 3 (((mget y9.links s142).getD ([] : (List Tprovenderref6_link))).map encTprovenderref6_link))), (101, (iV ((((mget y9.links s142).getD ([] : (List Tprovenderref6_link))).length : Nat) : Int))), (102, (iV n159)), (112, (V.lst 2 (x165.aims.map encTprovenderref6_aim))), (113, (iV ((x165.aims.length : Nat) : Int))), (114, (iV n175)), (125, (iV a2)), (126, (bV (a2 == 1))), (129, (V.ptr 4 2 0 0)), (130, (sV x181.typ)), (131, (bV (x181.typ == ([] : List UInt8))))], [(0, (Ob.arr 51 3 [(encTWitness a5)])), (1, (Ob.arr 78 6 [(encTprovenderref6_net y9)])), (2, (Ob.arr 4 1 ((p.2).map encB))), (3, (Ob.arr 121 3 [(encTHop x149)])), (4, (Ob.arr 117 2 [(encTprovenderref6_aim x181)]))], 5⟩ : St)) (fun k203 p => k203 p.1 p.2 = some r) (fun k203 h => ?_) ?_
          ·refine rn 1 rfl ?_
           refine wl (A := a5.Made) 134 rfl (fun hA225 => ?_)
           refine lC (fun (p : Bool × Int × (List Bool)) => (⟨[(1, (iV a2)), (3, (sV a4)), (9, (V.ptr 0 3 0 0)), (13, (V.ptr 1 6 0 0)), (17, (V.own 2 (p.2.2).length)), (20, (V.ptr 3 3 0 0)), (21, (bV (p.1))), (25, (V.ptr 4 2 0 0)), (86, (V.lst 3 (a5.Hops.map encTHop))), (87, (iV ((a5.Hops.length : Nat) : Int))), (88, (iV n143)), (100, (V.lst 3 (((mget y9.links s142).getD ([] : (List Tprovenderref6_link))).map encTprovenderref6_link))), (101, (iV ((((mget y9.links s142).getD ([] : (List Tprovenderref6_link))).length : Nat) : Int))), (102, (iV n159)), (112, (V.lst 2 (x165.aims.map encTprovenderref6_aim))), (113, (iV ((x165.aims.length : Nat) : Int))), (114, (iV n175)), (125, (iV a2)), (126, (bV (a2 == 1))), (129, (V.ptr 4 2 0 0)), (130, (sV x181.typ)), (131, (bV (x181.typ == ([] : List UInt8)))), (134, (V.lst 2 (a5.Made.map encTMadeBy))), (135, (iV ((a5.Made.length : Nat) : Int))), (136, (iV (p.2.1)))], [(0, (Ob.arr 51 3 [(encTWitness a5)])), (1, (Ob.arr 78 6 [(encTprovenderref6_net y9)])), (2, (Ob.arr 4 1 ((p.2.2).map encB))), (3, (Ob.arr 121 3 [(encTHop x149)])), (4, (Ob.arr 117 2 [(encTprovenderref6_aim x181)]))], 5⟩ : St)) (fun n p => RG a5.Made (fun tl nn => M28_L12 F x181 k203 tl nn p.1 p.2.2 = some r) n p.2.1) (fun p h => RG.zero h) (a5.Made.length + 1) ((x181.typ == ([] : List UInt8)), 0, l176) (RG.start h) (gr [0, 1, 2, 3, 4] rfl (hB rfl rfl rfl (hB rfl rfl rfl (hR rfl rfl (hB rfl rfl rfl (hB rfl rfl rfl .nil))))) rfl) (fun n p h => ?_)
           obtain ⟨b209, n210, l211⟩ := p
           refine rn 5 rfl ?_
           refine spL rfl (fun hb212 => ?_) (fun hb212 => ?_)
           ·obtain ⟨x216, tl, hx217, h, hk12⟩ := RG.t hA225 h hb212
            unfold M28_L12 at h
            refine rn 2 rfl ?_
            refine jK h (fun (p : Bool × (List Bool)) => (⟨[(1, (iV a2)), (3, (sV a4)), (9, (V.ptr 0 3 0 0)), (13, (V.ptr 1 6 0 0)), (17, (V.own 2 (p.2).length)), (20, (V.ptr 3 3 0 0)), (21, (bV (p.1))), (25, (V.ptr 4 2 0 0)), (86, (V.lst 3 (a5.Hops.map encTHop))), (87, (iV ((a5.Hops.length : Nat) : Int))), (88, (iV n143)), (100, (V.lst 3 (((mget y9.links s142).getD ([] : (List Tprovenderref6_link))).map encTprovenderref6_link))), (101, (iV ((((mget y9.links s142).getD ([] : (List Tprovenderref6_link))).length : Nat) : Int))), (102, (iV n159)), (112, (V.lst 2 (x165.aims.map encTprovenderref6_aim))), (113, (iV ((x165.aims.length : Nat) : Int))), (114, (iV n175)), (125, (iV a2)), (126, (bV (a2 == 1))), (129, (V.ptr 4 2 0 0)), (130, (sV x181.typ)), (131, (bV (x181.typ == ([] : List UInt8)))), (134, (V.lst 2 (a5.Made.map encTMadeBy))), (135, (iV ((a5.Made.length : Nat) : Int))), (136, (iV n210))], [(0, (Ob.arr 51 3 [(encTWitness a5)])), (1, (Ob.arr 78 6 [(encTprovenderref6_net y9)])), (2, (Ob.arr 4 1 ((p.2).map encB))), (3, (Ob.arr 121 3 [(encTHop x149)])), (4, (Ob.arr 117 2 [(encTprovenderref6_aim x181)]))], 5⟩ : St)) (fun k213 p => k213 p.1 p.2 = some r) (fun k213 h => ?_) ?_
            ·refine rn 4 rfl ?_
             refine ixh hx217 rfl rfl ?_
             refine rn 11 rfl ?_
             refine spO 144 h rfl (fun hb218 h => ?_) (fun hb218 h => ?_)
             ·refine rn 7 rfl ?_
              refine jK h (fun (p : Bool × (List Bool)) => (⟨[(1, (iV a2)), (3, (sV a4)), (9, (V.ptr 0 3 0 0)), (13, (V.ptr 1 6 0 0)), (17, (V.own 2 (p.2).length)), (20, (V.ptr 3 3 0 0)), (21, (bV (p.1))), (25, (V.ptr 4 2 0 0)), (86, (V.lst 3 (a5.Hops.map encTHop))), (87, (iV ((a5.Hops.length : Nat) : Int))), (88, (iV n143)), (100, (V.lst 3 (((mget y9.links s142).getD ([] : (List Tprovenderref6_link))).map encTprovenderref6_link))), (101, (iV ((((mget y9.links s142).getD ([] : (List Tprovenderref6_link))).length : Nat) : Int))), (102, (iV n159)), (112, (V.lst 2 (x165.aims.map encTprovenderref6_aim))), (113, (iV ((x165.aims.length : Nat) : Int))), (114, (iV n175)), (125, (iV a2)), (126, (bV (a2 == 1))), (129, (V.ptr 4 2 0 0)), (130, (sV x181.typ)), (131, (bV (x181.typ == ([] : List UInt8)))), (134, (V.lst 2 (a5.Made.map encTMadeBy))), (135, (iV ((a5.Made.length : Nat) : Int))), (136, (iV n210)), (145, (V.ptr 5 2 0 0)), (146, (sV x216.Type_)), (147, (V.ptr 4 2 0 0)), (148, (sV x181.typ)), (149, (bV (x216.Type_ == x181.typ)))], [(0, (Ob.arr 51 3 [(encTWitness a5)])), (1, (Ob.arr 78 6 [(encTprovenderref6_net y9)])), (2, (Ob.arr 4 1 ((p.2).map encB))), (3, (Ob.arr 121 3 [(encTHop x149)])), (4, (Ob.arr 117 2 [(encTprovenderref6_aim x181)])), (5, (Ob.arr 126 2 [(encTMadeBy x216)]))], 6⟩ : St)) (fun k219 p => k219 p.1 p.2 = some r) (fun k219 h => ?_) ?_
              ·refine spC h rfl (fun hb222 h => ?_) (fun hb222 h => ?_)
               ·refine rn 4 rfl ?_
                refine ixo (a := l211) h rfl rfl rfl (fun x223 hx224 h => ?_)
                refine stS true hx224 rfl rfl rfl rfl rfl rfl ?_
                refine rn 1 rfl ?_
                exact jX (true, (l211.set n210.toNat true)) h (ghost_ren 6 (fun i => ([0, 1, 2, 3, 4, 5] : List Nat).getD i 0) _ _ (by decide) (EnvSub.get (.cons (Sub.imm (Imm.con _)) (.cons (Sub.imm (Imm.con _)) (.cons (Sub.ptr rfl rfl) (.cons (Sub.ptr rfl rfl) (.cons (Sub.ownE rfl rfl (by simp)) (.cons (Sub.ptr rfl rfl) (.cons (Sub.imm (Imm.con _)) (.cons (Sub.ptr rfl rfl) (.cons (Sub.imm (Imm.lst _ _)) (.cons (Sub.imm (Imm.con _)) (.cons (Sub.imm (Imm.con _)) (.cons (Sub.imm (Imm.lst _ _)) (.cons (Sub.imm (Imm.con _)) (.cons (Sub.imm (Imm.con _)) (.cons (Sub.imm (Imm.lst _ _)) (.cons (Sub.imm (Imm.con _)) (.cons (Sub.imm (Imm.con _)) (.cons (Sub.imm (Imm.con _)) (.cons (Sub.imm (Imm.con _)) (.cons (Sub.ptr rfl rfl) (.cons (Sub.imm (Imm.con _)) (.cons (Sub.imm (Imm.con _)) (.cons (Sub.imm (Imm.lst _ _)) (.cons (Sub.imm (Imm.con _)) (.cons (Sub.imm (Imm.con _)) (.cons (Sub.ptr rfl rfl) (.cons (Sub.imm (Imm.con _)) (.cons (Sub.ptr rfl rfl) (.cons (Sub.imm (Imm.con _)) (.cons (Sub.imm (Imm.con _)) .nil))))))))))))))))))))))))))))))) (HpSub.get (.cons rfl (ObSub.box (.cons (Sub.imm (Imm.con _)) (.cons (Sub.imm (Imm.lst _ _)) (.cons (Sub.imm (Imm.lst _ _)) .nil)))) (.cons rfl (ObSub.box (.cons (Sub.imm (Imm.lst _ _)) (.cons (Sub.imm (Imm.lst _ _)) (.cons (Sub.imm (Imm.lst _ _)) (.cons (Sub.imm (Imm.lst _ _)) (.cons (Sub.imm (Imm.imap _)) (.cons (Sub.imm (Imm.imap _)) .nil))))))) (.cons rfl (ObSub.rows (rows_imm imms_encB)) (.cons rfl (ObSub.box (.cons (Sub.imm (Imm.con _)) (.cons (Sub.imm (Imm.con _)) (.cons (Sub.imm (Imm.con _)) .nil)))) (.cons rfl (ObSub.box (.cons (Sub.imm (Imm.con _)) (.cons (Sub.imm (Imm.con _)) .nil))) (.cons rfl (ObSub.box (.cons (Sub.imm (Imm.con _)) (.cons (Sub.imm (Imm.con _)) .nil))) .nil))))))) rfl)
               refine rn 1 rfl ?_
               exact jX (b209, l211) h (gr [0, 1, 2, 3, 4, 5] rfl (hB rfl rfl rfl (hB rfl rfl rfl (hR rfl rfl (hB rfl rfl rfl (hB rfl rfl rfl (hB rfl rfl rfl .nil)))))) rfl)
              rintro ⟨b220, l221⟩ h
              refine rn 1 rfl ?_
              exact jX (b220, l221) h (gr [0, 1, 2, 3, 4] rfl (hB rfl rfl rfl (hB rfl rfl rfl (hR rfl rfl (hB rfl rfl rfl (hB rfl rfl rfl .nil))))) rfl)
             refine rn 10 rfl ?_
             exact jX (b209, l211) h (gr [0, 1, 2, 3, 4] rfl (hB rfl rfl rfl (hB rfl rfl rfl (hR rfl rfl (hB rfl rfl rfl (hB rfl rfl rfl .nil))))) rfl)
            rintro ⟨b214, l215⟩ h
            refine rn 4 rfl ?_
            exact jX (b214, (w64 (n210 + 1)), l215) (hk12 _ h) (gr [0, 1, 2, 3, 4] rfl (hB rfl rfl rfl (hB rfl rfl rfl (hR rfl rfl (hB rfl rfl rfl (hB rfl rfl rfl .nil))))) rfl)
           replace h := RG.f h hb212
           unfold M28_L12 at h
           refine rn 1 rfl ?_
           exact jX (b209, l211) h (gr [0, 1, 2, 3, 4] rfl (hB rfl rfl rfl (hB rfl rfl rfl (hR rfl rfl (hB rfl rfl rfl (hB rfl rfl rfl .nil))))) rfl)
          rintro ⟨b204, l205⟩ h
          refine rn 1 rfl ?_
          exact jX (b204, l205) h (gr [0, 1, 2, 3] rfl (hB rfl rfl rfl (hB rfl rfl rfl (hR rfl rfl (hB rfl rfl rfl .nil)))) rfl)
         rintro ⟨b179, l180⟩ h
         refine rn 4 rfl ?_
         exact jX (b179, (w64 (n175 + 1)), l180) (hk10 _ h) (gr [0, 1, 2, 3] rfl (hB rfl rfl rfl (hB rfl rfl rfl (hR rfl rfl (hB rfl rfl rfl .nil)))) rfl)
        replace h := RG.f h hb177
        unfold M28_L10 at h
        refine rn 1 rfl ?_
        exact jX (b174, l176) h (gr [0, 1, 2, 3] rfl (hB rfl rfl rfl (hB rfl rfl rfl (hR rfl rfl (hB rfl rfl rfl .nil)))) rfl)
       rintro ⟨b169, l170⟩ h
       refine rn 1 rfl ?_
       exact jX (b169, l170) h (gr [0, 1, 2, 3] rfl (hB rfl rfl rfl (hB rfl rfl rfl (hR rfl rfl (hB rfl rfl rfl .nil)))) rfl)
      rintro ⟨b163, l164⟩ h
      refine rn 4 rfl ?_
      exact jX (b163, (w64 (n159 + 1)), l164) (hk9 _ h) (gr [0, 1, 2, 3] rfl (hB rfl rfl rfl (hB rfl rfl rfl (hR rfl rfl (hB rfl rfl rfl .nil)))) rfl)
     replace h := RG.f h hb161
     unfold M28_L9 at h
     refine rn 1 rfl ?_
     exact jX (b158, l160) h (gr [0, 1, 2, 3] rfl (hB rfl rfl rfl (hB rfl rfl rfl (hR rfl rfl (hB rfl rfl rfl .nil)))) rfl)
    rintro ⟨b153, l154⟩ h
    refine rn 6 rfl ?_
    refine spC h rfl (fun hb228 h => ?_) (fun hb228 h => ?_)
    ·refine rn 5 rfl ?_
     exact rt h rfl
    refine rn 7 rfl ?_
    exact jX (x149.To, l154) h (gr [0, 1, 2] rfl (hB rfl rfl rfl (hB rfl rfl rfl (hR rfl rfl .nil))) rfl)
   rintro ⟨s147, l148⟩ h
   refine rn 4 rfl ?_
   exact jX (s147, (w64 (n143 + 1)), l148) (hk8 _ h) (gr [0, 1, 2] rfl (hB rfl rfl rfl (hB rfl rfl rfl (hR rfl rfl .nil))) rfl)
  replace h := RG.f h hb145
  unfold M28_L8 at h
  refine rn 1 rfl ?_
  exact jX (s142, l144) h (gr [2] rfl (hR rfl rfl .nil) rfl)
 rintro ⟨s137, l138⟩ h
 refine rn 7 rfl ?_
 refine jK h (fun _ : Unit => (⟨[(3, (sV a4)), (18, (sV s137))], [], 0⟩ : St)) (fun k230 (_ : Unit) => k230 = some r) (fun k230 h => ?_) ?_
 ·refine rn 1 rfl ?_
  refine wlO (A := l138) 0 rfl (fun hA237 => ?_)
  refine lC (fun (p : Int) => (⟨[(3, (sV a4)), (18, (sV s137)), (162, (V.own 0 l138.length)), (163, (iV ((l138.length : Nat) : Int))), (164, (iV p))], [(0, (Ob.arr 4 1 (l138.map encB)))], 1⟩ : St)) (fun n p => RG l138 (fun tl nn => M28_L13 F k230 tl = some r) n p) (fun p h => RG.zero h) (l138.length + 1) 0 (RG.start h) (gr [0] rfl (hR rfl rfl .nil) rfl) (fun n n232 h => ?_)
  refine rn 5 rfl ?_
  refine spL rfl (fun hb233 => ?_) (fun hb233 => ?_)
  ·obtain ⟨x234, tl, hx235, h, hk13⟩ := RG.t hA237 h hb233
   unfold M28_L13 at h
   refine rn 5 rfl ?_
   refine ixoh (a := l138) hx235 rfl rfl rfl ?_
   refine ldp hx235 rfl rfl rfl rfl ?_
   refine rn 7 rfl ?_
   refine spC h rfl (fun hb236 h => ?_) (fun hb236 h => ?_)
   ·refine rn 5 rfl ?_
    exact rt h rfl
   refine rn 6 rfl ?_
   exact jX (w64 (n232 + 1)) (hk13 _ h) (gr [0] rfl (hR rfl rfl .nil) rfl)
  replace h := RG.f h hb233
  unfold M28_L13 at h
  refine rn 1 rfl ?_
  exact jX () h (g0 rfl rfl)
 intro _ h
 refine rn 8 rfl ?_
 exact rt h rfl
theorem W7 (F : Nat) (a1 : TGraph) (a2 : Int) (a3 : (List (List UInt8))) (a4 : (List UInt8)) (a5 : TWitness) (r : Bool) (h : M7 F a1 a2 a3 a4 a5 = some r) : Pure Try.prog 7 [(V.agg (encTGraph a1)), (iV a2), (V.lst 1 (a3.map encS)), (sV a4), (V.agg (encTWitness a5))] (bV r) := by
 refine pin (fun r => (bV r)) r rfl Try.func7 rfl rfl rfl rfl rfl (fun w0 m0 hg => ?_)
 unfold M7 at h
 refine rn 13 rfl ?_
 refine cl h rfl rfl rfl (W27 _ _ _ _ _ _) rfl (fun y6 hx7 h => ?_)
 refine rn 13 rfl ?_
 refine cl h rfl rfl rfl (W28 _ _ _ _ _ _) rfl (fun y8 hx9 h => ?_)
 refine rn 13 rfl ?_
 refine spO 38 h rfl (fun hb10 h => ?_) (fun hb10 h => ?_)
 ·refine rn 10 rfl ?_
  exact rt h rfl
 refine rn 5 rfl ?_
 refine spC h rfl (fun hb11 h => ?_) (fun hb11 h => ?_)
 ·refine rn 4 rfl ?_
  exact rt h rfl
 refine rn 6 rfl ?_
 refine jK h (fun _ : Unit => (⟨[], [], 0⟩ : St)) (fun k12 (_ : Unit) => k12 = some r) (fun k12 h => ?_) ?_
 ·refine spC h rfl (fun hb13 h => ?_) (fun hb13 h => ?_)
  ·refine rn 5 rfl ?_
   refine cl h rfl rfl rfl (W9 _ _ _ _) rfl (fun y14 hx15 h => ?_)
   refine rn 11 rfl ?_
   refine spO 53 h rfl (fun hb16 h => ?_) (fun hb16 h => ?_)
   ·refine rn 11 rfl ?_
    exact rt h rfl
   refine rn 2 rfl ?_
   refine cl h rfl rfl rfl (W16 _ _ _) rfl (fun y17 hx18 h => ?_)
   refine rn 3 rfl ?_
   refine spC h rfl (fun hb19 h => ?_) (fun hb19 h => ?_)
   ·refine rn 4 rfl ?_
    exact rt h rfl
   refine rn 1 rfl ?_
   exact jX () h (g0 rfl rfl)
  refine rn 1 rfl ?_
  exact jX () h (g0 rfl rfl)
 intro _ h
 refine rn 2 rfl ?_
 refine cl h rfl rfl rfl (W11 _) rfl (fun y20 hx21 h => ?_)
 refine rn 2 rfl ?_
 exact rt h rfl
end Go.Proofs.Ytpbkggamiipdmaa
