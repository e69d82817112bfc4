/- Part of the proof: R6W8a. -/
import Derived.Test.YtpbkggamiipdmaaC8R6Ord
import Derived.Test.YtpbkggamiipdmaaC8R6W3a
import Derived.Test.YtpbkggamiipdmaaC8R6W6a
import Derived.KernelRfl
namespace Go.Proofs.Ytpbkggamiipdmaa
open Go Go.Pv
set_option linter.unusedVariables false
set_option maxRecDepth 100000
theorem W119 (F : Nat) (a1 : TIface) (a2 : List UInt8) (a3 : List UInt8) (r : Bool) (h : M119 F a1 a2 a3 = some r) : Pure Try.prog 119 [(V.agg (encTIface a1)), (V.iptr [(sV a2)] 0), (V.iptr [(sV a3)] 0)] (bV r) := by
 refine pin (fun r => (bV r)) r rfl Try.func119 rfl rfl rfl rfl rfl (fun w0 m0 hg => ?_)
 unfold M119 at h
 refine rn 12 rfl ?_
 refine spO 9 h rfl (fun hb4 h => ?_) (fun hb4 h => ?_)
 ·refine rn 3 rfl ?_
  refine cl h rfl rfl rfl (W16 _ _ _) rfl (fun y5 hx6 h => ?_)
  refine rn 3 rfl ?_
  exact rt h rfl
 refine rn 7 rfl ?_
 exact rt h rfl
theorem W47_1 (F : Nat) (a1 : (List TIface)) (a2 : List UInt8) (a3 : List UInt8) (r : Int) (h : M47_1 F a1 a2 a3 = some r) : Pure Try.prog 47 [(V.lst 2 (a1.map encTIface)), (V.fn (.func 119) [] [(V.iptr [(sV a2)] 0), (V.iptr [(sV a3)] 0)])] (iV r) := by
 refine pin (fun r => (iV r)) r rfl Try.func47 rfl rfl rfl rfl rfl (fun w0 m0 hg => ?_)
 unfold M47_1 at h
 refine rn 8 rfl ?_
 refine ln rfl rfl ?_
 refine rn 2 rfl ?_
 refine jK h (fun _ : Unit => (⟨[], [], 0⟩ : St)) (fun k4 (_ : Unit) => k4 = some r) (fun k4 h => ?_) ?_
 ·refine rn 1 rfl ?_
  refine wl (A := a1) 0 rfl (fun hA13 => ?_)
  refine lC (fun (p : Int) => (⟨[(0, (V.lst 2 (a1.map encTIface))), (1, (V.fn (.func 119) [] [(V.iptr [(sV a2)] 0), (V.iptr [(sV a3)] 0)])), (7, (iV ((a1.length : Nat) : Int))), (8, (iV p))], [], 0⟩ : St)) (fun n p => RG a1 (fun tl nn => M47_1_L1 F a2 a3 k4 tl nn = some r) n p) (fun p h => RG.zero h) (a1.length + 1) 0 (RG.start h) (g0 rfl rfl) (fun n n6 h => ?_)
  refine rn 5 rfl ?_
  refine spL rfl (fun hb7 => ?_) (fun hb7 => ?_)
  ·obtain ⟨x8, tl, hx9, h, hk1⟩ := RG.t hA13 h hb7
   unfold M47_1_L1 at h
   refine rn 13 rfl ?_
   refine ixh hx9 rfl rfl ?_
   refine rn 1 rfl ?_
   refine cl h rfl rfl rfl (W119 _ _ _ _) rfl (fun y10 hx11 h => ?_)
   refine rn 1 rfl ?_
   refine spC h rfl (fun hb12 h => ?_) (fun hb12 h => ?_)
   ·refine rn 5 rfl ?_
    exact rt h rfl
   refine rn 6 rfl ?_
   exact jX (w64 (n6 + 1)) (hk1 _ h) (g0 rfl rfl)
  replace h := RG.f h hb7
  unfold M47_1_L1 at h
  refine rn 1 rfl ?_
  exact jX () h (g0 rfl rfl)
 intro _ h
 refine rn 4 rfl ?_
 exact rt h rfl
theorem W118 (F : Nat) (a1 : (List TIface)) (a2 : List UInt8) (a3 : List UInt8) (r : Bool) (h : M118 F a1 a2 a3 = some r) : Pure Try.prog 118 [(V.lst 2 (a1.map encTIface)), (V.fn (.func 119) [] [(V.iptr [(sV a2)] 0), (V.iptr [(sV a3)] 0)])] (bV r) := by
 refine pin (fun r => (bV r)) r rfl Try.func118 rfl rfl rfl rfl rfl (fun w0 m0 hg => ?_)
 unfold M118 at h
 refine rn 8 rfl ?_
 refine cl h rfl rfl rfl (W47_1 _ _ _ _) rfl (fun y4 hx5 h => ?_)
 refine rn 3 rfl ?_
 exact rt h rfl
theorem W90 (F : Nat) (a1 : Treach_world) (a2 : (List UInt8)) (a3 : (List UInt8)) (r : Bool) (h : M90 F a1 a2 a3 = some r) : Pure Try.prog 90 [(V.iptr (encTreach_world a1) 0), (sV a2), (sV a3)] (bV r) := by
 refine pin (fun r => (bV r)) r rfl Try.func90 rfl rfl rfl rfl rfl (fun w0 m0 hg => ?_)
 unfold M90 at h
 obtain ⟨y4, hx5, h⟩ := bind_some h
 refine rn 14 rfl ?_
 refine aops_lend_call (bV y4) [(V.lst 2 (a1.g.Ifaces.map encTIface)), (V.fn (.func 119) [] [(V.iptr [(sV a2)] 0), (V.iptr [(sV a3)] 0)])] fOk118 (Ghost.trans (ghost_frzV 0 12 (V.fn (.func 119) [] [(V.iptr [(sV a2)] 0), (V.ptr 1 1 0 0)]) rfl (imms_rows (.cons (.cons (Imm.con _) .nil) .nil)) rfl (Sub.fnc (.cons (Sub.frzptr rfl) (.cons Sub.keep .nil)))) (ghost_frzV 1 12 (V.fn (.func 119) [] [(V.iptr [(sV a2)] 0), (V.iptr [(sV a3)] 0)]) rfl (imms_rows (.cons (.cons (Imm.con _) .nil) .nil)) rfl (Sub.fnc (.cons Sub.keep (.cons (Sub.frzptr rfl) .nil))))) (Flat.con _) wants_none (evm_cons rfl (evm_cons rfl evm_nil)) (.cons (Imm.lst _ _) (.cons (Imm.fn .nil (.cons (Imm.iptr _ _) (.cons (Imm.iptr _ _) .nil))) .nil)) (W118 F a1.g.Ifaces a2 a3 y4 hx5) rfl ?_
 refine fo (rn 2 rfl ?_)
 exact rt h rfl
theorem W61 (F : Nat) (a1 : Treach_world) (a2 : TSummary) (a3 : (List ((List UInt8) × TSummary))) (r : Int) (h : M61 F a1 a2 a3 = some r) : Pure Try.prog 61 [(V.iptr (encTreach_world a1) 0), (V.agg (encTSummary a2)), (V.imap (a3.map encM9_131))] (iV r) := by
 refine pin (fun r => (iV r)) r rfl Try.func61 rfl rfl rfl rfl rfl (fun w0 m0 hg => ?_)
 unfold M61 at h
 refine rn 10 rfl ?_
 refine aops_buildSlice [(0, (sV a2.Func))] [[(sV a2.Func)]] tEl25 tZ9 rfl rfl rfl rfl wants_none (evp_cons rfl evp_nil) rfl rfl (by simp) rfl ?_
 refine fo (rn 2 rfl ?_)
 refine apL encS h rfl rfl rfl (by simp) rfl (fun h => ?_)
 refine rn 3 rfl ?_
 refine jK h (fun _ : Unit => (⟨[(0, (V.iptr (encTreach_world a1) 0)), (2, (V.imap (a3.map encM9_131))), (4, (V.ptr 0 3 0 0))], [(0, (Ob.arr 131 3 [(encTSummary a2)]))], 1⟩ : St)) (fun k5 (_ : Unit) => k5 = some r) (fun k5 h => ?_) ?_
 ·refine rn 1 rfl ?_
  refine wlO (A := (([a2.Func] : List (List UInt8)) ++ a2.Within)) 2 rfl (fun hA12 => ?_)
  refine lC (fun (p : Int) => (⟨[(0, (V.iptr (encTreach_world a1) 0)), (2, (V.imap (a3.map encM9_131))), (4, (V.ptr 0 3 0 0)), (22, (V.own 1 (([a2.Func] : List (List UInt8)) ++ a2.Within).length)), (23, (iV (((([a2.Func] : List (List UInt8)) ++ a2.Within).length : Nat) : Int))), (24, (iV p))], [(0, (Ob.arr 131 3 [(encTSummary a2)])), (1, (Ob.arr 9 1 ((([a2.Func] : List (List UInt8)) ++ a2.Within).map encS)))], 2⟩ : St)) (fun n p => RG (([a2.Func] : List (List UInt8)) ++ a2.Within) (fun tl nn => M61_L1 F a1 k5 tl = some r) n p) (fun p h => RG.zero h) ((([a2.Func] : List (List UInt8)) ++ a2.Within).length + 1) 0 (RG.start h) (gr [0, 2] rfl (hB rfl rfl rfl (hR rfl rfl .nil)) rfl) (fun n n7 h => ?_)
  refine rn 5 rfl ?_
  refine spL rfl (fun hb8 => ?_) (fun hb8 => ?_)
  ·obtain ⟨x9, tl, hx10, h, hk1⟩ := RG.t hA12 h hb8
   unfold M61_L1 at h
   refine rn 5 rfl ?_
   refine ixoh (a := (([a2.Func] : List (List UInt8)) ++ a2.Within)) hx10 rfl rfl rfl ?_
   refine ldp hx10 rfl rfl rfl rfl ?_
   refine rn 9 rfl ?_
   refine aops_lookup_okB _ (iV 0) (iV ((mget a1.funcs x9).getD 0)) tMap85 tKey9 tZo3 (irel_con _) wants_none rfl .imm (.con rfl) ⟨_, rfl⟩ encM9_3_good (encM9_3_look a1.funcs x9) (getD_map (encM9_3_val) (mget a1.funcs x9) 0) (isSome_map ..) rfl ?_
   refine fo (rn 11 rfl ?_)
   refine spC h rfl (fun hb11 h => ?_) (fun hb11 h => ?_)
   ·refine rn 4 rfl ?_
    exact rt h rfl
   refine rn 6 rfl ?_
   exact jX (w64 (n7 + 1)) (hk1 _ h) (gr [0, 1] rfl (hB rfl rfl rfl (hR rfl rfl .nil)) rfl)
  replace h := RG.f h hb8
  unfold M61_L1 at h
  refine rn 1 rfl ?_
  exact jX () h (gr [0] rfl (hB rfl rfl rfl .nil) rfl)
 intro _ h
 refine rn 5 rfl ?_
 refine ln rfl rfl ?_
 refine rn 2 rfl ?_
 refine jK h (fun _ : Unit => (⟨[(2, (V.imap (a3.map encM9_131))), (4, (V.ptr 0 3 0 0))], [(0, (Ob.arr 131 3 [(encTSummary a2)]))], 1⟩ : St)) (fun k13 (_ : Unit) => k13 = some r) (fun k13 h => ?_) ?_
 ·refine rn 1 rfl ?_
  refine wl (A := a2.Outer) 41 rfl (fun hA36 => ?_)
  refine lC (fun (p : Int) => (⟨[(0, (V.iptr (encTreach_world a1) 0)), (2, (V.imap (a3.map encM9_131))), (4, (V.ptr 0 3 0 0)), (41, (V.lst 2 (a2.Outer.map encTOuter))), (42, (iV ((a2.Outer.length : Nat) : Int))), (43, (iV p))], [(0, (Ob.arr 131 3 [(encTSummary a2)]))], 1⟩ : St)) (fun n p => RG a2.Outer (fun tl nn => M61_L2 F a1 k13 tl = some r) n p) (fun p h => RG.zero h) (a2.Outer.length + 1) 0 (RG.start h) (gr [0] rfl (hB rfl rfl rfl .nil) rfl) (fun n n15 h => ?_)
  refine rn 5 rfl ?_
  refine spL rfl (fun hb16 => ?_) (fun hb16 => ?_)
  ·obtain ⟨x24, tl, hx25, h, hk2⟩ := RG.t hA36 h hb16
   unfold M61_L2 at h
   refine rn 2 rfl ?_
   refine jK h (fun (p : (List UInt8) × Bool × Bool × Bool × (List UInt8) × (List UInt8)) => (⟨[(0, (V.iptr (encTreach_world a1) 0)), (2, (V.imap (a3.map encM9_131))), (4, (V.ptr 0 3 0 0)), (41, (V.lst 2 (a2.Outer.map encTOuter))), (42, (iV ((a2.Outer.length : Nat) : Int))), (43, (iV n15)), (65, (V.ptr 1 2 0 1)), (66, (sV (p.1))), (67, (bV (p.2.1))), (68, (bV (p.2.2.1))), (76, (bV (p.2.2.2.1)))], [(0, (Ob.arr 131 3 [(encTSummary a2)])), (1, (Ob.arr 146 2 [[(sV (p.2.2.2.2.1)), (sV (p.2.2.2.2.2))]]))], 2⟩ : St)) (fun k17 p => k17 p.1 p.2.1 p.2.2.1 p.2.2.2.1 p.2.2.2.2.1 p.2.2.2.2.2 = some r) (fun k17 h => ?_) ?_
   ·refine rn 3 rfl ?_
    refine ixh hx25 rfl rfl ?_
    refine rn 5 rfl ?_
    refine dr mixed (vs 6 rfl (xD (OD.mk [(51, (V.imap (a1.funcs.map encM9_3))), (53, (sV x24.Target))] [] [(54, (V.tup [(iV ((mget a1.funcs x24.Target).getD 0)), (bV ((mget a1.funcs x24.Target).isSome))]))] []) ⟨⟨rfl, rfl, trivial⟩, trivial⟩ (by exact fun S hn h hh => aops_lookup_okB _ (iV 0) (iV ((mget a1.funcs x24.Target).getD 0)) tMap85 tKey9 tZo3 (irel_con _) wants_none h.1 .imm (.con h.2.1) ⟨_, rfl⟩ encM9_3_good (encM9_3_look a1.funcs x24.Target) (getD_map (encM9_3_val) (mget a1.funcs x24.Target) 0) (isSome_map ..) rfl (aops_nil ⟨rfl, rfl⟩)) rfl (vs 5 rfl .nil))) (by kernel_rfl) ?_
    refine rn 6 rfl ?_
    refine spO 60 h rfl (fun hb26 h => ?_) (fun hb26 h => ?_)
    ·refine rn 4 rfl ?_
     refine spO 64 h rfl (fun hb27 h => ?_) (fun hb27 h => ?_)
     ·refine rn 19 rfl ?_
      exact rt h rfl
     refine rn 4 rfl ?_
     refine spO 68 h rfl (fun hb28 h => ?_) (fun hb28 h => ?_)
     ·refine rn 5 rfl ?_
      refine cl h rfl rfl rfl (W90 _ _ _ _) rfl (fun y29 hx30 h => ?_)
      refine rn 4 rfl ?_
      refine spC h rfl (fun hb31 h => ?_) (fun hb31 h => ?_)
      ·refine rn 4 rfl ?_
       exact rt h rfl
      refine rn 2 rfl ?_
      exact jX (x24.Method, (!(x24.Method == ([] : List UInt8))), true, (!y29), x24.Target, x24.Method) h (gr [0, 1] rfl (hB rfl rfl rfl (hB rfl rfl rfl .nil)) rfl)
     refine rn 13 rfl ?_
     exact jX (x24.Method, (!(x24.Method == ([] : List UInt8))), false, false, x24.Target, x24.Method) h (gr [0, 1] rfl (hB rfl rfl rfl (hB rfl rfl rfl .nil)) rfl)
    refine rn 8 rfl ?_
    refine spO 68 h rfl (fun hb32 h => ?_) (fun hb32 h => ?_)
    ·refine rn 5 rfl ?_
     refine cl h rfl rfl rfl (W90 _ _ _ _) rfl (fun y33 hx34 h => ?_)
     refine rn 4 rfl ?_
     refine spC h rfl (fun hb35 h => ?_) (fun hb35 h => ?_)
     ·refine rn 4 rfl ?_
      exact rt h rfl
     refine rn 2 rfl ?_
     exact jX (x24.Method, (!(x24.Method == ([] : List UInt8))), true, (!y33), x24.Target, x24.Method) h (gr [0, 1] rfl (hB rfl rfl rfl (hB rfl rfl rfl .nil)) rfl)
    refine rn 13 rfl ?_
    exact jX (x24.Method, (!(x24.Method == ([] : List UInt8))), false, false, x24.Target, x24.Method) h (gr [0, 1] rfl (hB rfl rfl rfl (hB rfl rfl rfl .nil)) rfl)
   rintro ⟨s18, b19, b20, b21, s22, s23⟩ h
   refine rn 4 rfl ?_
   exact jX (w64 (n15 + 1)) (hk2 _ h) (gr [0] rfl (hB rfl rfl rfl .nil) rfl)
  replace h := RG.f h hb16
  unfold M61_L2 at h
  refine rn 1 rfl ?_
  exact jX () h (gr [0] rfl (hB rfl rfl rfl .nil) rfl)
 intro _ h
 refine rn 6 rfl ?_
 refine aops_lookup_okB _ (V.agg [(sV ([] : List UInt8)), (V.lst 1 (([] : List (List UInt8)).map encS)), (V.lst 2 (([] : List TOuter).map encTOuter))]) (V.agg (encTSummary ((mget a3 a2.Func).getD (TSummary.mk ([] : List UInt8) ([] : (List (List UInt8))) ([] : (List TOuter)))))) tMap127 tKey9 tZo131 (irel_aggZ (.con (.sl (.sl .nil)))) wants_none rfl .imm (.con rfl) ⟨_, rfl⟩ encM9_131_good (encM9_131_look a3 a2.Func) (getD_map (encM9_131_val) (mget a3 a2.Func) (TSummary.mk ([] : List UInt8) ([] : (List (List UInt8))) ([] : (List TOuter)))) (isSome_map ..) rfl ?_
 refine fo (rn 11 rfl ?_)
 refine spC h rfl (fun hb37 h => ?_) (fun hb37 h => ?_)
 ·refine rn 4 rfl ?_
  exact rt h rfl
 refine rn 5 rfl ?_
 exact rt h rfl
theorem W62 (F : Nat) (a1 : Treach_world) (a2 : Int) (a3 : (List ((List UInt8) × TSummary))) (r : (List Int)) (h : M62 F a1 a2 a3 = some r) : Pure Try.prog 62 [(V.iptr (encTreach_world a1) 0), (iV a2), (V.imap (a3.map encM9_131))] (V.lst 1 (r.map encI_i64)) := by
 refine pin (fun r => (V.lst 1 (r.map encI_i64))) r rfl Try.func62 rfl rfl rfl rfl rfl (fun w0 m0 hg => ?_)
 unfold M62 at h
 refine rn 17 rfl ?_
 refine ixl h rfl rfl (fun x4 hx5 h => ?_)
 refine rn 2 rfl ?_
 refine aops_lookup_okB _ (V.agg [(sV ([] : List UInt8)), (V.lst 1 (([] : List (List UInt8)).map encS)), (V.lst 2 (([] : List TOuter).map encTOuter))]) (V.agg (encTSummary ((mget a3 x4.Name).getD (TSummary.mk ([] : List UInt8) ([] : (List (List UInt8))) ([] : (List TOuter)))))) tMap127 tKey9 tZo131 (irel_aggZ (.con (.sl (.sl .nil)))) wants_none rfl .imm (.con rfl) ⟨_, rfl⟩ encM9_131_good (encM9_131_look a3 x4.Name) (getD_map (encM9_131_val) (mget a3 x4.Name) (TSummary.mk ([] : List UInt8) ([] : (List (List UInt8))) ([] : (List TOuter)))) (isSome_map ..) rfl ?_
 refine fo (rn 13 rfl ?_)
 refine spC h rfl (fun hb6 h => ?_) (fun hb6 h => ?_)
 ·refine rn 9 rfl ?_
  refine ixl h rfl rfl (fun x7 hx8 h => ?_)
  refine rn 2 rfl ?_
  refine ln rfl rfl ?_
  refine rn 2 rfl ?_
  refine jK h (fun (p : (List Int)) => (⟨[(7, (V.own 0 p.length))], [(0, (Ob.arr 3 1 (p.map encI_i64)))], 1⟩ : St)) (fun k9 p => k9 p = some r) (fun k9 h => ?_) ?_
  ·refine rn 1 rfl ?_
   refine wl (A := x7.Calls) 41 rfl (fun hA24 => ?_)
   refine lC (fun (p : Int × (List Int)) => (⟨[(0, (V.iptr (encTreach_world a1) 0)), (7, (V.own 0 (p.2).length)), (41, (V.lst 4 (x7.Calls.map encTCall))), (42, (iV ((x7.Calls.length : Nat) : Int))), (43, (iV (p.1)))], [(0, (Ob.arr 3 1 ((p.2).map encI_i64)))], 1⟩ : St)) (fun n p => RG x7.Calls (fun tl nn => M62_L1 F a1 k9 tl p.2 = some r) n p.1) (fun p h => RG.zero h) (x7.Calls.length + 1) (0, ([] : List Int)) (RG.start h) (Ghost.trans (ghost_nilE 7 3 1 rfl) (ghost_ren 1 (fun i => ([1] : List Nat).getD i 0) _ _ (by decide) (EnvSub.get (.cons (Sub.imm (Imm.iptr _ _)) (.cons (Sub.ownE rfl rfl (by simp)) (.cons (Sub.imm (Imm.lst _ _)) (.cons (Sub.imm (Imm.con _)) (.cons (Sub.imm (Imm.con _)) .nil)))))) (HpSub.get (.cons rfl (ObSub.rows (rows_imm imms_encI_i64)) .nil)) rfl)) (fun n p h => ?_)
   obtain ⟨n13, l14⟩ := p
   refine rn 5 rfl ?_
   refine spL rfl (fun hb15 => ?_) (fun hb15 => ?_)
   ·obtain ⟨x16, tl, hx17, h, hk1⟩ := RG.t hA24 h hb15
    unfold M62_L1 at h
    refine rn 5 rfl ?_
    refine ixh hx17 rfl rfl ?_
    refine rn 5 rfl ?_
    refine dr mixed (vs 6 rfl (xD (OD.mk [(50, (V.imap (a1.on.map encM9_4))), (52, (sV x16.Feature))] [] [(53, (bV ((mget a1.on x16.Feature).getD false)))] []) ⟨⟨rfl, rfl, trivial⟩, trivial⟩ (by exact fun S hn h hh => aops_lookup _ (bV false) (bV ((mget a1.on x16.Feature).getD false)) tMap72 tKey9 tZo4 (irel_con _) wants_none h.1 .imm (.con h.2.1) ⟨_, rfl⟩ encM9_4_good (encM9_4_look a1.on x16.Feature) (getD_map (encM9_4_val) (mget a1.on x16.Feature) false) rfl (aops_nil ⟨rfl, rfl⟩)) rfl .nil)) (by kernel_rfl) ?_
    refine jK h (fun (p : (List Int)) => (⟨[(0, (V.iptr (encTreach_world a1) 0)), (7, (V.own 0 p.length)), (41, (V.lst 4 (x7.Calls.map encTCall))), (42, (iV ((x7.Calls.length : Nat) : Int))), (43, (iV n13))], [(0, (Ob.arr 3 1 (p.map encI_i64)))], 1⟩ : St)) (fun k18 p => k18 p = some r) (fun k18 h => ?_) ?_
    ·refine spC h rfl (fun hb20 h => ?_) (fun hb20 h => ?_)
     ·refine rn 4 rfl ?_
      refine cl h rfl rfl rfl (W56 _ _ _) rfl (fun y21 hx22 h => ?_)
      refine apL encI_i64 h rfl rfl rfl rfl rfl (fun h => ?_)
      refine rn 2 rfl ?_
      exact jX (l14 ++ y21) h (gr [2] rfl (hR rfl rfl .nil) rfl)
     refine rn 1 rfl ?_
     exact jX l14 h (gr [0] rfl (hR rfl rfl .nil) rfl)
    intro l19 h
    refine rn 5 rfl ?_
    exact jX ((w64 (n13 + 1)), l19) (hk1 _ h) (gr [0] rfl (hR rfl rfl .nil) rfl)
   replace h := RG.f h hb15
   unfold M62_L1 at h
   refine rn 1 rfl ?_
   exact jX l14 h (gr [0] rfl (hR rfl rfl .nil) rfl)
  intro l10 h
  refine rn 5 rfl ?_
  refine awp_ghost (ghost_frzEs 0 [6, 7, 60] rfl (rows_imm imms_encI_i64) (List.forall_mem_cons.2 ⟨rfl, (List.forall_mem_cons.2 ⟨rfl, (List.forall_mem_cons.2 ⟨rfl, (fun _ hx => nomatch hx)⟩)⟩)⟩) (List.length_map ..).symm) ?_
  refine fa ?_
  exact rt h rfl
 refine rn 6 rfl ?_
 refine ln rfl rfl ?_
 refine rn 2 rfl ?_
 refine jK h (fun (p : (List Int)) => (⟨[(0, (V.iptr (encTreach_world a1) 0)), (7, (V.own 0 p.length)), (8, (V.ptr 1 3 0 0))], [(0, (Ob.arr 3 1 (p.map encI_i64))), (1, (Ob.arr 131 3 [(encTSummary ((mget a3 x4.Name).getD (TSummary.mk ([] : List UInt8) ([] : (List (List UInt8))) ([] : (List TOuter)))))]))], 2⟩ : St)) (fun k25 p => k25 p = some r) (fun k25 h => ?_) ?_
 ·refine rn 1 rfl ?_
  refine wl (A := ((mget a3 x4.Name).getD (TSummary.mk ([] : List UInt8) ([] : (List (List UInt8))) ([] : (List TOuter)))).Within) 62 rfl (fun hA35 => ?_)
  refine lC (fun (p : Int × (List Int)) => (⟨[(0, (V.iptr (encTreach_world a1) 0)), (7, (V.own 0 (p.2).length)), (8, (V.ptr 1 3 0 0)), (62, (V.lst 1 (((mget a3 x4.Name).getD (TSummary.mk ([] : List UInt8) ([] : (List (List UInt8))) ([] : (List TOuter)))).Within.map encS))), (63, (iV ((((mget a3 x4.Name).getD (TSummary.mk ([] : List UInt8) ([] : (List (List UInt8))) ([] : (List TOuter)))).Within.length : Nat) : Int))), (64, (iV (p.1)))], [(0, (Ob.arr 3 1 ((p.2).map encI_i64))), (1, (Ob.arr 131 3 [(encTSummary ((mget a3 x4.Name).getD (TSummary.mk ([] : List UInt8) ([] : (List (List UInt8))) ([] : (List TOuter)))))]))], 2⟩ : St)) (fun n p => RG (((mget a3 x4.Name).getD (TSummary.mk ([] : List UInt8) ([] : (List (List UInt8))) ([] : (List TOuter)))).Within) (fun tl nn => M62_L2 F a1 k25 tl p.2 = some r) n p.1) (fun p h => RG.zero h) ((((mget a3 x4.Name).getD (TSummary.mk ([] : List UInt8) ([] : (List (List UInt8))) ([] : (List TOuter)))).Within).length + 1) (0, ([] : List Int)) (RG.start h) (Ghost.trans (ghost_nilE 7 3 1 rfl) (ghost_ren 2 (fun i => ([1, 0] : List Nat).getD i 0) _ _ (by decide) (EnvSub.get (.cons (Sub.imm (Imm.iptr _ _)) (.cons (Sub.ownE rfl rfl (by simp)) (.cons (Sub.ptr rfl rfl) (.cons (Sub.imm (Imm.lst _ _)) (.cons (Sub.imm (Imm.con _)) (.cons (Sub.imm (Imm.con _)) .nil))))))) (HpSub.get (.cons rfl (ObSub.rows (rows_imm imms_encI_i64)) (.cons rfl (ObSub.box (.cons (Sub.imm (Imm.con _)) (.cons (Sub.imm (Imm.lst _ _)) (.cons (Sub.imm (Imm.lst _ _)) .nil)))) .nil))) rfl)) (fun n p h => ?_)
  obtain ⟨n29, l30⟩ := p
  refine rn 5 rfl ?_
  refine spL rfl (fun hb31 => ?_) (fun hb31 => ?_)
  ·obtain ⟨x32, tl, hx33, h, hk2⟩ := RG.t hA35 h hb31
   unfold M62_L2 at h
   refine rn 5 rfl ?_
   refine ixh hx33 rfl rfl ?_
   refine rn 10 rfl ?_
   refine aops_lookup _ (iV 0) (iV ((mget a1.funcs x32).getD 0)) tMap85 tKey9 tZo3 (irel_con _) wants_none rfl .imm (.con rfl) ⟨_, rfl⟩ encM9_3_good (encM9_3_look a1.funcs x32) (getD_map (encM9_3_val) (mget a1.funcs x32) 0) rfl ?_
   refine aops_buildSlice [(0, (iV ((mget a1.funcs x32).getD 0)))] [[(iV ((mget a1.funcs x32).getD 0))]] tEl62 tZ3 rfl rfl rfl rfl wants_none (evp_cons rfl evp_nil) rfl rfl (by simp) rfl ?_
   refine fo ?_
   refine apO encI_i64 h rfl rfl rfl rfl rfl rfl rfl rfl (fun h => ?_)
   refine rn 7 rfl ?_
   exact jX ((w64 (n29 + 1)), (l30 ++ ([((mget a1.funcs x32).getD 0)] : List Int))) (hk2 _ h) (gr [3, 1] rfl (hR rfl rfl (hB rfl rfl rfl .nil)) rfl)
  replace h := RG.f h hb31
  unfold M62_L2 at h
  refine rn 1 rfl ?_
  exact jX l30 h (gr [0, 1] rfl (hR rfl rfl (hB rfl rfl rfl .nil)) rfl)
 intro l26 h
 refine rn 5 rfl ?_
 refine ln rfl rfl ?_
 refine rn 2 rfl ?_
 refine jK h (fun (p : (List Int)) => (⟨[(7, (V.own 0 p.length))], [(0, (Ob.arr 3 1 (p.map encI_i64)))], 1⟩ : St)) (fun k36 p => k36 p = some r) (fun k36 h => ?_) ?_
 ·refine rn 1 rfl ?_
  refine wl (A := ((mget a3 x4.Name).getD (TSummary.mk ([] : List UInt8) ([] : (List (List UInt8))) ([] : (List TOuter)))).Outer) 79 rfl (fun hA51 => ?_)
  refine lC (fun (p : Int × (List Int)) => (⟨[(0, (V.iptr (encTreach_world a1) 0)), (7, (V.own 0 (p.2).length)), (79, (V.lst 2 (((mget a3 x4.Name).getD (TSummary.mk ([] : List UInt8) ([] : (List (List UInt8))) ([] : (List TOuter)))).Outer.map encTOuter))), (80, (iV ((((mget a3 x4.Name).getD (TSummary.mk ([] : List UInt8) ([] : (List (List UInt8))) ([] : (List TOuter)))).Outer.length : Nat) : Int))), (81, (iV (p.1)))], [(0, (Ob.arr 3 1 ((p.2).map encI_i64)))], 1⟩ : St)) (fun n p => RG (((mget a3 x4.Name).getD (TSummary.mk ([] : List UInt8) ([] : (List (List UInt8))) ([] : (List TOuter)))).Outer) (fun tl nn => M62_L3 F a1 k36 tl p.2 = some r) n p.1) (fun p h => RG.zero h) ((((mget a3 x4.Name).getD (TSummary.mk ([] : List UInt8) ([] : (List (List UInt8))) ([] : (List TOuter)))).Outer).length + 1) (0, l26) (RG.start h) (gr [0] rfl (hR rfl rfl .nil) rfl) (fun n p h => ?_)
  obtain ⟨n40, l41⟩ := p
  refine rn 5 rfl ?_
  refine spL rfl (fun hb42 => ?_) (fun hb42 => ?_)
  ·obtain ⟨x43, tl, hx44, h, hk3⟩ := RG.t hA51 h hb42
   unfold M62_L3 at h
   refine rn 5 rfl ?_
   refine ixh hx44 rfl rfl ?_
   refine rn 21 rfl ?_
   refine jK h (fun (p : Int) => (⟨[(0, (V.iptr (encTreach_world a1) 0)), (7, (V.own 0 l41.length)), (16, (V.ptr 1 4 0 0)), (79, (V.lst 2 (((mget a3 x4.Name).getD (TSummary.mk ([] : List UInt8) ([] : (List (List UInt8))) ([] : (List TOuter)))).Outer.map encTOuter))), (80, (iV ((((mget a3 x4.Name).getD (TSummary.mk ([] : List UInt8) ([] : (List (List UInt8))) ([] : (List TOuter)))).Outer.length : Nat) : Int))), (81, (iV n40))], [(0, (Ob.arr 3 1 (l41.map encI_i64))), (1, (Ob.arr 82 4 [[(iV p), (sV x43.Target), (sV x43.Method), (sV ([] : List UInt8))]]))], 2⟩ : St)) (fun k45 p => k45 p = some r) (fun k45 h => ?_) ?_
   ·refine spC h rfl (fun hb47 h => ?_) (fun hb47 h => ?_)
    ·refine rn 4 rfl ?_
     exact jX 2 h (gr [0, 2] rfl (hR rfl rfl (hB rfl rfl rfl .nil)) rfl)
    refine rn 1 rfl ?_
    exact jX 1 h (gr [0, 2] rfl (hR rfl rfl (hB rfl rfl rfl .nil)) rfl)
   intro n46 h
   refine rn 4 rfl ?_
   refine cl h rfl rfl rfl (W56 _ _ _) rfl (fun y48 hx49 h => ?_)
   refine apL encI_i64 h rfl rfl rfl rfl rfl (fun h => ?_)
   refine rn 7 rfl ?_
   exact jX ((w64 (n40 + 1)), (l41 ++ y48)) (hk3 _ h) (gr [2] rfl (hR rfl rfl .nil) rfl)
  replace h := RG.f h hb42
  unfold M62_L3 at h
  refine rn 1 rfl ?_
  exact jX l41 h (gr [0] rfl (hR rfl rfl .nil) rfl)
 intro l37 h
 refine rn 5 rfl ?_
 refine awp_ghost (ghost_frzEs 0 [6, 7, 100] rfl (rows_imm imms_encI_i64) (List.forall_mem_cons.2 ⟨rfl, (List.forall_mem_cons.2 ⟨rfl, (List.forall_mem_cons.2 ⟨rfl, (fun _ hx => nomatch hx)⟩)⟩)⟩) (List.length_map ..).symm) ?_
 refine fa ?_
 exact rt h rfl
theorem W29 (F : Nat) (a1 : TGraph) (a2 : (List (List UInt8))) (a3 : (List (List TSummary))) (r : ((List (List UInt8)) × Int)) (h : M29 F a1 a2 a3 = some r) : Pure Try.prog 29 [(V.agg (encTGraph a1)), (V.lst 1 (a2.map encS)), (V.lst 1 (a3.map encL131))] (V.tup [(V.lst 1 ((r.1).map encS)), (iV (r.2))]) := by
 refine pin (fun r => (V.tup [(V.lst 1 ((r.1).map encS)), (iV (r.2))])) r rfl Try.func29 rfl rfl rfl rfl rfl (fun w0 m0 hg => ?_)
 unfold M29 at h
 refine rn 10 rfl ?_
 refine cl h rfl rfl rfl (W31 _ _ _ _) rfl (fun y4 hx5 h => ?_)
 refine rn 12 rfl ?_
 refine spC h rfl (fun hb6 h => ?_) (fun hb6 h => ?_)
 ·refine rn 6 rfl ?_
  exact rt h rfl
 refine rn 10 rfl ?_
 refine ln rfl rfl ?_
 refine rn 2 rfl ?_
 refine jK h (fun (p : (List TIface) × (List TType) × (List TFunc) × (List (List UInt8)) × (List ((List UInt8) × Int)) × (List ((List UInt8) × Int)) × (List ((List UInt8) × (List Int))) × (List ((List UInt8) × Bool)) × Bool × (List ((List UInt8) × TSummary))) => (⟨[(3, (V.ptr 0 4 0 0)), (8, (V.iptr [(V.lst 2 ((p.1).map encTIface)), (V.lst 2 ((p.2.1).map encTType)), (V.lst 4 ((p.2.2.1).map encTFunc)), (V.lst 1 ((p.2.2.2.1).map encS)), (V.imap ((p.2.2.2.2.1).map encM9_3)), (V.imap ((p.2.2.2.2.2.1).map encM9_3)), (V.imap ((p.2.2.2.2.2.2.1).map encM9_62)), (V.imap ((p.2.2.2.2.2.2.2.1).map encM9_4)), (bV (p.2.2.2.2.2.2.2.2.1))] 0)), (10, (V.map 1))], [(0, (Ob.arr 27 4 [(encTGraph a1)])), (1, (Ob.map ((p.2.2.2.2.2.2.2.2.2).map encM9_131)))], 2⟩ : St)) (fun k7 p => k7 p.1 p.2.1 p.2.2.1 p.2.2.2.1 p.2.2.2.2.1 p.2.2.2.2.2.1 p.2.2.2.2.2.2.1 p.2.2.2.2.2.2.2.1 p.2.2.2.2.2.2.2.2.1 p.2.2.2.2.2.2.2.2.2 = some r) (fun k7 h => ?_) ?_
 ·obtain ⟨x18, hx19, h⟩ := bind_some h
  refine rn 1 rfl ?_
  refine opC 8 hx19 rfl ?_
  refine wl (A := a3) 2 rfl (fun hA42 => ?_)
  refine lC (fun (p : Int × (List ((List UInt8) × TSummary))) => (⟨[(3, (V.ptr 0 4 0 0)), (8, (V.iptr (encTreach_world x18) 0)), (10, (V.map 1)), (34, (V.lst 1 (a3.map encL131))), (35, (iV ((a3.length : Nat) : Int))), (36, (iV (p.1)))], [(0, (Ob.arr 27 4 [(encTGraph a1)])), (1, (Ob.map ((p.2).map encM9_131)))], 2⟩ : St)) (fun n p => RG a3 (fun tl nn => M29_L1 F x18 k7 tl p.2 = some r) n p.1) (fun p h => RG.zero h) (a3.length + 1) (0, ([] : List ((List UInt8) × TSummary))) (RG.start h) (gr [0, 1] rfl (hB rfl rfl rfl (hM rfl rfl .nil)) rfl) (fun n p h => ?_)
  obtain ⟨n22, m23⟩ := p
  refine rn 5 rfl ?_
  refine spL rfl (fun hb24 => ?_) (fun hb24 => ?_)
  ·obtain ⟨x27, tl, hx28, h, hk1⟩ := RG.t hA42 h hb24
   unfold M29_L1 at h
   refine rn 2 rfl ?_
   refine jK h (fun (p : (List ((List UInt8) × TSummary))) => (⟨[(3, (V.ptr 0 4 0 0)), (8, (V.iptr (encTreach_world x18) 0)), (10, (V.map 1)), (34, (V.lst 1 (a3.map encL131))), (35, (iV ((a3.length : Nat) : Int))), (36, (iV n22))], [(0, (Ob.arr 27 4 [(encTGraph a1)])), (1, (Ob.map (p.map encM9_131)))], 2⟩ : St)) (fun k25 p => k25 p = some r) (fun k25 h => ?_) ?_
   ·refine rn 3 rfl ?_
    refine ixh hx28 rfl rfl ?_
    refine rn 6 rfl ?_
    refine ln rfl rfl ?_
    refine rn 2 rfl ?_
    refine jK h (fun (p : (List ((List UInt8) × TSummary))) => (⟨[(3, (V.ptr 0 4 0 0)), (8, (V.iptr (encTreach_world x18) 0)), (10, (V.map 1)), (34, (V.lst 1 (a3.map encL131))), (35, (iV ((a3.length : Nat) : Int))), (36, (iV n22))], [(0, (Ob.arr 27 4 [(encTGraph a1)])), (1, (Ob.map (p.map encM9_131)))], 2⟩ : St)) (fun k29 p => k29 p = some r) (fun k29 h => ?_) ?_
    ·refine rn 1 rfl ?_
     refine wl (A := x27) 39 rfl (fun hA41 => ?_)
     refine lC (fun (p : Int × (List ((List UInt8) × TSummary))) => (⟨[(3, (V.ptr 0 4 0 0)), (8, (V.iptr (encTreach_world x18) 0)), (10, (V.map 1)), (34, (V.lst 1 (a3.map encL131))), (35, (iV ((a3.length : Nat) : Int))), (36, (iV n22)), (40, (V.lst 3 (x27.map encTSummary))), (41, (iV ((x27.length : Nat) : Int))), (42, (iV (p.1)))], [(0, (Ob.arr 27 4 [(encTGraph a1)])), (1, (Ob.map ((p.2).map encM9_131)))], 2⟩ : St)) (fun n p => RG x27 (fun tl nn => M29_L2 F x18 k29 tl p.2 = some r) n p.1) (fun p h => RG.zero h) (x27.length + 1) (0, m23) (RG.start h) (gr [0, 1] rfl (hB rfl rfl rfl (hM rfl rfl .nil)) rfl) (fun n p h => ?_)
     obtain ⟨n33, m34⟩ := p
     refine rn 5 rfl ?_
     refine spL rfl (fun hb35 => ?_) (fun hb35 => ?_)
     ·obtain ⟨x36, tl, hx37, h, hk2⟩ := RG.t hA41 h hb35
      unfold M29_L2 at h
      refine rn 5 rfl ?_
      refine ixh hx37 rfl rfl ?_
      obtain ⟨y38, hx39, h⟩ := bind_some h
      refine rn 10 rfl ?_
      refine aops_lend_call (iV y38) [(V.iptr (encTreach_world x18) 0), (V.agg (encTSummary x36)), (V.imap (m34.map encM9_131))] fOk61 (ghost_frzMx (es := m34.map encM9_131) 1 rfl encM9_131_imm (.put (t := 48) rfl Sub.frzM (.put (t := 10) rfl Sub.frzM .refl)) .refl) (Flat.con _) wants_none (evm_cons rfl (evm_cons rfl (evm_cons rfl evm_nil))) (.cons (Imm.iptr _ _) (.cons (Imm.agg (imms_encTSummary _)) (.cons (Imm.imap _) .nil))) (W61 F x18 x36 m34 y38 hx39) rfl ?_
      refine fo (rn 7 rfl ?_)
      refine spC h rfl (fun hb40 h => ?_) (fun hb40 h => ?_)
      ·refine rn 6 rfl ?_
       exact rt h rfl
      refine rn 6 rfl ?_
      refine aops_mapUpdate (es := m34.map encM9_131) ((mput m34 x36.Func x36).map encM9_131) tMap127 tKey9 wants_none rfl rfl (.con rfl) ⟨_, rfl⟩ encM9_131_good rfl (encM9_131_puts m34 x36.Func x36) ?_
      refine fo (rn 6 rfl ?_)
      exact jX ((w64 (n33 + 1)), (mput m34 x36.Func x36)) (hk2 _ h) (gr [0, 1] rfl (hB rfl rfl rfl (hM rfl rfl .nil)) rfl)
     replace h := RG.f h hb35
     unfold M29_L2 at h
     refine rn 1 rfl ?_
     exact jX m34 h (gr [0, 1] rfl (hB rfl rfl rfl (hM rfl rfl .nil)) rfl)
    intro m30 h
    refine rn 1 rfl ?_
    exact jX m30 h (gr [0, 1] rfl (hB rfl rfl rfl (hM rfl rfl .nil)) rfl)
   intro m26 h
   refine rn 4 rfl ?_
   exact jX ((w64 (n22 + 1)), m26) (hk1 _ h) (gr [0, 1] rfl (hB rfl rfl rfl (hM rfl rfl .nil)) rfl)
  replace h := RG.f h hb24
  unfold M29_L1 at h
  refine rn 1 rfl ?_
  exact jX (x18.g.Ifaces, x18.g.Types, x18.g.Funcs, x18.g.Entries, x18.funcs, x18.types, x18.fitting, x18.on, x18.made, m23) h (gr [0, 1] rfl (hB rfl rfl rfl (hM rfl rfl .nil)) rfl)
 rintro ⟨l8, l9, l10, l11, m12, m13, m14, m15, b16, m17⟩ h
 refine rn 4 rfl ?_
 refine ln rfl rfl ?_
 refine ck h (fun hc43 h => ?_)
 refine aops_makeSlice (ln := (List.replicate (((a1.Funcs.length : Nat) : Int)).toNat (false : Bool)).length) ((List.replicate (((a1.Funcs.length : Nat) : Int)).toNat (false : Bool)).map encB) tEl28 tZ4 rfl rfl hc43 List.map_replicate List.length_replicate wants_none rfl rfl ?_
 refine fo (rn 11 rfl ?_)
 refine ln rfl rfl ?_
 refine rn 2 rfl ?_
 refine jK h (fun (p : (List Int)) => (⟨[(3, (V.ptr 0 4 0 0)), (8, (V.iptr [(V.lst 2 (l8.map encTIface)), (V.lst 2 (l9.map encTType)), (V.lst 4 (l10.map encTFunc)), (V.lst 1 (l11.map encS)), (V.imap (m12.map encM9_3)), (V.imap (m13.map encM9_3)), (V.imap (m14.map encM9_62)), (V.imap (m15.map encM9_4)), (bV b16)] 0)), (10, (V.map 1)), (16, (V.own 2 (List.replicate (((a1.Funcs.length : Nat) : Int)).toNat (false : Bool)).length)), (17, (V.own 3 p.length))], [(0, (Ob.arr 27 4 [(encTGraph a1)])), (1, (Ob.map (m17.map encM9_131))), (2, (Ob.arr 4 1 ((List.replicate (((a1.Funcs.length : Nat) : Int)).toNat (false : Bool)).map encB))), (3, (Ob.arr 3 1 (p.map encI_i64)))], 4⟩ : St)) (fun k44 p => k44 p = some r) (fun k44 h => ?_) ?_
 ·refine rn 1 rfl ?_
  refine wl (A := a1.Entries) 64 rfl (fun hA54 => ?_)
  refine lC (fun (p : Int × (List Int)) => (⟨[(3, (V.ptr 0 4 0 0)), (8, (V.iptr [(V.lst 2 (l8.map encTIface)), (V.lst 2 (l9.map encTType)), (V.lst 4 (l10.map encTFunc)), (V.lst 1 (l11.map encS)), (V.imap (m12.map encM9_3)), (V.imap (m13.map encM9_3)), (V.imap (m14.map encM9_62)), (V.imap (m15.map encM9_4)), (bV b16)] 0)), (10, (V.map 1)), (16, (V.own 2 (List.replicate (((a1.Funcs.length : Nat) : Int)).toNat (false : Bool)).length)), (17, (V.own 3 (p.2).length)), (64, (V.lst 1 (a1.Entries.map encS))), (65, (iV ((a1.Entries.length : Nat) : Int))), (66, (iV (p.1)))], [(0, (Ob.arr 27 4 [(encTGraph a1)])), (1, (Ob.map (m17.map encM9_131))), (2, (Ob.arr 4 1 ((List.replicate (((a1.Funcs.length : Nat) : Int)).toNat (false : Bool)).map encB))), (3, (Ob.arr 3 1 ((p.2).map encI_i64)))], 4⟩ : St)) (fun n p => RG a1.Entries (fun tl nn => M29_L3 F m12 k44 tl p.2 = some r) n p.1) (fun p h => RG.zero h) (a1.Entries.length + 1) (0, ([] : List Int)) (RG.start h) (Ghost.trans (ghost_nilE 17 3 1 rfl) (ghost_ren 4 (fun i => ([0, 1, 2, 3] : List Nat).getD i 0) _ _ (by decide) (EnvSub.get (.cons (Sub.ptr rfl rfl) (.cons (Sub.imm (Imm.iptr _ _)) (.cons (Sub.map rfl rfl) (.cons (Sub.own rfl rfl) (.cons (Sub.ownE rfl rfl (by simp)) (.cons (Sub.imm (Imm.lst _ _)) (.cons (Sub.imm (Imm.con _)) (.cons (Sub.imm (Imm.con _)) .nil))))))))) (HpSub.get (.cons rfl (ObSub.box (.cons (Sub.imm (Imm.lst _ _)) (.cons (Sub.imm (Imm.lst _ _)) (.cons (Sub.imm (Imm.lst _ _)) (.cons (Sub.imm (Imm.lst _ _)) .nil))))) (.cons rfl (ObSub.maps encM9_131_imm) (.cons rfl (ObSub.rows (rows_imm imms_encB)) (.cons rfl (ObSub.rows (rows_imm imms_encI_i64)) .nil))))) rfl)) (fun n p h => ?_)
  obtain ⟨n48, l49⟩ := p
  refine rn 5 rfl ?_
  refine spL rfl (fun hb50 => ?_) (fun hb50 => ?_)
  ·obtain ⟨x51, tl, hx52, h, hk3⟩ := RG.t hA54 h hb50
   unfold M29_L3 at h
   refine rn 5 rfl ?_
   refine ixh hx52 rfl rfl ?_
   refine rn 10 rfl ?_
   refine aops_lookup _ (iV 0) (iV ((mget m12 x51).getD 0)) tMap85 tKey9 tZo3 (irel_con _) wants_none rfl .imm (.con rfl) ⟨_, rfl⟩ encM9_3_good (encM9_3_look m12 x51) (getD_map (encM9_3_val) (mget m12 x51) 0) rfl ?_
   refine aops_buildSlice [(0, (iV ((mget m12 x51).getD 0)))] [[(iV ((mget m12 x51).getD 0))]] tEl62 tZ3 rfl rfl rfl rfl wants_none (evp_cons rfl evp_nil) rfl rfl (by simp) rfl ?_
   refine fo ?_
   refine apO encI_i64 h rfl rfl rfl rfl rfl rfl rfl rfl (fun h => ?_)
   refine rn 7 rfl ?_
   exact jX ((w64 (n48 + 1)), (l49 ++ ([((mget m12 x51).getD 0)] : List Int))) (hk3 _ h) (gr [0, 1, 2, 5] rfl (hB rfl rfl rfl (hM rfl rfl (hR rfl rfl (hR rfl rfl .nil)))) rfl)
  replace h := RG.f h hb50
  unfold M29_L3 at h
  refine rn 1 rfl ?_
  exact jX l49 h (gr [0, 1, 2, 3] rfl (hB rfl rfl rfl (hM rfl rfl (hR rfl rfl (hR rfl rfl .nil)))) rfl)
 intro l45 h
 refine rn 1 rfl ?_
 refine jK h (fun (p : (List Bool)) => (⟨[(3, (V.ptr 0 4 0 0)), (16, (V.own 1 p.length))], [(0, (Ob.arr 27 4 [(encTGraph a1)])), (1, (Ob.arr 4 1 (p.map encB)))], 2⟩ : St)) (fun k55 p => k55 p = some r) (fun k55 h => ?_) ?_
 ·refine rn 1 rfl ?_
  refine lC (fun (p : (List Bool) × (List Int)) => (⟨[(3, (V.ptr 0 4 0 0)), (8, (V.iptr [(V.lst 2 (l8.map encTIface)), (V.lst 2 (l9.map encTType)), (V.lst 4 (l10.map encTFunc)), (V.lst 1 (l11.map encS)), (V.imap (m12.map encM9_3)), (V.imap (m13.map encM9_3)), (V.imap (m14.map encM9_62)), (V.imap (m15.map encM9_4)), (bV b16)] 0)), (10, (V.imap (m17.map encM9_131))), (16, (V.own 1 (p.1).length)), (17, (V.own 2 (p.2).length))], [(0, (Ob.arr 27 4 [(encTGraph a1)])), (1, (Ob.arr 4 1 ((p.1).map encB))), (2, (Ob.arr 3 1 ((p.2).map encI_i64)))], 3⟩ : St)) (fun n p => M29_L4 F l8 l9 l10 l11 m12 m13 m14 m15 b16 m17 k55 n p.1 p.2 = some r) (fun p h => by simp [M29_L4] at h) F ((List.replicate (((a1.Funcs.length : Nat) : Int)).toNat (false : Bool)), l45) h (Ghost.trans (ghost_frzMx (es := m17.map encM9_131) 1 rfl encM9_131_imm (.put (t := 10) rfl Sub.frzM .refl) .refl) (gr [0, 2, 3] rfl (hB rfl rfl rfl (hR rfl rfl (hR rfl rfl .nil))) rfl)) (fun n p h => ?_)
  obtain ⟨l59, l60⟩ := p
  unfold M29_L4 at h
  refine rn 7 rfl ?_
  refine spC h rfl (fun hb61 h => ?_) (fun hb61 h => ?_)
  ·refine rn 5 rfl ?_
   refine ixo (a := l60) h rfl rfl rfl (fun x62 hx63 h => ?_)
   refine ldp hx63 rfl rfl rfl rfl ?_
   refine rn 5 rfl ?_
   refine ck h (fun hc64 h => ?_)
   refine aops_slice_ownN (nx := 3) (1) (l60.length) ((l60.drop 1).length) ((l60.drop 1).map encI_i64) tSl62 wants_none rfl rfl (by simp) rfl ⟨_, rfl⟩ rfl hc64 (Nat.le_refl _) (List.map_drop ..).symm (by simp) (ndB_rows (rows_imm imms_encI_i64)) rfl ?_
   refine fo (rn 7 rfl ?_)
   refine ixo (a := l59) h rfl rfl rfl (fun x65 hx66 h => ?_)
   refine ldp hx66 rfl rfl rfl rfl ?_
   refine rn 1 rfl ?_
   refine spC h rfl (fun hb67 h => ?_) (fun hb67 h => ?_)
   ·refine rn 1 rfl ?_
    exact jX (l59, (l60.drop 1)) h (gr [0, 1, 3] rfl (hB rfl rfl rfl (hR rfl rfl (hR rfl rfl .nil))) rfl)
   refine rn 5 rfl ?_
   refine ixo (a := l59) h rfl rfl rfl (fun x68 hx69 h => ?_)
   refine stS true hx69 rfl rfl rfl rfl rfl rfl ?_
   refine rn 6 rfl ?_
   refine cl h rfl rfl rfl (W62 _ _ _ _) rfl (fun y70 hx71 h => ?_)
   refine apL encI_i64 h rfl rfl rfl rfl rfl (fun h => ?_)
   refine rn 3 rfl ?_
   exact jX ((l59.set x62.toNat true), ((l60.drop 1) ++ y70)) h (ghost_ren 3 (fun i => ([0, 1, 4] : List Nat).getD i 0) _ _ (by decide) (EnvSub.get (.cons (Sub.ptr rfl rfl) (.cons (Sub.imm (Imm.iptr _ _)) (.cons (Sub.imm (Imm.imap _)) (.cons (Sub.ownE rfl rfl (by simp)) (.cons (Sub.own rfl rfl) .nil)))))) (HpSub.get (.cons rfl (ObSub.box (.cons (Sub.imm (Imm.lst _ _)) (.cons (Sub.imm (Imm.lst _ _)) (.cons (Sub.imm (Imm.lst _ _)) (.cons (Sub.imm (Imm.lst _ _)) .nil))))) (.cons rfl (ObSub.rows (rows_imm imms_encB)) (.cons rfl (ObSub.rows (rows_imm imms_encI_i64)) .nil)))) rfl)
  refine rn 1 rfl ?_
  exact jX l59 h (gr [0, 1] rfl (hB rfl rfl rfl (hR rfl rfl .nil)) rfl)
 intro l56 h
 refine rn 11 rfl ?_
 refine jK h (fun (p : (List (List UInt8))) => (⟨[(21, (V.own 0 p.length))], [(0, (Ob.arr 9 1 (p.map encS)))], 1⟩ : St)) (fun k73 p => k73 p = some r) (fun k73 h => ?_) ?_
 ·refine rn 1 rfl ?_
  refine wlO (A := l56) 1 rfl (fun hA88 => ?_)
  refine lC (fun (p : Int × (List (List UInt8))) => (⟨[(3, (V.ptr 0 4 0 0)), (21, (V.own 1 (p.2).length)), (101, (V.own 2 l56.length)), (102, (iV ((l56.length : Nat) : Int))), (103, (iV (p.1)))], [(0, (Ob.arr 27 4 [(encTGraph a1)])), (1, (Ob.arr 9 1 ((p.2).map encS))), (2, (Ob.arr 4 1 (l56.map encB)))], 3⟩ : St)) (fun n p => RG l56 (fun tl nn => M29_L5 F a1 k73 tl nn p.2 = some r) n p.1) (fun p h => RG.zero h) (l56.length + 1) (0, ([] : List (List UInt8))) (RG.start h) (Ghost.trans (ghost_nilE 21 9 1 rfl) (ghost_ren 3 (fun i => ([0, 2, 1] : List Nat).getD i 0) _ _ (by decide) (EnvSub.get (.cons (Sub.ptr rfl rfl) (.cons (Sub.ownE rfl rfl (by simp)) (.cons (Sub.own rfl rfl) (.cons (Sub.imm (Imm.con _)) (.cons (Sub.imm (Imm.con _)) .nil)))))) (HpSub.get (.cons rfl (ObSub.box (.cons (Sub.imm (Imm.lst _ _)) (.cons (Sub.imm (Imm.lst _ _)) (.cons (Sub.imm (Imm.lst _ _)) (.cons (Sub.imm (Imm.lst _ _)) .nil))))) (.cons rfl (ObSub.rows (rows_imm imms_encS)) (.cons rfl (ObSub.rows (rows_imm imms_encB)) .nil)))) rfl)) (fun n p h => ?_)
  obtain ⟨n77, l78⟩ := p
  refine rn 5 rfl ?_
  refine spL rfl (fun hb79 => ?_) (fun hb79 => ?_)
  ·obtain ⟨x80, tl, hx81, h, hk5⟩ := RG.t hA88 h hb79
   unfold M29_L5 at h
   refine rn 6 rfl ?_
   refine ixoh (a := l56) hx81 rfl rfl rfl ?_
   refine ldp hx81 rfl rfl rfl rfl ?_
   refine rn 7 rfl ?_
   refine jK h (fun (p : (List (List UInt8))) => (⟨[(3, (V.ptr 0 4 0 0)), (21, (V.own 1 p.length)), (101, (V.own 2 l56.length)), (102, (iV ((l56.length : Nat) : Int))), (103, (iV n77))], [(0, (Ob.arr 27 4 [(encTGraph a1)])), (1, (Ob.arr 9 1 (p.map encS))), (2, (Ob.arr 4 1 (l56.map encB)))], 3⟩ : St)) (fun k82 p => k82 p = some r) (fun k82 h => ?_) ?_
   ·refine spC h rfl (fun hb84 h => ?_) (fun hb84 h => ?_)
    ·refine rn 5 rfl ?_
     refine ixl h rfl rfl (fun x85 hx86 h => ?_)
     refine rn 2 rfl ?_
     refine aops_buildSlice [(0, (sV x85.Name))] [[(sV x85.Name)]] tEl25 tZ9 rfl rfl rfl rfl wants_none (evp_cons rfl evp_nil) rfl rfl (by simp) rfl ?_
     refine fo ?_
     refine apO encS h rfl rfl rfl rfl rfl rfl rfl rfl (fun h => ?_)
     refine rn 2 rfl ?_
     exact jX (l78 ++ ([x85.Name] : List (List UInt8))) h (gr [0, 4, 2] rfl (hB rfl rfl rfl (hR rfl rfl (hR rfl rfl .nil))) rfl)
    refine rn 1 rfl ?_
    exact jX l78 h (gr [0, 1, 2] rfl (hB rfl rfl rfl (hR rfl rfl (hR rfl rfl .nil))) rfl)
   intro l83 h
   refine rn 5 rfl ?_
   exact jX ((w64 (n77 + 1)), l83) (hk5 _ h) (gr [0, 1, 2] rfl (hB rfl rfl rfl (hR rfl rfl (hR rfl rfl .nil))) rfl)
  replace h := RG.f h hb79
  unfold M29_L5 at h
  refine rn 1 rfl ?_
  exact jX l78 h (gr [1] rfl (hR rfl rfl .nil) rfl)
 intro l74 h
 refine rn 6 rfl ?_
 refine awp_ghost (ghost_frzEs 0 [6, 21, 119] rfl (rows_imm imms_encS) (List.forall_mem_cons.2 ⟨rfl, (List.forall_mem_cons.2 ⟨rfl, (List.forall_mem_cons.2 ⟨rfl, (fun _ hx => nomatch hx)⟩)⟩)⟩) (List.length_map ..).symm) ?_
 refine fa ?_
 exact rt h rfl
theorem W64 (F : Nat) (a1 : Tprovenderref6_names) (a2 : TSummary) (r : Int) (h : M64 F a1 a2 = some r) : Pure Try.prog 64 [(V.agg (encTprovenderref6_names a1)), (V.agg (encTSummary a2))] (iV r) := by
 refine pin (fun r => (iV r)) r rfl Try.func64 rfl rfl rfl rfl rfl (fun w0 m0 hg => ?_)
 unfold M64 at h
 refine rn 13 rfl ?_
 refine aops_lookup _ (bV false) (bV ((mget a1.funcs a2.Func).getD false)) tMap72 tKey9 tZo4 (irel_con _) wants_none rfl .imm (.con rfl) ⟨_, rfl⟩ encM9_4_good (encM9_4_look a1.funcs a2.Func) (getD_map (encM9_4_val) (mget a1.funcs a2.Func) false) rfl ?_
 refine fo (rn 2 rfl ?_)
 refine spC h rfl (fun hb3 h => ?_) (fun hb3 h => ?_)
 ·refine rn 4 rfl ?_
  exact rt h rfl
 refine rn 6 rfl ?_
 refine ln rfl rfl ?_
 refine rn 2 rfl ?_
 refine jK h (fun _ : Unit => (⟨[(2, (V.ptr 0 3 0 0)), (3, (V.ptr 1 3 0 0))], [(0, (Ob.arr 138 3 [(encTprovenderref6_names a1)])), (1, (Ob.arr 131 3 [(encTSummary a2)]))], 2⟩ : St)) (fun k4 (_ : Unit) => k4 = some r) (fun k4 h => ?_) ?_
 ·refine rn 1 rfl ?_
  refine wl (A := a2.Within) 16 rfl (fun hA11 => ?_)
  refine lC (fun (p : Int) => (⟨[(2, (V.ptr 0 3 0 0)), (3, (V.ptr 1 3 0 0)), (16, (V.lst 1 (a2.Within.map encS))), (17, (iV ((a2.Within.length : Nat) : Int))), (18, (iV p))], [(0, (Ob.arr 138 3 [(encTprovenderref6_names a1)])), (1, (Ob.arr 131 3 [(encTSummary a2)]))], 2⟩ : St)) (fun n p => RG a2.Within (fun tl nn => M64_L1 F a1 k4 tl = some r) n p) (fun p h => RG.zero h) (a2.Within.length + 1) 0 (RG.start h) (gr [0, 1] rfl (hB rfl rfl rfl (hB rfl rfl rfl .nil)) rfl) (fun n n6 h => ?_)
  refine rn 5 rfl ?_
  refine spL rfl (fun hb7 => ?_) (fun hb7 => ?_)
  ·obtain ⟨x8, tl, hx9, h, hk1⟩ := RG.t hA11 h hb7
   unfold M64_L1 at h
   refine rn 5 rfl ?_
   refine ixh hx9 rfl rfl ?_
   refine rn 8 rfl ?_
   refine aops_lookup _ (bV false) (bV ((mget a1.funcs x8).getD false)) tMap72 tKey9 tZo4 (irel_con _) wants_none rfl .imm (.con rfl) ⟨_, rfl⟩ encM9_4_good (encM9_4_look a1.funcs x8) (getD_map (encM9_4_val) (mget a1.funcs x8) false) rfl ?_
   refine fo (rn 2 rfl ?_)
   refine spC h rfl (fun hb10 h => ?_) (fun hb10 h => ?_)
   ·refine rn 4 rfl ?_
    exact rt h rfl
   refine rn 6 rfl ?_
   exact jX (w64 (n6 + 1)) (hk1 _ h) (gr [0, 1] rfl (hB rfl rfl rfl (hB rfl rfl rfl .nil)) rfl)
  replace h := RG.f h hb7
  unfold M64_L1 at h
  refine rn 1 rfl ?_
  exact jX () h (gr [0, 1] rfl (hB rfl rfl rfl (hB rfl rfl rfl .nil)) rfl)
 intro _ h
 refine rn 5 rfl ?_
 refine ln rfl rfl ?_
 refine rn 2 rfl ?_
 refine jK h (fun _ : Unit => (⟨[], [], 0⟩ : St)) (fun k12 (_ : Unit) => k12 = some r) (fun k12 h => ?_) ?_
 ·refine rn 1 rfl ?_
  refine wl (A := a2.Outer) 29 rfl (fun hA33 => ?_)
  refine lC (fun (p : Int) => (⟨[(2, (V.ptr 0 3 0 0)), (29, (V.lst 2 (a2.Outer.map encTOuter))), (30, (iV ((a2.Outer.length : Nat) : Int))), (31, (iV p))], [(0, (Ob.arr 138 3 [(encTprovenderref6_names a1)]))], 1⟩ : St)) (fun n p => RG a2.Outer (fun tl nn => M64_L2 F a1 k12 tl = some r) n p) (fun p h => RG.zero h) (a2.Outer.length + 1) 0 (RG.start h) (gr [0] rfl (hB rfl rfl rfl .nil) rfl) (fun n n14 h => ?_)
  refine rn 5 rfl ?_
  refine spL rfl (fun hb15 => ?_) (fun hb15 => ?_)
  ·obtain ⟨x23, tl, hx24, h, hk2⟩ := RG.t hA33 h hb15
   unfold M64_L2 at h
   refine rn 2 rfl ?_
   refine jK h (fun (p : (List UInt8) × Bool × Bool × Bool × (List UInt8) × (List UInt8)) => (⟨[(2, (V.ptr 0 3 0 0)), (29, (V.lst 2 (a2.Outer.map encTOuter))), (30, (iV ((a2.Outer.length : Nat) : Int))), (31, (iV n14)), (47, (V.ptr 1 2 0 1)), (48, (sV (p.1))), (49, (bV (p.2.1))), (50, (bV (p.2.2.1))), (60, (bV (p.2.2.2.1)))], [(0, (Ob.arr 138 3 [(encTprovenderref6_names a1)])), (1, (Ob.arr 146 2 [[(sV (p.2.2.2.2.1)), (sV (p.2.2.2.2.2))]]))], 2⟩ : St)) (fun k16 p => k16 p.1 p.2.1 p.2.2.1 p.2.2.2.1 p.2.2.2.2.1 p.2.2.2.2.2 = some r) (fun k16 h => ?_) ?_
   ·refine rn 3 rfl ?_
    refine ixh hx24 rfl rfl ?_
    refine rn 10 rfl ?_
    refine spO 38 h rfl (fun hb25 h => ?_) (fun hb25 h => ?_)
    ·refine rn 4 rfl ?_
     refine aops_lookup _ (bV false) (bV ((mget a1.funcs x23.Target).getD false)) tMap72 tKey9 tZo4 (irel_con _) (wants_some (c := true) (b := true) 38 rfl rfl rfl) rfl .imm (.con rfl) ⟨_, rfl⟩ encM9_4_good (encM9_4_look a1.funcs x23.Target) (getD_map (encM9_4_val) (mget a1.funcs x23.Target) false) rfl ?_
     refine fo (rn 3 rfl ?_)
     refine spO 46 h rfl (fun hb26 h => ?_) (fun hb26 h => ?_)
     ·refine rn 21 rfl ?_
      exact rt h rfl
     refine rn 4 rfl ?_
     refine spO 50 h rfl (fun hb27 h => ?_) (fun hb27 h => ?_)
     ·refine rn 4 rfl ?_
      refine bs h (fun hb28 h => ?_) (fun hb28 h => ?_)
      ·refine aops_lookup _ (V.con (.map none)) (V.imap (((mget a1.ifaces x23.Target).getD []).map encM9_4)) tMap136 tKey9 tZo72 (irel_con _) (wants_some (c := true) (b := true) 50 rfl rfl rfl) rfl .imm (.con rfl) ⟨_, rfl⟩ encM9_72_good (encM9_72_look a1.ifaces x23.Target) (getD_mapT (y := []) hb28) rfl ?_
       refine fo (rn 2 rfl ?_)
       refine aops_lookup _ (bV false) (bV ((mget ((mget a1.ifaces x23.Target).getD []) x23.Method).getD false)) tMap72 tKey9 tZo4 (irel_con _) (wants_some (c := true) (b := true) 50 rfl rfl rfl) rfl .imm (.con rfl) ⟨_, rfl⟩ encM9_4_good (encM9_4_look ((mget a1.ifaces x23.Target).getD []) x23.Method) (getD_map (encM9_4_val) (mget ((mget a1.ifaces x23.Target).getD []) x23.Method) false) rfl ?_
       refine fo (rn 4 rfl ?_)
       refine spC h rfl (fun hb29 h => ?_) (fun hb29 h => ?_)
       ·refine rn 4 rfl ?_
        exact rt h rfl
       refine rn 2 rfl ?_
       exact jX (x23.Method, (!(x23.Method == ([] : List UInt8))), true, (!((mget ((mget a1.ifaces x23.Target).getD []) x23.Method).getD false)), x23.Target, x23.Method) h (gr [0, 1] rfl (hB rfl rfl rfl (hB rfl rfl rfl .nil)) rfl)
      refine aops_lookup _ (V.con (.map none)) (V.con (.map none)) tMap136 tKey9 tZo72 (irel_con _) (wants_some (c := true) (b := true) 50 rfl rfl rfl) rfl .imm (.con rfl) ⟨_, rfl⟩ encM9_72_good (encM9_72_look a1.ifaces x23.Target) (getD_mapF hb28) rfl ?_
      refine fo (rn 2 rfl ?_)
      refine aops_lookupNil (bV false) tMap72 tKey9 tZo4 (irel_con _) (wants_some (c := true) (b := true) 50 rfl rfl rfl) rfl (.con rfl) ⟨_, rfl⟩ rfl ?_
      refine fo (rn 9 rfl ?_)
      exact rt h rfl
     refine rn 15 rfl ?_
     exact jX (x23.Method, (!(x23.Method == ([] : List UInt8))), false, false, x23.Target, x23.Method) h (gr [0, 1] rfl (hB rfl rfl rfl (hB rfl rfl rfl .nil)) rfl)
    refine rn 12 rfl ?_
    refine spO 50 h rfl (fun hb30 h => ?_) (fun hb30 h => ?_)
    ·refine rn 4 rfl ?_
     refine bs h (fun hb31 h => ?_) (fun hb31 h => ?_)
     ·refine aops_lookup _ (V.con (.map none)) (V.imap (((mget a1.ifaces x23.Target).getD []).map encM9_4)) tMap136 tKey9 tZo72 (irel_con _) (wants_some (c := true) (b := true) 50 rfl rfl rfl) rfl .imm (.con rfl) ⟨_, rfl⟩ encM9_72_good (encM9_72_look a1.ifaces x23.Target) (getD_mapT (y := []) hb31) rfl ?_
      refine fo (rn 2 rfl ?_)
      refine aops_lookup _ (bV false) (bV ((mget ((mget a1.ifaces x23.Target).getD []) x23.Method).getD false)) tMap72 tKey9 tZo4 (irel_con _) (wants_some (c := true) (b := true) 50 rfl rfl rfl) rfl .imm (.con rfl) ⟨_, rfl⟩ encM9_4_good (encM9_4_look ((mget a1.ifaces x23.Target).getD []) x23.Method) (getD_map (encM9_4_val) (mget ((mget a1.ifaces x23.Target).getD []) x23.Method) false) rfl ?_
      refine fo (rn 4 rfl ?_)
      refine spC h rfl (fun hb32 h => ?_) (fun hb32 h => ?_)
      ·refine rn 4 rfl ?_
       exact rt h rfl
      refine rn 2 rfl ?_
      exact jX (x23.Method, (!(x23.Method == ([] : List UInt8))), true, (!((mget ((mget a1.ifaces x23.Target).getD []) x23.Method).getD false)), x23.Target, x23.Method) h (gr [0, 1] rfl (hB rfl rfl rfl (hB rfl rfl rfl .nil)) rfl)
     refine aops_lookup _ (V.con (.map none)) (V.con (.map none)) tMap136 tKey9 tZo72 (irel_con _) (wants_some (c := true) (b := true) 50 rfl rfl rfl) rfl .imm (.con rfl) ⟨_, rfl⟩ encM9_72_good (encM9_72_look a1.ifaces x23.Target) (getD_mapF hb31) rfl ?_
     refine fo (rn 2 rfl ?_)
     refine aops_lookupNil (bV false) tMap72 tKey9 tZo4 (irel_con _) (wants_some (c := true) (b := true) 50 rfl rfl rfl) rfl (.con rfl) ⟨_, rfl⟩ rfl ?_
     refine fo (rn 9 rfl ?_)
     exact rt h rfl
    refine rn 15 rfl ?_
    exact jX (x23.Method, (!(x23.Method == ([] : List UInt8))), false, false, x23.Target, x23.Method) h (gr [0, 1] rfl (hB rfl rfl rfl (hB rfl rfl rfl .nil)) rfl)
   rintro ⟨s17, b18, b19, b20, s21, s22⟩ h
   refine rn 4 rfl ?_
   exact jX (w64 (n14 + 1)) (hk2 _ h) (gr [0] rfl (hB rfl rfl rfl .nil) rfl)
  replace h := RG.f h hb15
  unfold M64_L2 at h
  refine rn 1 rfl ?_
  exact jX () h (g0 rfl rfl)
 intro _ h
 refine rn 4 rfl ?_
 exact rt h rfl
theorem W66 (F : Nat) (a1 : (List UInt8)) (a2 : List ((List UInt8) × Bool)) (a3 : List (List UInt8)) (r : ((List ((List UInt8) × Bool)) × (List (List UInt8)))) (h : M66 F a1 a2 a3 = some r) : Mut Try.prog 66 [(V.ptr 0 2 0 0), (sV a1)] 3 [(0, (Ob.arr 143 2 [[(V.map 1), (V.own 2 a3.length)]])), (1, (Ob.map (a2.map encM9_4))), (2, (Ob.arr 9 1 (a3.map encS)))] (resV []) 4 [(0, (Ob.arr 143 2 [[(V.map 1), (V.own 3 (r.2).length)]])), (1, (Ob.map ((r.1).map encM9_4))), (2, Ob.dead), (3, (Ob.arr 9 1 ((r.2).map encS)))] := by
 refine mut_enter Try.func66 rfl rfl (l := []) rfl rfl [(0, (V.ptr 0 2 0 0)), (1, (sV a1))] rfl (fun w0 m0 β0 hg => en ?_)
 unfold M66 at h
 refine rn 7 rfl ?_
 refine aops_lookup _ (bV false) (bV ((mget a2 a1).getD false)) tMap72 tKey9 tZo4 (irel_con _) wants_none rfl (.own rfl) (.con rfl) ⟨_, rfl⟩ encM9_4_good (encM9_4_look a2 a1) (getD_map (encM9_4_val) (mget a2 a1) false) rfl ?_
 refine fo (rn 2 rfl ?_)
 refine spC h rfl (fun hb8 h => ?_) (fun hb8 h => ?_)
 ·refine rn 7 rfl ?_
  refine aops_mapUpdate (es := a2.map encM9_4) ((mput a2 a1 true).map encM9_4) tMap72 tKey9 wants_none rfl rfl (.con rfl) ⟨_, rfl⟩ encM9_4_good rfl (encM9_4_puts a2 a1 true) ?_
  refine fo (rn 8 rfl ?_)
  refine aops_buildSlice [(0, (sV a1))] [[(sV a1)]] tEl25 tZ9 rfl rfl rfl rfl wants_none (evp_cons rfl evp_nil) rfl rfl (by simp) rfl ?_
  refine fo ?_
  refine apO encS h rfl rfl rfl rfl rfl rfl rfl rfl (fun h => ?_)
  refine rn 4 rfl ?_
  replace h := Option.some.inj h
  subst h
  exact wE ⟨.inr rfl, [], (gr [0, 1, 2, 4] rfl (hB rfl rfl rfl (hM rfl rfl (hD rfl (hR rfl rfl .nil)))) rfl), .nil⟩
 refine rn 1 rfl ?_
 replace h := Option.some.inj h
 subst h
 exact wE ⟨.inr rfl, [], (Ghost.trans (ghost_mvC 2 0 3 9 1 (Ob.arr 143 2 [[(V.map 1), (V.own 3 a3.length)]]) rfl rfl rfl (ObSub.box (.cons Sub.keepMv (.cons Sub.mv .nil))) rfl rfl) (gr [0, 1, 2, 3] rfl (hB rfl rfl rfl (hM rfl rfl (hD rfl (hR rfl rfl .nil)))) rfl)), .nil⟩
theorem W30 (F : Nat) (a1 : TGraph) (a2 : (List (List UInt8))) (a3 : (List (List TSummary))) (r : ((List (List UInt8)) × Int)) (h : M30 F a1 a2 a3 = some r) : Pure Try.prog 30 [(V.agg (encTGraph a1)), (V.lst 1 (a2.map encS)), (V.lst 1 (a3.map encL131))] (V.tup [(V.lst 1 ((r.1).map encS)), (iV (r.2))]) := by
 refine pin (fun r => (V.tup [(V.lst 1 ((r.1).map encS)), (iV (r.2))])) r rfl Try.func30 rfl rfl rfl rfl rfl (fun w0 m0 hg => ?_)
 unfold M30 at h
 refine rn 10 rfl ?_
 refine cl h rfl rfl rfl (W50 _ _) rfl (fun y4 hx5 h => ?_)
 refine rn 7 rfl ?_
 refine spC h rfl (fun hb6 h => ?_) (fun hb6 h => ?_)
 ·refine rn 6 rfl ?_
  exact rt h rfl
 refine rn 5 rfl ?_
 refine cl h rfl rfl rfl (W63 _ _) rfl (fun y7 hx8 h => ?_)
 refine rn 7 rfl ?_
 refine spC h rfl (fun hb9 h => ?_) (fun hb9 h => ?_)
 ·refine rn 6 rfl ?_
  exact rt h rfl
 refine rn 10 rfl ?_
 refine ln rfl rfl ?_
 refine rn 2 rfl ?_
 refine jK h (fun (p : (List ((List UInt8) × TSummary))) => (⟨[(1, (V.lst 1 (a2.map encS))), (3, (V.ptr 0 4 0 0)), (10, (V.map 1))], [(0, (Ob.arr 27 4 [(encTGraph a1)])), (1, (Ob.map (p.map encM9_131)))], 2⟩ : St)) (fun k10 p => k10 p = some r) (fun k10 h => ?_) ?_
 ·refine rn 1 rfl ?_
  refine wl (A := a3) 2 rfl (fun hA37 => ?_)
  refine lC (fun (p : Int × (List ((List UInt8) × TSummary))) => (⟨[(1, (V.lst 1 (a2.map encS))), (3, (V.ptr 0 4 0 0)), (10, (V.map 1)), (47, (V.lst 1 (a3.map encL131))), (48, (iV ((a3.length : Nat) : Int))), (49, (iV (p.1)))], [(0, (Ob.arr 27 4 [(encTGraph a1)])), (1, (Ob.map ((p.2).map encM9_131)))], 2⟩ : St)) (fun n p => RG a3 (fun tl nn => M30_L1 F a1 k10 tl p.2 = some r) n p.1) (fun p h => RG.zero h) (a3.length + 1) (0, ([] : List ((List UInt8) × TSummary))) (RG.start h) (gr [0, 1] rfl (hB rfl rfl rfl (hM rfl rfl .nil)) rfl) (fun n p h => ?_)
  obtain ⟨n14, m15⟩ := p
  refine rn 5 rfl ?_
  refine spL rfl (fun hb16 => ?_) (fun hb16 => ?_)
  ·obtain ⟨x19, tl, hx20, h, hk1⟩ := RG.t hA37 h hb16
   unfold M30_L1 at h
   refine rn 2 rfl ?_
   refine jK h (fun (p : (List ((List UInt8) × TSummary))) => (⟨[(1, (V.lst 1 (a2.map encS))), (3, (V.ptr 0 4 0 0)), (10, (V.map 1)), (47, (V.lst 1 (a3.map encL131))), (48, (iV ((a3.length : Nat) : Int))), (49, (iV n14))], [(0, (Ob.arr 27 4 [(encTGraph a1)])), (1, (Ob.map (p.map encM9_131)))], 2⟩ : St)) (fun k17 p => k17 p = some r) (fun k17 h => ?_) ?_
   ·refine rn 3 rfl ?_
    refine ixh hx20 rfl rfl ?_
    refine rn 6 rfl ?_
    refine ln rfl rfl ?_
    refine rn 2 rfl ?_
    refine jK h (fun (p : (List ((List UInt8) × TSummary))) => (⟨[(1, (V.lst 1 (a2.map encS))), (3, (V.ptr 0 4 0 0)), (10, (V.map 1)), (47, (V.lst 1 (a3.map encL131))), (48, (iV ((a3.length : Nat) : Int))), (49, (iV n14))], [(0, (Ob.arr 27 4 [(encTGraph a1)])), (1, (Ob.map (p.map encM9_131)))], 2⟩ : St)) (fun k21 p => k21 p = some r) (fun k21 h => ?_) ?_
    ·refine rn 1 rfl ?_
     refine wl (A := x19) 52 rfl (fun hA36 => ?_)
     refine lC (fun (p : Int × (List ((List UInt8) × TSummary))) => (⟨[(1, (V.lst 1 (a2.map encS))), (3, (V.ptr 0 4 0 0)), (10, (V.map 1)), (47, (V.lst 1 (a3.map encL131))), (48, (iV ((a3.length : Nat) : Int))), (49, (iV n14)), (53, (V.lst 3 (x19.map encTSummary))), (54, (iV ((x19.length : Nat) : Int))), (55, (iV (p.1)))], [(0, (Ob.arr 27 4 [(encTGraph a1)])), (1, (Ob.map ((p.2).map encM9_131)))], 2⟩ : St)) (fun n p => RG x19 (fun tl nn => M30_L2 F a1 k21 tl p.2 = some r) n p.1) (fun p h => RG.zero h) (x19.length + 1) (0, m15) (RG.start h) (gr [0, 1] rfl (hB rfl rfl rfl (hM rfl rfl .nil)) rfl) (fun n p h => ?_)
     obtain ⟨n25, m26⟩ := p
     refine rn 5 rfl ?_
     refine spL rfl (fun hb27 => ?_) (fun hb27 => ?_)
     ·obtain ⟨x28, tl, hx29, h, hk2⟩ := RG.t hA36 h hb27
      unfold M30_L2 at h
      refine rn 5 rfl ?_
      refine ixh hx29 rfl rfl ?_
      obtain ⟨y30, hx31, h⟩ := bind_some h
      obtain ⟨y32, hx33, h⟩ := bind_some h
      refine rn 6 rfl ?_
      refine dr mixed (vs 1 rfl (cD rfl rfl rfl rfl (W65 _ _ _ hx31) rfl (vs 1 rfl (cD rfl rfl rfl rfl (W64 _ _ _ _ hx33) rfl (vs 1 rfl .nil))))) (by kernel_rfl) ?_
      refine rn 5 rfl ?_
      refine spC h rfl (fun hb34 h => ?_) (fun hb34 h => ?_)
      ·refine rn 6 rfl ?_
       exact rt h rfl
      refine rn 7 rfl ?_
      refine aops_lookup_okB _ (V.agg [(sV ([] : List UInt8)), (V.lst 1 (([] : List (List UInt8)).map encS)), (V.lst 2 (([] : List TOuter).map encTOuter))]) (V.agg (encTSummary ((mget m26 x28.Func).getD (TSummary.mk ([] : List UInt8) ([] : (List (List UInt8))) ([] : (List TOuter)))))) tMap127 tKey9 tZo131 (irel_aggZ (.con (.sl (.sl .nil)))) wants_none rfl (.own rfl) (.con rfl) ⟨_, rfl⟩ encM9_131_good (encM9_131_look m26 x28.Func) (getD_map (encM9_131_val) (mget m26 x28.Func) (TSummary.mk ([] : List UInt8) ([] : (List (List UInt8))) ([] : (List TOuter)))) (isSome_map ..) rfl ?_
      refine fo (rn 11 rfl ?_)
      refine spC h rfl (fun hb35 h => ?_) (fun hb35 h => ?_)
      ·refine rn 5 rfl ?_
       exact rt h rfl
      refine rn 6 rfl ?_
      refine aops_mapUpdate (es := m26.map encM9_131) ((mput m26 x28.Func x28).map encM9_131) tMap127 tKey9 wants_none rfl rfl (.con rfl) ⟨_, rfl⟩ encM9_131_good rfl (encM9_131_puts m26 x28.Func x28) ?_
      refine fo (rn 6 rfl ?_)
      exact jX ((w64 (n25 + 1)), (mput m26 x28.Func x28)) (hk2 _ h) (gr [0, 1] rfl (hB rfl rfl rfl (hM rfl rfl .nil)) rfl)
     replace h := RG.f h hb27
     unfold M30_L2 at h
     refine rn 1 rfl ?_
     exact jX m26 h (gr [0, 1] rfl (hB rfl rfl rfl (hM rfl rfl .nil)) rfl)
    intro m22 h
    refine rn 1 rfl ?_
    exact jX m22 h (gr [0, 1] rfl (hB rfl rfl rfl (hM rfl rfl .nil)) rfl)
   intro m18 h
   refine rn 4 rfl ?_
   exact jX ((w64 (n14 + 1)), m18) (hk1 _ h) (gr [0, 1] rfl (hB rfl rfl rfl (hM rfl rfl .nil)) rfl)
  replace h := RG.f h hb16
  unfold M30_L1 at h
  refine rn 1 rfl ?_
  exact jX m15 h (gr [0, 1] rfl (hB rfl rfl rfl (hM rfl rfl .nil)) rfl)
 intro m11 h
 refine rn 4 rfl ?_
 refine cl h rfl rfl rfl (W35 _ _ _) rfl (fun y38 hx39 h => ?_)
 refine rn 15 rfl ?_
 refine ln rfl rfl ?_
 refine rn 2 rfl ?_
 refine jK h (fun (p : (List ((List UInt8) × Bool)) × (List (List UInt8))) => (⟨[(3, (V.ptr 0 4 0 0)), (10, (V.map 1)), (18, (V.ptr 2 6 0 0)), (19, (V.ptr 3 2 0 0))], [(0, (Ob.arr 27 4 [(encTGraph a1)])), (1, (Ob.map (m11.map encM9_131))), (2, (Ob.arr 78 6 [(encTprovenderref6_net y38)])), (3, (Ob.arr 143 2 [[(V.map 4), (V.own 5 (p.2).length)]])), (4, (Ob.map ((p.1).map encM9_4))), (5, (Ob.arr 9 1 ((p.2).map encS)))], 6⟩ : St)) (fun k40 p => k40 p.1 p.2 = some r) (fun k40 h => ?_) ?_
 ·refine rn 1 rfl ?_
  refine wl (A := a1.Entries) 87 rfl (fun hA54 => ?_)
  refine lC (fun (p : Int × (List ((List UInt8) × Bool)) × (List (List UInt8))) => (⟨[(3, (V.ptr 0 4 0 0)), (10, (V.map 1)), (18, (V.ptr 2 6 0 0)), (19, (V.ptr 3 2 0 0)), (87, (V.lst 1 (a1.Entries.map encS))), (88, (iV ((a1.Entries.length : Nat) : Int))), (89, (iV (p.1)))], [(0, (Ob.arr 27 4 [(encTGraph a1)])), (1, (Ob.map (m11.map encM9_131))), (2, (Ob.arr 78 6 [(encTprovenderref6_net y38)])), (3, (Ob.arr 143 2 [[(V.map 4), (V.own 5 (p.2.2).length)]])), (4, (Ob.map ((p.2.1).map encM9_4))), (5, (Ob.arr 9 1 ((p.2.2).map encS)))], 6⟩ : St)) (fun n p => RG a1.Entries (fun tl nn => M30_L3 F k40 tl p.2.1 p.2.2 = some r) n p.1) (fun p h => RG.zero h) (a1.Entries.length + 1) (0, ([] : List ((List UInt8) × Bool)), ([] : List (List UInt8))) (RG.start h) (Ghost.trans (ghost_nilC 4 9 1 (Ob.arr 143 2 [[(V.map 3), (V.own 5 0)]]) (ObSub.box (.cons Sub.keepNil (.cons Sub.mkNil .nil)))) (ghost_ren 6 (fun i => ([0, 1, 2, 4, 3, 5] : List Nat).getD i 0) _ _ (by decide) (EnvSub.get (.cons (Sub.ptr rfl rfl) (.cons (Sub.map rfl rfl) (.cons (Sub.ptr rfl rfl) (.cons (Sub.ptr rfl rfl) (.cons (Sub.imm (Imm.lst _ _)) (.cons (Sub.imm (Imm.con _)) (.cons (Sub.imm (Imm.con _)) .nil)))))))) (HpSub.get (.cons rfl (ObSub.box (.cons (Sub.imm (Imm.lst _ _)) (.cons (Sub.imm (Imm.lst _ _)) (.cons (Sub.imm (Imm.lst _ _)) (.cons (Sub.imm (Imm.lst _ _)) .nil))))) (.cons rfl (ObSub.maps encM9_131_imm) (.cons rfl (ObSub.box (.cons (Sub.imm (Imm.lst _ _)) (.cons (Sub.imm (Imm.lst _ _)) (.cons (Sub.imm (Imm.lst _ _)) (.cons (Sub.imm (Imm.lst _ _)) (.cons (Sub.imm (Imm.imap _)) (.cons (Sub.imm (Imm.imap _)) .nil))))))) (.cons rfl (ObSub.box (.cons (Sub.map rfl rfl) (.cons (Sub.ownE rfl rfl (by simp)) .nil))) (.cons rfl (ObSub.maps encM9_4_imm) (.cons rfl (ObSub.rows (rows_imm imms_encS)) .nil))))))) rfl)) (fun n p h => ?_)
  obtain ⟨n46, m47, l48⟩ := p
  refine rn 5 rfl ?_
  refine spL rfl (fun hb49 => ?_) (fun hb49 => ?_)
  ·obtain ⟨x50, tl, hx51, h, hk3⟩ := RG.t hA54 h hb49
   unfold M30_L3 at h
   refine rn 5 rfl ?_
   refine ixh hx51 rfl rfl ?_
   obtain ⟨y52, hx53, h⟩ := bind_some h
   refine rn 6 rfl ?_
   refine aops_mcallS (V.tup []) [(V.ptr 3 2 0 0), (sV x50)] (fun i => ([3, 4, 5] : List Nat).getD i 0) (fun i => ([3, 4, 5, 6] : List Nat).getD i 0) 6 7 [(3, (Ob.arr 143 2 [[(V.map 4), (V.own 6 (y52.2).length)]])), (4, (Ob.map ((y52.1).map encM9_4))), (5, Ob.dead), (6, (Ob.arr 9 1 ((y52.2).map encS)))] fOk66 wants_none rfl (evm_cons rfl (evm_cons rfl evm_nil)) (.cons (Sub.ptr rfl rfl) (.cons (Sub.imm (Imm.con _)) .nil)) (.cons rfl (ObSub.box (.cons (Sub.map rfl rfl) (.cons (Sub.own rfl rfl) .nil))) (.cons rfl (ObSub.maps encM9_4_imm) (.cons rfl (ObSub.rows (rows_imm imms_encS)) .nil))) (W66 F x50 m47 l48 y52 hx53) rfl rfl rfl rfl (Sub.immT (Imm.tup .nil)) (.cons rfl (ObSub.box (.cons (Sub.mapT rfl rfl) (.cons (Sub.ownT rfl rfl) .nil))) (.cons rfl (ObSub.mapsT encM9_4_imm) (.cons rfl ObSub.deadT (.cons rfl (ObSub.rowsT (rows_imm imms_encS)) .nil)))) _ rfl ?_
   refine fo (rn 6 rfl ?_)
   exact jX ((w64 (n46 + 1)), (y52.1), (y52.2)) (hk3 _ h) (gr [0, 1, 2, 3, 4, 6] rfl (hB rfl rfl rfl (hM rfl rfl (hB rfl rfl rfl (hB rfl rfl rfl (hM rfl rfl (hR rfl rfl .nil)))))) rfl)
  replace h := RG.f h hb49
  unfold M30_L3 at h
  refine rn 1 rfl ?_
  exact jX (m47, l48) h (gr [0, 1, 2, 3, 4, 5] rfl (hB rfl rfl rfl (hM rfl rfl (hB rfl rfl rfl (hB rfl rfl rfl (hM rfl rfl (hR rfl rfl .nil)))))) rfl)
 rintro ⟨m41, l42⟩ h
 refine rn 5 rfl ?_
 refine jK h (fun (p : (List ((List UInt8) × Bool)) × (List (List UInt8))) => (⟨[(19, (V.ptr 0 2 0 0))], [(0, (Ob.arr 143 2 [[(V.map 1), (V.own 2 (p.2).length)]])), (1, (Ob.map ((p.1).map encM9_4))), (2, (Ob.arr 9 1 ((p.2).map encS)))], 3⟩ : St)) (fun k55 p => k55 p.1 p.2 = some r) (fun k55 h => ?_) ?_
 ·refine rn 1 rfl ?_
  refine lC (fun (p : Int × (List ((List UInt8) × Bool)) × (List (List UInt8))) => (⟨[(3, (V.ptr 0 4 0 0)), (10, (V.map 1)), (18, (V.ptr 2 6 0 0)), (19, (V.ptr 3 2 0 0)), (22, (iV (p.1)))], [(0, (Ob.arr 27 4 [(encTGraph a1)])), (1, (Ob.map (m11.map encM9_131))), (2, (Ob.arr 78 6 [(encTprovenderref6_net y38)])), (3, (Ob.arr 143 2 [[(V.map 4), (V.own 5 (p.2.2).length)]])), (4, (Ob.map ((p.2.1).map encM9_4))), (5, (Ob.arr 9 1 ((p.2.2).map encS)))], 6⟩ : St)) (fun n p => M30_L4 F a1 m11 y38 k55 n p.1 p.2.1 p.2.2 = some r) (fun p h => by simp [M30_L4] at h) F (0, m41, l42) h (gr [0, 1, 2, 3, 4, 5] rfl (hB rfl rfl rfl (hM rfl rfl (hB rfl rfl rfl (hB rfl rfl rfl (hM rfl rfl (hR rfl rfl .nil)))))) rfl) (fun n p h => ?_)
  obtain ⟨n61, m62, l63⟩ := p
  unfold M30_L4 at h
  refine rn 11 rfl ?_
  refine spC h rfl (fun hb64 h => ?_) (fun hb64 h => ?_)
  ·refine rn 2 rfl ?_
   refine jK h (fun (p : (List ((List UInt8) × Bool)) × (List (List UInt8))) => (⟨[(3, (V.ptr 0 4 0 0)), (10, (V.map 1)), (18, (V.ptr 2 6 0 0)), (19, (V.ptr 3 2 0 0)), (22, (iV n61))], [(0, (Ob.arr 27 4 [(encTGraph a1)])), (1, (Ob.map (m11.map encM9_131))), (2, (Ob.arr 78 6 [(encTprovenderref6_net y38)])), (3, (Ob.arr 143 2 [[(V.map 4), (V.own 5 (p.2).length)]])), (4, (Ob.map ((p.1).map encM9_4))), (5, (Ob.arr 9 1 ((p.2).map encS)))], 6⟩ : St)) (fun k65 p => k65 p.1 p.2 = some r) (fun k65 h => ?_) ?_
   ·refine rn 9 rfl ?_
    refine ixo (a := l63) h rfl rfl rfl (fun x68 hx69 h => ?_)
    refine ldp hx69 rfl rfl rfl rfl ?_
    refine aops_lookup_okB _ (V.agg [(sV ([] : List UInt8)), (V.lst 1 (([] : List (List UInt8)).map encS)), (V.lst 2 (([] : List TOuter).map encTOuter))]) (V.agg (encTSummary ((mget m11 x68).getD (TSummary.mk ([] : List UInt8) ([] : (List (List UInt8))) ([] : (List TOuter)))))) tMap127 tKey9 tZo131 (irel_aggZ (.con (.sl (.sl .nil)))) wants_none rfl (.own rfl) (.con rfl) ⟨_, rfl⟩ encM9_131_good (encM9_131_look m11 x68) (getD_map (encM9_131_val) (mget m11 x68) (TSummary.mk ([] : List UInt8) ([] : (List (List UInt8))) ([] : (List TOuter)))) (isSome_map ..) rfl ?_
    refine fo (rn 13 rfl ?_)
    refine spC h rfl (fun hb70 h => ?_) (fun hb70 h => ?_)
    ·obtain ⟨x71, hx72, h⟩ := bind_some h
     refine rn 2 rfl ?_
     refine dr mixed (vs 7 rfl (oD (a := l63) hx72 rfl rfl rfl rfl (lD hx72 rfl rfl rfl rfl rfl (xD (OD.mk [(121, (V.imap (y38.links.map encM9_122))), (128, (sV x71))] [] [(129, (V.lst 3 (((mget y38.links x71).getD ([] : (List Tprovenderref6_link))).map encTprovenderref6_link)))] []) ⟨⟨rfl, rfl, trivial⟩, trivial⟩ (by exact fun S hn h hh => aops_lookup _ (V.lst 3 (([] : (List Tprovenderref6_link)).map encTprovenderref6_link)) (V.lst 3 (((mget y38.links x71).getD ([] : (List Tprovenderref6_link))).map encTprovenderref6_link)) tMap75 tKey9 tZo122 (fun _ => .nil _ _ _) wants_none h.1 .imm (.con h.2.1) ⟨_, rfl⟩ encM9_122_good (encM9_122_look y38.links x71) (getD_map (encM9_122_val) (mget y38.links x71) ([] : (List Tprovenderref6_link))) rfl (aops_nil ⟨rfl, rfl⟩)) rfl (nD rfl rfl rfl (vs 1 rfl .nil)))))) (by kernel_rfl) ?_
     refine jK h (fun (p : (List ((List UInt8) × Bool)) × (List (List UInt8))) => (⟨[(3, (V.ptr 0 4 0 0)), (10, (V.map 1)), (18, (V.ptr 2 6 0 0)), (19, (V.ptr 3 2 0 0)), (22, (iV n61))], [(0, (Ob.arr 27 4 [(encTGraph a1)])), (1, (Ob.map (m11.map encM9_131))), (2, (Ob.arr 78 6 [(encTprovenderref6_net y38)])), (3, (Ob.arr 143 2 [[(V.map 4), (V.own 5 (p.2).length)]])), (4, (Ob.map ((p.1).map encM9_4))), (5, (Ob.arr 9 1 ((p.2).map encS)))], 6⟩ : St)) (fun k73 p => k73 p.1 p.2 = some r) (fun k73 h => ?_) ?_
     ·refine rn 1 rfl ?_
      refine wl (A := ((mget y38.links x71).getD ([] : (List Tprovenderref6_link)))) 129 rfl (fun hA103 => ?_)
      refine lC (fun (p : Int × (List ((List UInt8) × Bool)) × (List (List UInt8))) => (⟨[(3, (V.ptr 0 4 0 0)), (10, (V.map 1)), (18, (V.ptr 2 6 0 0)), (19, (V.ptr 3 2 0 0)), (22, (iV n61)), (129, (V.lst 3 (((mget y38.links x71).getD ([] : (List Tprovenderref6_link))).map encTprovenderref6_link))), (130, (iV ((((mget y38.links x71).getD ([] : (List Tprovenderref6_link))).length : Nat) : Int))), (131, (iV (p.1)))], [(0, (Ob.arr 27 4 [(encTGraph a1)])), (1, (Ob.map (m11.map encM9_131))), (2, (Ob.arr 78 6 [(encTprovenderref6_net y38)])), (3, (Ob.arr 143 2 [[(V.map 4), (V.own 5 (p.2.2).length)]])), (4, (Ob.map ((p.2.1).map encM9_4))), (5, (Ob.arr 9 1 ((p.2.2).map encS)))], 6⟩ : St)) (fun n p => RG ((mget y38.links x71).getD ([] : (List Tprovenderref6_link))) (fun tl nn => M30_L5 F k73 tl p.2.1 p.2.2 = some r) n p.1) (fun p h => RG.zero h) (((mget y38.links x71).getD ([] : (List Tprovenderref6_link))).length + 1) (0, m62, l63) (RG.start h) (gr [0, 1, 2, 3, 4, 5] rfl (hB rfl rfl rfl (hM rfl rfl (hB rfl rfl rfl (hB rfl rfl rfl (hM rfl rfl (hR rfl rfl .nil)))))) rfl) (fun n p h => ?_)
      obtain ⟨n79, m80, l81⟩ := p
      refine rn 5 rfl ?_
      refine spL rfl (fun hb82 => ?_) (fun hb82 => ?_)
      ·obtain ⟨x86, tl, hx87, h, hk5⟩ := RG.t hA103 h hb82
       unfold M30_L5 at h
       refine rn 2 rfl ?_
       refine jK h (fun (p : (List ((List UInt8) × Bool)) × (List (List UInt8))) => (⟨[(3, (V.ptr 0 4 0 0)), (10, (V.map 1)), (18, (V.ptr 2 6 0 0)), (19, (V.ptr 3 2 0 0)), (22, (iV n61)), (129, (V.lst 3 (((mget y38.links x71).getD ([] : (List Tprovenderref6_link))).map encTprovenderref6_link))), (130, (iV ((((mget y38.links x71).getD ([] : (List Tprovenderref6_link))).length : Nat) : Int))), (131, (iV n79))], [(0, (Ob.arr 27 4 [(encTGraph a1)])), (1, (Ob.map (m11.map encM9_131))), (2, (Ob.arr 78 6 [(encTprovenderref6_net y38)])), (3, (Ob.arr 143 2 [[(V.map 4), (V.own 5 (p.2).length)]])), (4, (Ob.map ((p.1).map encM9_4))), (5, (Ob.arr 9 1 ((p.2).map encS)))], 6⟩ : St)) (fun k83 p => k83 p.1 p.2 = some r) (fun k83 h => ?_) ?_
       ·refine rn 3 rfl ?_
        refine ixh hx87 rfl rfl ?_
        refine rn 8 rfl ?_
        refine ln rfl rfl ?_
        refine rn 2 rfl ?_
        refine jK h (fun (p : (List ((List UInt8) × Bool)) × (List (List UInt8))) => (⟨[(3, (V.ptr 0 4 0 0)), (10, (V.map 1)), (18, (V.ptr 2 6 0 0)), (19, (V.ptr 3 2 0 0)), (22, (iV n61)), (129, (V.lst 3 (((mget y38.links x71).getD ([] : (List Tprovenderref6_link))).map encTprovenderref6_link))), (130, (iV ((((mget y38.links x71).getD ([] : (List Tprovenderref6_link))).length : Nat) : Int))), (131, (iV n79))], [(0, (Ob.arr 27 4 [(encTGraph a1)])), (1, (Ob.map (m11.map encM9_131))), (2, (Ob.arr 78 6 [(encTprovenderref6_net y38)])), (3, (Ob.arr 143 2 [[(V.map 4), (V.own 5 (p.2).length)]])), (4, (Ob.map ((p.1).map encM9_4))), (5, (Ob.arr 9 1 ((p.2).map encS)))], 6⟩ : St)) (fun k88 p => k88 p.1 p.2 = some r) (fun k88 h => ?_) ?_
        ·refine rn 1 rfl ?_
         refine wl (A := x86.aims) 136 rfl (fun hA102 => ?_)
         refine lC (fun (p : Int × (List ((List UInt8) × Bool)) × (List (List UInt8))) => (⟨[(3, (V.ptr 0 4 0 0)), (10, (V.map 1)), (18, (V.ptr 2 6 0 0)), (19, (V.ptr 3 2 0 0)), (22, (iV n61)), (129, (V.lst 3 (((mget y38.links x71).getD ([] : (List Tprovenderref6_link))).map encTprovenderref6_link))), (130, (iV ((((mget y38.links x71).getD ([] : (List Tprovenderref6_link))).length : Nat) : Int))), (131, (iV n79)), (136, (V.lst 2 (x86.aims.map encTprovenderref6_aim))), (137, (iV ((x86.aims.length : Nat) : Int))), (138, (iV (p.1)))], [(0, (Ob.arr 27 4 [(encTGraph a1)])), (1, (Ob.map (m11.map encM9_131))), (2, (Ob.arr 78 6 [(encTprovenderref6_net y38)])), (3, (Ob.arr 143 2 [[(V.map 4), (V.own 5 (p.2.2).length)]])), (4, (Ob.map ((p.2.1).map encM9_4))), (5, (Ob.arr 9 1 ((p.2.2).map encS)))], 6⟩ : St)) (fun n p => RG x86.aims (fun tl nn => M30_L6 F k88 tl p.2.1 p.2.2 = some r) n p.1) (fun p h => RG.zero h) (x86.aims.length + 1) (0, m80, l81) (RG.start h) (gr [0, 1, 2, 3, 4, 5] rfl (hB rfl rfl rfl (hM rfl rfl (hB rfl rfl rfl (hB rfl rfl rfl (hM rfl rfl (hR rfl rfl .nil)))))) rfl) (fun n p h => ?_)
         obtain ⟨n94, m95, l96⟩ := p
         refine rn 5 rfl ?_
         refine spL rfl (fun hb97 => ?_) (fun hb97 => ?_)
         ·obtain ⟨x98, tl, hx99, h, hk6⟩ := RG.t hA102 h hb97
          unfold M30_L6 at h
          refine rn 5 rfl ?_
          refine ixh hx99 rfl rfl ?_
          obtain ⟨y100, hx101, h⟩ := bind_some h
          refine rn 8 rfl ?_
          refine aops_mcallS (V.tup []) [(V.ptr 3 2 0 0), (sV x98.to)] (fun i => ([3, 4, 5] : List Nat).getD i 0) (fun i => ([3, 4, 5, 7] : List Nat).getD i 0) 7 8 [(3, (Ob.arr 143 2 [[(V.map 4), (V.own 7 (y100.2).length)]])), (4, (Ob.map ((y100.1).map encM9_4))), (5, Ob.dead), (7, (Ob.arr 9 1 ((y100.2).map encS)))] fOk66 wants_none rfl (evm_cons rfl (evm_cons rfl evm_nil)) (.cons (Sub.ptr rfl rfl) (.cons (Sub.imm (Imm.con _)) .nil)) (.cons rfl (ObSub.box (.cons (Sub.map rfl rfl) (.cons (Sub.own rfl rfl) .nil))) (.cons rfl (ObSub.maps encM9_4_imm) (.cons rfl (ObSub.rows (rows_imm imms_encS)) .nil))) (W66 F x98.to m95 l96 y100 hx101) rfl rfl rfl rfl (Sub.immT (Imm.tup .nil)) (.cons rfl (ObSub.box (.cons (Sub.mapT rfl rfl) (.cons (Sub.ownT rfl rfl) .nil))) (.cons rfl (ObSub.mapsT encM9_4_imm) (.cons rfl ObSub.deadT (.cons rfl (ObSub.rowsT (rows_imm imms_encS)) .nil)))) _ rfl ?_
          refine fo (rn 6 rfl ?_)
          exact jX ((w64 (n94 + 1)), (y100.1), (y100.2)) (hk6 _ h) (gr [0, 1, 2, 3, 4, 7] rfl (hB rfl rfl rfl (hM rfl rfl (hB rfl rfl rfl (hB rfl rfl rfl (hM rfl rfl (hR rfl rfl .nil)))))) rfl)
         replace h := RG.f h hb97
         unfold M30_L6 at h
         refine rn 1 rfl ?_
         exact jX (m95, l96) h (gr [0, 1, 2, 3, 4, 5] rfl (hB rfl rfl rfl (hM rfl rfl (hB rfl rfl rfl (hB rfl rfl rfl (hM rfl rfl (hR rfl rfl .nil)))))) rfl)
        rintro ⟨m89, l90⟩ h
        refine rn 1 rfl ?_
        exact jX (m89, l90) h (gr [0, 1, 2, 3, 4, 5] rfl (hB rfl rfl rfl (hM rfl rfl (hB rfl rfl rfl (hB rfl rfl rfl (hM rfl rfl (hR rfl rfl .nil)))))) rfl)
       rintro ⟨m84, l85⟩ h
       refine rn 4 rfl ?_
       exact jX ((w64 (n79 + 1)), m84, l85) (hk5 _ h) (gr [0, 1, 2, 3, 4, 5] rfl (hB rfl rfl rfl (hM rfl rfl (hB rfl rfl rfl (hB rfl rfl rfl (hM rfl rfl (hR rfl rfl .nil)))))) rfl)
      replace h := RG.f h hb82
      unfold M30_L5 at h
      refine rn 1 rfl ?_
      exact jX (m80, l81) h (gr [0, 1, 2, 3, 4, 5] rfl (hB rfl rfl rfl (hM rfl rfl (hB rfl rfl rfl (hB rfl rfl rfl (hM rfl rfl (hR rfl rfl .nil)))))) rfl)
     rintro ⟨m74, l75⟩ h
     refine rn 1 rfl ?_
     exact jX (m74, l75) h (gr [0, 1, 2, 3, 4, 5] rfl (hB rfl rfl rfl (hM rfl rfl (hB rfl rfl rfl (hB rfl rfl rfl (hM rfl rfl (hR rfl rfl .nil)))))) rfl)
    refine rn 6 rfl ?_
    refine ln rfl rfl ?_
    refine rn 2 rfl ?_
    refine jK h (fun (p : (List ((List UInt8) × Bool)) × (List (List UInt8))) => (⟨[(3, (V.ptr 0 4 0 0)), (10, (V.map 1)), (18, (V.ptr 2 6 0 0)), (19, (V.ptr 3 2 0 0)), (22, (iV n61)), (23, (V.ptr 4 3 0 0))], [(0, (Ob.arr 27 4 [(encTGraph a1)])), (1, (Ob.map (m11.map encM9_131))), (2, (Ob.arr 78 6 [(encTprovenderref6_net y38)])), (3, (Ob.arr 143 2 [[(V.map 5), (V.own 6 (p.2).length)]])), (4, (Ob.arr 131 3 [(encTSummary ((mget m11 x68).getD (TSummary.mk ([] : List UInt8) ([] : (List (List UInt8))) ([] : (List TOuter)))))])), (5, (Ob.map ((p.1).map encM9_4))), (6, (Ob.arr 9 1 ((p.2).map encS)))], 7⟩ : St)) (fun k104 p => k104 p.1 p.2 = some r) (fun k104 h => ?_) ?_
    ·refine rn 1 rfl ?_
     refine wl (A := ((mget m11 x68).getD (TSummary.mk ([] : List UInt8) ([] : (List (List UInt8))) ([] : (List TOuter)))).Within) 149 rfl (fun hA118 => ?_)
     refine lC (fun (p : Int × (List ((List UInt8) × Bool)) × (List (List UInt8))) => (⟨[(3, (V.ptr 0 4 0 0)), (10, (V.map 1)), (18, (V.ptr 2 6 0 0)), (19, (V.ptr 3 2 0 0)), (22, (iV n61)), (23, (V.ptr 4 3 0 0)), (149, (V.lst 1 (((mget m11 x68).getD (TSummary.mk ([] : List UInt8) ([] : (List (List UInt8))) ([] : (List TOuter)))).Within.map encS))), (150, (iV ((((mget m11 x68).getD (TSummary.mk ([] : List UInt8) ([] : (List (List UInt8))) ([] : (List TOuter)))).Within.length : Nat) : Int))), (151, (iV (p.1)))], [(0, (Ob.arr 27 4 [(encTGraph a1)])), (1, (Ob.map (m11.map encM9_131))), (2, (Ob.arr 78 6 [(encTprovenderref6_net y38)])), (3, (Ob.arr 143 2 [[(V.map 5), (V.own 6 (p.2.2).length)]])), (4, (Ob.arr 131 3 [(encTSummary ((mget m11 x68).getD (TSummary.mk ([] : List UInt8) ([] : (List (List UInt8))) ([] : (List TOuter)))))])), (5, (Ob.map ((p.2.1).map encM9_4))), (6, (Ob.arr 9 1 ((p.2.2).map encS)))], 7⟩ : St)) (fun n p => RG (((mget m11 x68).getD (TSummary.mk ([] : List UInt8) ([] : (List (List UInt8))) ([] : (List TOuter)))).Within) (fun tl nn => M30_L7 F k104 tl p.2.1 p.2.2 = some r) n p.1) (fun p h => RG.zero h) ((((mget m11 x68).getD (TSummary.mk ([] : List UInt8) ([] : (List (List UInt8))) ([] : (List TOuter)))).Within).length + 1) (0, m62, l63) (RG.start h) (gr [0, 1, 2, 3, 6, 4, 5] rfl (hB rfl rfl rfl (hM rfl rfl (hB rfl rfl rfl (hB rfl rfl rfl (hB rfl rfl rfl (hM rfl rfl (hR rfl rfl .nil))))))) rfl) (fun n p h => ?_)
     obtain ⟨n110, m111, l112⟩ := p
     refine rn 5 rfl ?_
     refine spL rfl (fun hb113 => ?_) (fun hb113 => ?_)
     ·obtain ⟨x114, tl, hx115, h, hk7⟩ := RG.t hA118 h hb113
      unfold M30_L7 at h
      refine rn 5 rfl ?_
      refine ixh hx115 rfl rfl ?_
      obtain ⟨y116, hx117, h⟩ := bind_some h
      refine rn 6 rfl ?_
      refine aops_mcallS (V.tup []) [(V.ptr 3 2 0 0), (sV x114)] (fun i => ([3, 5, 6] : List Nat).getD i 0) (fun i => ([3, 5, 6, 7] : List Nat).getD i 0) 7 8 [(3, (Ob.arr 143 2 [[(V.map 5), (V.own 7 (y116.2).length)]])), (5, (Ob.map ((y116.1).map encM9_4))), (6, Ob.dead), (7, (Ob.arr 9 1 ((y116.2).map encS)))] fOk66 wants_none rfl (evm_cons rfl (evm_cons rfl evm_nil)) (.cons (Sub.ptr rfl rfl) (.cons (Sub.imm (Imm.con _)) .nil)) (.cons rfl (ObSub.box (.cons (Sub.map rfl rfl) (.cons (Sub.own rfl rfl) .nil))) (.cons rfl (ObSub.maps encM9_4_imm) (.cons rfl (ObSub.rows (rows_imm imms_encS)) .nil))) (W66 F x114 m111 l112 y116 hx117) rfl rfl rfl rfl (Sub.immT (Imm.tup .nil)) (.cons rfl (ObSub.box (.cons (Sub.mapT rfl rfl) (.cons (Sub.ownT rfl rfl) .nil))) (.cons rfl (ObSub.mapsT encM9_4_imm) (.cons rfl ObSub.deadT (.cons rfl (ObSub.rowsT (rows_imm imms_encS)) .nil)))) _ rfl ?_
      refine fo (rn 6 rfl ?_)
      exact jX ((w64 (n110 + 1)), (y116.1), (y116.2)) (hk7 _ h) (gr [0, 1, 2, 3, 4, 5, 7] rfl (hB rfl rfl rfl (hM rfl rfl (hB rfl rfl rfl (hB rfl rfl rfl (hB rfl rfl rfl (hM rfl rfl (hR rfl rfl .nil))))))) rfl)
     replace h := RG.f h hb113
     unfold M30_L7 at h
     refine rn 1 rfl ?_
     exact jX (m111, l112) h (gr [0, 1, 2, 3, 4, 5, 6] rfl (hB rfl rfl rfl (hM rfl rfl (hB rfl rfl rfl (hB rfl rfl rfl (hB rfl rfl rfl (hM rfl rfl (hR rfl rfl .nil))))))) rfl)
    rintro ⟨m105, l106⟩ h
    refine rn 4 rfl ?_
    refine ln rfl rfl ?_
    refine rn 2 rfl ?_
    refine jK h (fun (p : (List ((List UInt8) × Bool)) × (List (List UInt8))) => (⟨[(3, (V.ptr 0 4 0 0)), (10, (V.map 1)), (18, (V.ptr 2 6 0 0)), (19, (V.ptr 3 2 0 0)), (22, (iV n61))], [(0, (Ob.arr 27 4 [(encTGraph a1)])), (1, (Ob.map (m11.map encM9_131))), (2, (Ob.arr 78 6 [(encTprovenderref6_net y38)])), (3, (Ob.arr 143 2 [[(V.map 4), (V.own 5 (p.2).length)]])), (4, (Ob.map ((p.1).map encM9_4))), (5, (Ob.arr 9 1 ((p.2).map encS)))], 6⟩ : St)) (fun k119 p => k119 p.1 p.2 = some r) (fun k119 h => ?_) ?_
    ·refine rn 1 rfl ?_
     refine wl (A := ((mget m11 x68).getD (TSummary.mk ([] : List UInt8) ([] : (List (List UInt8))) ([] : (List TOuter)))).Outer) 160 rfl (fun hA155 => ?_)
     refine lC (fun (p : Int × (List ((List UInt8) × Bool)) × (List (List UInt8))) => (⟨[(3, (V.ptr 0 4 0 0)), (10, (V.map 1)), (18, (V.ptr 2 6 0 0)), (19, (V.ptr 3 2 0 0)), (22, (iV n61)), (160, (V.lst 2 (((mget m11 x68).getD (TSummary.mk ([] : List UInt8) ([] : (List (List UInt8))) ([] : (List TOuter)))).Outer.map encTOuter))), (161, (iV ((((mget m11 x68).getD (TSummary.mk ([] : List UInt8) ([] : (List (List UInt8))) ([] : (List TOuter)))).Outer.length : Nat) : Int))), (162, (iV (p.1)))], [(0, (Ob.arr 27 4 [(encTGraph a1)])), (1, (Ob.map (m11.map encM9_131))), (2, (Ob.arr 78 6 [(encTprovenderref6_net y38)])), (3, (Ob.arr 143 2 [[(V.map 4), (V.own 5 (p.2.2).length)]])), (4, (Ob.map ((p.2.1).map encM9_4))), (5, (Ob.arr 9 1 ((p.2.2).map encS)))], 6⟩ : St)) (fun n p => RG (((mget m11 x68).getD (TSummary.mk ([] : List UInt8) ([] : (List (List UInt8))) ([] : (List TOuter)))).Outer) (fun tl nn => M30_L8 F a1 k119 tl p.2.1 p.2.2 = some r) n p.1) (fun p h => RG.zero h) ((((mget m11 x68).getD (TSummary.mk ([] : List UInt8) ([] : (List (List UInt8))) ([] : (List TOuter)))).Outer).length + 1) (0, m105, l106) (RG.start h) (gr [0, 1, 2, 3, 5, 6] rfl (hB rfl rfl rfl (hM rfl rfl (hB rfl rfl rfl (hB rfl rfl rfl (hM rfl rfl (hR rfl rfl .nil)))))) rfl) (fun n p h => ?_)
     obtain ⟨n125, m126, l127⟩ := p
     refine rn 5 rfl ?_
     refine spL rfl (fun hb128 => ?_) (fun hb128 => ?_)
     ·obtain ⟨x132, tl, hx133, h, hk8⟩ := RG.t hA155 h hb128
      unfold M30_L8 at h
      refine rn 2 rfl ?_
      refine jK h (fun (p : (List ((List UInt8) × Bool)) × (List (List UInt8))) => (⟨[(3, (V.ptr 0 4 0 0)), (10, (V.map 1)), (18, (V.ptr 2 6 0 0)), (19, (V.ptr 3 2 0 0)), (22, (iV n61)), (160, (V.lst 2 (((mget m11 x68).getD (TSummary.mk ([] : List UInt8) ([] : (List (List UInt8))) ([] : (List TOuter)))).Outer.map encTOuter))), (161, (iV ((((mget m11 x68).getD (TSummary.mk ([] : List UInt8) ([] : (List (List UInt8))) ([] : (List TOuter)))).Outer.length : Nat) : Int))), (162, (iV n125))], [(0, (Ob.arr 27 4 [(encTGraph a1)])), (1, (Ob.map (m11.map encM9_131))), (2, (Ob.arr 78 6 [(encTprovenderref6_net y38)])), (3, (Ob.arr 143 2 [[(V.map 4), (V.own 5 (p.2).length)]])), (4, (Ob.map ((p.1).map encM9_4))), (5, (Ob.arr 9 1 ((p.2).map encS)))], 6⟩ : St)) (fun k129 p => k129 p.1 p.2 = some r) (fun k129 h => ?_) ?_
      ·refine rn 3 rfl ?_
       refine ixh hx133 rfl rfl ?_
       refine rn 19 rfl ?_
       refine jK h (fun (p : Int × (List UInt8)) => (⟨[(3, (V.ptr 0 4 0 0)), (10, (V.map 1)), (18, (V.ptr 2 6 0 0)), (19, (V.ptr 3 2 0 0)), (22, (iV n61)), (33, (V.ptr 4 4 0 0)), (160, (V.lst 2 (((mget m11 x68).getD (TSummary.mk ([] : List UInt8) ([] : (List (List UInt8))) ([] : (List TOuter)))).Outer.map encTOuter))), (161, (iV ((((mget m11 x68).getD (TSummary.mk ([] : List UInt8) ([] : (List (List UInt8))) ([] : (List TOuter)))).Outer.length : Nat) : Int))), (162, (iV n125))], [(0, (Ob.arr 27 4 [(encTGraph a1)])), (1, (Ob.map (m11.map encM9_131))), (2, (Ob.arr 78 6 [(encTprovenderref6_net y38)])), (3, (Ob.arr 143 2 [[(V.map 5), (V.own 6 l127.length)]])), (4, (Ob.arr 82 4 [[(iV (p.1)), (sV x132.Target), (sV (p.2)), (sV ([] : List UInt8))]])), (5, (Ob.map (m126.map encM9_4))), (6, (Ob.arr 9 1 (l127.map encS)))], 7⟩ : St)) (fun k134 p => k134 p.1 p.2 = some r) (fun k134 h => ?_) ?_
       ·refine spC h rfl (fun hb137 h => ?_) (fun hb137 h => ?_)
        ·refine rn 8 rfl ?_
         exact jX (2, x132.Method) h (gr [0, 1, 2, 3, 7, 4, 5] rfl (hB rfl rfl rfl (hM rfl rfl (hB rfl rfl rfl (hB rfl rfl rfl (hB rfl rfl rfl (hM rfl rfl (hR rfl rfl .nil))))))) rfl)
        refine rn 1 rfl ?_
        exact jX (1, ([] : List UInt8)) h (gr [0, 1, 2, 3, 7, 4, 5] rfl (hB rfl rfl rfl (hM rfl rfl (hB rfl rfl rfl (hB rfl rfl rfl (hB rfl rfl rfl (hM rfl rfl (hR rfl rfl .nil))))))) rfl)
       rintro ⟨n135, s136⟩ h
       refine rn 4 rfl ?_
       refine cl h rfl rfl rfl (W58 _ _ _) rfl (fun y138 hx139 h => ?_)
       refine ln rfl rfl ?_
       refine rn 2 rfl ?_
       refine jK h (fun (p : (List ((List UInt8) × Bool)) × (List (List UInt8))) => (⟨[(3, (V.ptr 0 4 0 0)), (10, (V.map 1)), (18, (V.ptr 2 6 0 0)), (19, (V.ptr 3 2 0 0)), (22, (iV n61)), (160, (V.lst 2 (((mget m11 x68).getD (TSummary.mk ([] : List UInt8) ([] : (List (List UInt8))) ([] : (List TOuter)))).Outer.map encTOuter))), (161, (iV ((((mget m11 x68).getD (TSummary.mk ([] : List UInt8) ([] : (List (List UInt8))) ([] : (List TOuter)))).Outer.length : Nat) : Int))), (162, (iV n125))], [(0, (Ob.arr 27 4 [(encTGraph a1)])), (1, (Ob.map (m11.map encM9_131))), (2, (Ob.arr 78 6 [(encTprovenderref6_net y38)])), (3, (Ob.arr 143 2 [[(V.map 4), (V.own 5 (p.2).length)]])), (4, (Ob.map ((p.1).map encM9_4))), (5, (Ob.arr 9 1 ((p.2).map encS)))], 6⟩ : St)) (fun k140 p => k140 p.1 p.2 = some r) (fun k140 h => ?_) ?_
       ·refine rn 1 rfl ?_
        refine wl (A := y138) 179 rfl (fun hA154 => ?_)
        refine lC (fun (p : Int × (List ((List UInt8) × Bool)) × (List (List UInt8))) => (⟨[(3, (V.ptr 0 4 0 0)), (10, (V.map 1)), (18, (V.ptr 2 6 0 0)), (19, (V.ptr 3 2 0 0)), (22, (iV n61)), (160, (V.lst 2 (((mget m11 x68).getD (TSummary.mk ([] : List UInt8) ([] : (List (List UInt8))) ([] : (List TOuter)))).Outer.map encTOuter))), (161, (iV ((((mget m11 x68).getD (TSummary.mk ([] : List UInt8) ([] : (List (List UInt8))) ([] : (List TOuter)))).Outer.length : Nat) : Int))), (162, (iV n125)), (179, (V.lst 2 (y138.map encTprovenderref6_aim))), (180, (iV ((y138.length : Nat) : Int))), (181, (iV (p.1)))], [(0, (Ob.arr 27 4 [(encTGraph a1)])), (1, (Ob.map (m11.map encM9_131))), (2, (Ob.arr 78 6 [(encTprovenderref6_net y38)])), (3, (Ob.arr 143 2 [[(V.map 4), (V.own 5 (p.2.2).length)]])), (4, (Ob.map ((p.2.1).map encM9_4))), (5, (Ob.arr 9 1 ((p.2.2).map encS)))], 6⟩ : St)) (fun n p => RG y138 (fun tl nn => M30_L9 F k140 tl p.2.1 p.2.2 = some r) n p.1) (fun p h => RG.zero h) (y138.length + 1) (0, m126, l127) (RG.start h) (gr [0, 1, 2, 3, 5, 6] rfl (hB rfl rfl rfl (hM rfl rfl (hB rfl rfl rfl (hB rfl rfl rfl (hM rfl rfl (hR rfl rfl .nil)))))) rfl) (fun n p h => ?_)
        obtain ⟨n146, m147, l148⟩ := p
        refine rn 5 rfl ?_
        refine spL rfl (fun hb149 => ?_) (fun hb149 => ?_)
        ·obtain ⟨x150, tl, hx151, h, hk9⟩ := RG.t hA154 h hb149
         unfold M30_L9 at h
         refine rn 5 rfl ?_
         refine ixh hx151 rfl rfl ?_
         obtain ⟨y152, hx153, h⟩ := bind_some h
         refine rn 8 rfl ?_
         refine aops_mcallS (V.tup []) [(V.ptr 3 2 0 0), (sV x150.to)] (fun i => ([3, 4, 5] : List Nat).getD i 0) (fun i => ([3, 4, 5, 7] : List Nat).getD i 0) 7 8 [(3, (Ob.arr 143 2 [[(V.map 4), (V.own 7 (y152.2).length)]])), (4, (Ob.map ((y152.1).map encM9_4))), (5, Ob.dead), (7, (Ob.arr 9 1 ((y152.2).map encS)))] fOk66 wants_none rfl (evm_cons rfl (evm_cons rfl evm_nil)) (.cons (Sub.ptr rfl rfl) (.cons (Sub.imm (Imm.con _)) .nil)) (.cons rfl (ObSub.box (.cons (Sub.map rfl rfl) (.cons (Sub.own rfl rfl) .nil))) (.cons rfl (ObSub.maps encM9_4_imm) (.cons rfl (ObSub.rows (rows_imm imms_encS)) .nil))) (W66 F x150.to m147 l148 y152 hx153) rfl rfl rfl rfl (Sub.immT (Imm.tup .nil)) (.cons rfl (ObSub.box (.cons (Sub.mapT rfl rfl) (.cons (Sub.ownT rfl rfl) .nil))) (.cons rfl (ObSub.mapsT encM9_4_imm) (.cons rfl ObSub.deadT (.cons rfl (ObSub.rowsT (rows_imm imms_encS)) .nil)))) _ rfl ?_
         refine fo (rn 6 rfl ?_)
         exact jX ((w64 (n146 + 1)), (y152.1), (y152.2)) (hk9 _ h) (gr [0, 1, 2, 3, 4, 7] rfl (hB rfl rfl rfl (hM rfl rfl (hB rfl rfl rfl (hB rfl rfl rfl (hM rfl rfl (hR rfl rfl .nil)))))) rfl)
        replace h := RG.f h hb149
        unfold M30_L9 at h
        refine rn 1 rfl ?_
        exact jX (m147, l148) h (gr [0, 1, 2, 3, 4, 5] rfl (hB rfl rfl rfl (hM rfl rfl (hB rfl rfl rfl (hB rfl rfl rfl (hM rfl rfl (hR rfl rfl .nil)))))) rfl)
       rintro ⟨m141, l142⟩ h
       refine rn 1 rfl ?_
       exact jX (m141, l142) h (gr [0, 1, 2, 3, 4, 5] rfl (hB rfl rfl rfl (hM rfl rfl (hB rfl rfl rfl (hB rfl rfl rfl (hM rfl rfl (hR rfl rfl .nil)))))) rfl)
      rintro ⟨m130, l131⟩ h
      refine rn 4 rfl ?_
      exact jX ((w64 (n125 + 1)), m130, l131) (hk8 _ h) (gr [0, 1, 2, 3, 4, 5] rfl (hB rfl rfl rfl (hM rfl rfl (hB rfl rfl rfl (hB rfl rfl rfl (hM rfl rfl (hR rfl rfl .nil)))))) rfl)
     replace h := RG.f h hb128
     unfold M30_L8 at h
     refine rn 1 rfl ?_
     exact jX (m126, l127) h (gr [0, 1, 2, 3, 4, 5] rfl (hB rfl rfl rfl (hM rfl rfl (hB rfl rfl rfl (hB rfl rfl rfl (hM rfl rfl (hR rfl rfl .nil)))))) rfl)
    rintro ⟨m120, l121⟩ h
    refine rn 1 rfl ?_
    exact jX (m120, l121) h (gr [0, 1, 2, 3, 4, 5] rfl (hB rfl rfl rfl (hM rfl rfl (hB rfl rfl rfl (hB rfl rfl rfl (hM rfl rfl (hR rfl rfl .nil)))))) rfl)
   rintro ⟨m66, l67⟩ h
   refine rn 5 rfl ?_
   exact jX ((w64 (n61 + 1)), m66, l67) h (gr [0, 1, 2, 3, 4, 5] rfl (hB rfl rfl rfl (hM rfl rfl (hB rfl rfl rfl (hB rfl rfl rfl (hM rfl rfl (hR rfl rfl .nil)))))) rfl)
  refine rn 1 rfl ?_
  exact jX (m62, l63) h (gr [3, 4, 5] rfl (hB rfl rfl rfl (hM rfl rfl (hR rfl rfl .nil))) rfl)
 rintro ⟨m56, l57⟩ h
 obtain ⟨y156, hx157, h⟩ := bind_some h
 refine rn 6 rfl ?_
 refine aops_ghost (ghost_frzMx (es := m56.map encM9_4) 1 rfl encM9_4_imm (.put (t := 194) rfl Sub.frzM .refl) (.put (t := 0) (v := (Ob.arr 143 2 [[(V.imap (m56.map encM9_4)), (V.own 2 l57.length)]])) rfl (ObSub.box (.cons Sub.frzM (.cons Sub.keepM .nil))) .refl)) ?_
 refine aops_call (V.lst 1 (y156.map encS)) [(V.imap (m56.map encM9_4))] fOk34 wants_none (evm_cons rfl evm_nil) (.cons (Imm.imap _) .nil) (W34 F m56 y156 hx157) rfl ?_
 refine fo (rn 3 rfl ?_)
 exact rt h rfl
theorem W8 (F : Nat) (a1 : TGraph) (a2 : (List (List UInt8))) (a3 : (List (List TSummary))) (r : Bool) (h : M8 F a1 a2 a3 = some r) : Pure Try.prog 8 [(V.agg (encTGraph a1)), (V.lst 1 (a2.map encS)), (V.lst 1 (a3.map encL131))] (bV r) := by
 refine pin (fun r => (bV r)) r rfl Try.func8 rfl rfl rfl rfl rfl (fun w0 m0 hg => ?_)
 unfold M8 at h
 refine rn 10 rfl ?_
 refine cl h rfl rfl rfl (W29 _ _ _ _) rfl (fun y4 hx5 h => ?_)
 refine rn 11 rfl ?_
 refine cl h rfl rfl rfl (W30 _ _ _ _) rfl (fun y6 hx7 h => ?_)
 refine rn 12 rfl ?_
 refine spO 28 h rfl (fun hb8 h => ?_) (fun hb8 h => ?_)
 ·refine rn 2 rfl ?_
  refine cl h rfl rfl rfl (W15 _ _ _) rfl (fun y9 hx10 h => ?_)
  refine rn 2 rfl ?_
  refine spO 33 h rfl (fun hb11 h => ?_) (fun hb11 h => ?_)
  ·refine cl h rfl rfl rfl (W11 _) rfl (fun y12 hx13 h => ?_)
   refine rn 3 rfl ?_
   exact rt h rfl
  refine rn 4 rfl ?_
  exact rt h rfl
 refine rn 9 rfl ?_
 exact rt h rfl
end Go.Proofs.Ytpbkggamiipdmaa
