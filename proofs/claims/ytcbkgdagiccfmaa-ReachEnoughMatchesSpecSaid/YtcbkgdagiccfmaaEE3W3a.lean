/- Part of the proof: E3W3a. -/
import Derived.Test.YtcbkgdagiccfmaaEPvX
import Derived.Test.YtcbkgdagiccfmaaEEI
import Derived.KernelRfl
namespace Go.Proofs.Ytcbkgdagiccfmaa
open Go Go.Pv
set_option linter.unusedVariables false
set_option maxRecDepth 100000
theorem W40 (F : Nat) (a1 : TGraph) (a2 : Bool) (r : Treach_checker) (h : M40 F a1 a2 = some r) : Pure Try.prog 40 [(V.agg (encTGraph a1)), (bV a2)] (V.agg (encTreach_checker r)) := by
 refine pin (fun r => (V.agg (encTreach_checker r))) r rfl Try.func40 rfl rfl rfl rfl rfl (fun w0 m0 hg => ?_)
 unfold M40 at h
 refine rn 20 rfl ?_
 refine ln rfl rfl ?_
 refine rn 2 rfl ?_
 refine jK h (fun (p : (List ((List UInt8) × TIface))) => (⟨[(2, (V.ptr 0 4 0 0)), (4, (V.ptr 1 4 0 0)), (5, (V.ptr 2 4 0 0))], [(0, (Ob.arr 27 4 [(encTGraph a1)])), (1, (Ob.arr 107 4 [[(bV false), (V.con (.map none)), (V.con (.map none)), (V.con (.map none))]])), (2, (Ob.arr 107 4 [[(bV a2), (V.map 3), (V.map 4), (V.map 5)]])), (3, (Ob.map (p.map encM9_114))), (4, (Ob.map (([] : List ((List UInt8) × Bool)).map encM9_4))), (5, (Ob.map (([] : List ((List UInt8) × Bool)).map encM9_4)))], 6⟩ : St)) (fun k3 p => k3 p = some r) (fun k3 h => ?_) ?_
 ·refine rn 1 rfl ?_
  refine wl (A := a1.Ifaces) 18 rfl (fun hA12 => ?_)
  refine lC (fun (p : Int × (List ((List UInt8) × TIface))) => (⟨[(2, (V.ptr 0 4 0 0)), (4, (V.ptr 1 4 0 0)), (5, (V.ptr 2 4 0 0)), (18, (V.lst 2 (a1.Ifaces.map encTIface))), (19, (iV ((a1.Ifaces.length : Nat) : Int))), (20, (iV (p.1)))], [(0, (Ob.arr 27 4 [(encTGraph a1)])), (1, (Ob.arr 107 4 [[(bV false), (V.con (.map none)), (V.con (.map none)), (V.con (.map none))]])), (2, (Ob.arr 107 4 [[(bV a2), (V.map 3), (V.map 4), (V.map 5)]])), (3, (Ob.map ((p.2).map encM9_114))), (4, (Ob.map (([] : List ((List UInt8) × Bool)).map encM9_4))), (5, (Ob.map (([] : List ((List UInt8) × Bool)).map encM9_4)))], 6⟩ : St)) (fun n p => RG a1.Ifaces (fun tl nn => M40_L1 F k3 tl p.2 = some r) n p.1) (fun p h => RG.zero h) (a1.Ifaces.length + 1) (0, ([] : List ((List UInt8) × TIface))) (RG.start h) (gr [0, 1, 5, 2, 3, 4] rfl (hB rfl rfl rfl (hB rfl rfl rfl (hB rfl rfl rfl (hM rfl rfl (hM rfl rfl (hM rfl rfl .nil)))))) rfl) (fun n p h => ?_)
  obtain ⟨n7, m8⟩ := p
  refine rn 5 rfl ?_
  refine spL rfl (fun hb9 => ?_) (fun hb9 => ?_)
  ·obtain ⟨x10, tl, hx11, h, hk1⟩ := RG.t hA12 h hb9
   unfold M40_L1 at h
   refine rn 5 rfl ?_
   refine ixh hx11 rfl rfl ?_
   refine rn 10 rfl ?_
   refine aops_mapUpdate (es := m8.map encM9_114) ((mput m8 x10.Name x10).map encM9_114) tMap105 tKey9 wants_none rfl rfl (.con rfl) ⟨_, rfl⟩ encM9_114_good rfl (encM9_114_puts m8 x10.Name x10) ?_
   refine fo (rn 6 rfl ?_)
   exact jX ((w64 (n7 + 1)), (mput m8 x10.Name x10)) (hk1 _ h) (gr [0, 1, 2, 3, 4, 5] rfl (hB rfl rfl rfl (hB rfl rfl rfl (hB rfl rfl rfl (hM rfl rfl (hM rfl rfl (hM rfl rfl .nil)))))) rfl)
  replace h := RG.f h hb9
  unfold M40_L1 at h
  refine rn 1 rfl ?_
  exact jX m8 h (gr [0, 1, 2, 3, 4, 5] rfl (hB rfl rfl rfl (hB rfl rfl rfl (hB rfl rfl rfl (hM rfl rfl (hM rfl rfl (hM rfl rfl .nil)))))) rfl)
 intro m4 h
 refine rn 5 rfl ?_
 refine ln rfl rfl ?_
 refine rn 2 rfl ?_
 refine jK h (fun (p : (List ((List UInt8) × Bool))) => (⟨[(2, (V.ptr 0 4 0 0)), (4, (V.ptr 1 4 0 0)), (5, (V.ptr 2 4 0 0))], [(0, (Ob.arr 27 4 [(encTGraph a1)])), (1, (Ob.arr 107 4 [[(bV false), (V.con (.map none)), (V.con (.map none)), (V.con (.map none))]])), (2, (Ob.arr 107 4 [[(bV a2), (V.map 3), (V.map 4), (V.map 5)]])), (3, (Ob.map (m4.map encM9_114))), (4, (Ob.map (p.map encM9_4))), (5, (Ob.map (([] : List ((List UInt8) × Bool)).map encM9_4)))], 6⟩ : St)) (fun k13 p => k13 p = some r) (fun k13 h => ?_) ?_
 ·refine rn 1 rfl ?_
  refine wl (A := a1.Types) 31 rfl (fun hA22 => ?_)
  refine lC (fun (p : Int × (List ((List UInt8) × Bool))) => (⟨[(2, (V.ptr 0 4 0 0)), (4, (V.ptr 1 4 0 0)), (5, (V.ptr 2 4 0 0)), (31, (V.lst 2 (a1.Types.map encTType))), (32, (iV ((a1.Types.length : Nat) : Int))), (33, (iV (p.1)))], [(0, (Ob.arr 27 4 [(encTGraph a1)])), (1, (Ob.arr 107 4 [[(bV false), (V.con (.map none)), (V.con (.map none)), (V.con (.map none))]])), (2, (Ob.arr 107 4 [[(bV a2), (V.map 3), (V.map 4), (V.map 5)]])), (3, (Ob.map (m4.map encM9_114))), (4, (Ob.map ((p.2).map encM9_4))), (5, (Ob.map (([] : List ((List UInt8) × Bool)).map encM9_4)))], 6⟩ : St)) (fun n p => RG a1.Types (fun tl nn => M40_L2 F k13 tl p.2 = some r) n p.1) (fun p h => RG.zero h) (a1.Types.length + 1) (0, ([] : List ((List UInt8) × Bool))) (RG.start h) (gr [0, 1, 2, 3, 4, 5] rfl (hB rfl rfl rfl (hB rfl rfl rfl (hB rfl rfl rfl (hM rfl rfl (hM rfl rfl (hM rfl rfl .nil)))))) rfl) (fun n p h => ?_)
  obtain ⟨n17, m18⟩ := p
  refine rn 5 rfl ?_
  refine spL rfl (fun hb19 => ?_) (fun hb19 => ?_)
  ·obtain ⟨x20, tl, hx21, h, hk2⟩ := RG.t hA22 h hb19
   unfold M40_L2 at h
   refine rn 5 rfl ?_
   refine ixh hx21 rfl rfl ?_
   refine rn 9 rfl ?_
   refine aops_mapUpdate (es := m18.map encM9_4) ((mput m18 x20.Name true).map encM9_4) tMap52 tKey9 wants_none rfl rfl (.con rfl) ⟨_, rfl⟩ encM9_4_good rfl (encM9_4_puts m18 x20.Name true) ?_
   refine fo (rn 6 rfl ?_)
   exact jX ((w64 (n17 + 1)), (mput m18 x20.Name true)) (hk2 _ h) (gr [0, 1, 2, 3, 4, 5] rfl (hB rfl rfl rfl (hB rfl rfl rfl (hB rfl rfl rfl (hM rfl rfl (hM rfl rfl (hM rfl rfl .nil)))))) rfl)
  replace h := RG.f h hb19
  unfold M40_L2 at h
  refine rn 1 rfl ?_
  exact jX m18 h (gr [0, 1, 2, 3, 4, 5] rfl (hB rfl rfl rfl (hB rfl rfl rfl (hB rfl rfl rfl (hM rfl rfl (hM rfl rfl (hM rfl rfl .nil)))))) rfl)
 intro m14 h
 refine rn 5 rfl ?_
 refine ln rfl rfl ?_
 refine rn 2 rfl ?_
 refine jK h (fun (p : (List ((List UInt8) × Bool))) => (⟨[(4, (V.ptr 0 4 0 0)), (5, (V.ptr 1 4 0 0))], [(0, (Ob.arr 107 4 [[(bV false), (V.con (.map none)), (V.con (.map none)), (V.con (.map none))]])), (1, (Ob.arr 107 4 [[(bV a2), (V.map 2), (V.map 3), (V.map 4)]])), (2, (Ob.map (m4.map encM9_114))), (3, (Ob.map (m14.map encM9_4))), (4, (Ob.map (p.map encM9_4)))], 5⟩ : St)) (fun k23 p => k23 p = some r) (fun k23 h => ?_) ?_
 ·refine rn 1 rfl ?_
  refine wl (A := a1.Funcs) 43 rfl (fun hA32 => ?_)
  refine lC (fun (p : Int × (List ((List UInt8) × Bool))) => (⟨[(4, (V.ptr 0 4 0 0)), (5, (V.ptr 1 4 0 0)), (43, (V.lst 4 (a1.Funcs.map encTFunc))), (44, (iV ((a1.Funcs.length : Nat) : Int))), (45, (iV (p.1)))], [(0, (Ob.arr 107 4 [[(bV false), (V.con (.map none)), (V.con (.map none)), (V.con (.map none))]])), (1, (Ob.arr 107 4 [[(bV a2), (V.map 2), (V.map 3), (V.map 4)]])), (2, (Ob.map (m4.map encM9_114))), (3, (Ob.map (m14.map encM9_4))), (4, (Ob.map ((p.2).map encM9_4)))], 5⟩ : St)) (fun n p => RG a1.Funcs (fun tl nn => M40_L3 F k23 tl p.2 = some r) n p.1) (fun p h => RG.zero h) (a1.Funcs.length + 1) (0, ([] : List ((List UInt8) × Bool))) (RG.start h) (gr [1, 2, 3, 4, 5] rfl (hB rfl rfl rfl (hB rfl rfl rfl (hM rfl rfl (hM rfl rfl (hM rfl rfl .nil))))) rfl) (fun n p h => ?_)
  obtain ⟨n27, m28⟩ := p
  refine rn 5 rfl ?_
  refine spL rfl (fun hb29 => ?_) (fun hb29 => ?_)
  ·obtain ⟨x30, tl, hx31, h, hk3⟩ := RG.t hA32 h hb29
   unfold M40_L3 at h
   refine rn 5 rfl ?_
   refine ixh hx31 rfl rfl ?_
   refine rn 9 rfl ?_
   refine aops_mapUpdate (es := m28.map encM9_4) ((mput m28 x30.Name true).map encM9_4) tMap52 tKey9 wants_none rfl rfl (.con rfl) ⟨_, rfl⟩ encM9_4_good rfl (encM9_4_puts m28 x30.Name true) ?_
   refine fo (rn 6 rfl ?_)
   exact jX ((w64 (n27 + 1)), (mput m28 x30.Name true)) (hk3 _ h) (gr [0, 1, 2, 3, 4] rfl (hB rfl rfl rfl (hB rfl rfl rfl (hM rfl rfl (hM rfl rfl (hM rfl rfl .nil))))) rfl)
  replace h := RG.f h hb29
  unfold M40_L3 at h
  refine rn 1 rfl ?_
  exact jX m28 h (gr [0, 1, 2, 3, 4] rfl (hB rfl rfl rfl (hB rfl rfl rfl (hM rfl rfl (hM rfl rfl (hM rfl rfl .nil))))) rfl)
 intro m24 h
 refine rn 5 rfl ?_
 refine awp_ghost (ghost_frzMC 2 0 (Ob.arr 107 4 [[(bV a2), (V.imap (m4.map encM9_114)), (V.map 3), (V.map 4)]]) rfl encM9_114_imm (ObSub.box (.cons Sub.keepM (.cons Sub.frzM (.cons Sub.keepM (.cons Sub.keepM .nil)))))) ?_
 refine awp_ghost (ghost_frzMC 3 0 (Ob.arr 107 4 [[(bV a2), (V.imap (m4.map encM9_114)), (V.imap (m14.map encM9_4)), (V.map 4)]]) rfl encM9_4_imm (ObSub.box (.cons Sub.keepM (.cons Sub.keepM (.cons Sub.frzM (.cons Sub.keepM .nil)))))) ?_
 refine awp_ghost (ghost_frzMC 4 0 (Ob.arr 107 4 [[(bV a2), (V.imap (m4.map encM9_114)), (V.imap (m14.map encM9_4)), (V.imap (m24.map encM9_4))]]) rfl encM9_4_imm (ObSub.box (.cons Sub.keepM (.cons Sub.keepM (.cons Sub.keepM (.cons Sub.frzM .nil)))))) ?_
 refine fa ?_
 exact rt h rfl
theorem W56 (F : Nat) (a1 : (List UInt8)) (r : Bool) (h : M56 F a1 = some r) : Pure Try.prog 56 [(sV a1)] (bV r) := by
 refine pin (fun r => (bV r)) r rfl Try.func56 rfl rfl rfl rfl rfl (fun w0 m0 hg => ?_)
 unfold M56 at h
 refine rn 11 rfl ?_
 refine jK h (fun _ : Unit => (⟨[(0, (sV a1))], [], 0⟩ : St)) (fun k2 (_ : Unit) => k2 = some r) (fun k2 h => ?_) ?_
 ·refine rn 1 rfl ?_
  refine ck h (fun hA15 h => ?_)
  refine lC (fun (p : Int) => (⟨[(0, (sV a1)), (5, (iV (a1.length : Int))), (6, (iV p))], [], 0⟩ : St)) (fun n p => RC (a1.length : Int) (fun tl nn => M56_L1 F a1 k2 tl nn = some r) n p) (fun p h => RC.zero h) (Int.toNat (a1.length : Int) + 1) 0 (RC.start h) (g0 rfl rfl) (fun n n4 h => ?_)
  refine rn 5 rfl ?_
  refine spL rfl (fun hb5 => ?_) (fun hb5 => ?_)
  ·obtain ⟨tl, h, hk1⟩ := RC.t hA15 h hb5
   unfold M56_L1 at h
   refine rn 12 rfl ?_
   refine ixs h rfl rfl (fun c6 hx7 h => ?_)
   refine rn 2 rfl ?_
   refine spO 13 h rfl (fun hb8 h => ?_) (fun hb8 h => ?_)
   ·refine rn 17 rfl ?_
    exact rt h rfl
   refine rn 2 rfl ?_
   refine ixs h rfl rfl (fun c9 hx10 h => ?_)
   refine rn 3 rfl ?_
   refine spO 19 h rfl (fun hb11 h => ?_) (fun hb11 h => ?_)
   ·refine rn 11 rfl ?_
    exact rt h rfl
   refine rn 2 rfl ?_
   refine ixs h rfl rfl (fun c12 hx13 h => ?_)
   refine rn 3 rfl ?_
   refine spC h rfl (fun hb14 h => ?_) (fun hb14 h => ?_)
   ·refine rn 4 rfl ?_
    exact rt h rfl
   refine rn 6 rfl ?_
   exact jX (w64 (n4 + 1)) (hk1 _ h) (g0 rfl rfl)
  replace h := RC.f h hb5
  unfold M56_L1 at h
  refine rn 1 rfl ?_
  exact jX () h (g0 rfl rfl)
 intro _ h
 refine rn 5 rfl ?_
 refine spO 28 h rfl (fun hb16 h => ?_) (fun hb16 h => ?_)
 ·refine rn 6 rfl ?_
  exact rt h rfl
 refine rn 6 rfl ?_
 exact rt h rfl
theorem W42 (F : Nat) (a1 : (List UInt8)) (a2 : (List UInt8)) (a3 : Bool) (r : Int) (h : M42 F a1 a2 a3 = some r) : Pure Try.prog 42 [(sV a1), (sV a2), (bV a3)] (iV r) := by
 refine pin (fun r => (iV r)) r rfl Try.func42 rfl rfl rfl rfl rfl (fun w0 m0 hg => ?_)
 unfold M42 at h
 refine rn 9 rfl ?_
 refine cl h rfl rfl rfl (W56 _ _) rfl (fun y4 hx5 h => ?_)
 refine rn 3 rfl ?_
 refine jK h (fun _ : Unit => (⟨[], [], 0⟩ : St)) (fun k6 (_ : Unit) => k6 = some r) (fun k6 h => ?_) ?_
 ·refine spC h rfl (fun hb7 h => ?_) (fun hb7 h => ?_)
  ·refine rn 4 rfl ?_
   exact rt h rfl
  refine rn 5 rfl ?_
  refine spO 14 h rfl (fun hb8 h => ?_) (fun hb8 h => ?_)
  ·refine rn 6 rfl ?_
   refine spC h rfl (fun hb9 h => ?_) (fun hb9 h => ?_)
   ·refine rn 4 rfl ?_
    exact rt h rfl
   refine rn 1 rfl ?_
   exact jX () h (g0 rfl rfl)
  refine rn 8 rfl ?_
  exact jX () h (g0 rfl rfl)
 intro _ h
 refine rn 5 rfl ?_
 exact rt h rfl
theorem W52 (F : Nat) (a1 : Treach_checker) (a2 : (List TIface)) (r : Int) (h : M52 F a1 a2 = some r) : Pure Try.prog 52 [(V.agg (encTreach_checker a1)), (V.lst 2 (a2.map encTIface))] (iV r) := by
 refine pin (fun r => (iV r)) r rfl Try.func52 rfl rfl rfl rfl rfl (fun w0 m0 hg => ?_)
 unfold M52 at h
 refine rn 13 rfl ?_
 refine ln rfl rfl ?_
 refine rn 2 rfl ?_
 refine jK h (fun _ : Unit => (⟨[], [], 0⟩ : St)) (fun k3 (_ : Unit) => k3 = some r) (fun k3 h => ?_) ?_
 ·refine rn 1 rfl ?_
  refine wl (A := a2) 1 rfl (fun hA30 => ?_)
  refine lC (fun (p : (List UInt8) × Int) => (⟨[(5, (sV (p.1))), (13, (V.lst 2 (a2.map encTIface))), (14, (iV ((a2.length : Nat) : Int))), (15, (iV (p.2)))], [], 0⟩ : St)) (fun n p => RG a2 (fun tl nn => M52_L1 F k3 tl nn p.1 = some r) n p.2) (fun p h => RG.zero h) (a2.length + 1) (([] : List UInt8), 0) (RG.start h) (g0 rfl rfl) (fun n p h => ?_)
  obtain ⟨s6, n7⟩ := p
  refine rn 5 rfl ?_
  refine spL rfl (fun hb8 => ?_) (fun hb8 => ?_)
  ·obtain ⟨x11, tl, hx12, h, hk1⟩ := RG.t hA30 h hb8
   unfold M52_L1 at h
   refine rn 2 rfl ?_
   refine jK h (fun (p : (List UInt8)) => (⟨[(5, (sV p)), (13, (V.lst 2 (a2.map encTIface))), (14, (iV ((a2.length : Nat) : Int))), (15, (iV n7))], [], 0⟩ : St)) (fun k9 p => k9 p = some r) (fun k9 h => ?_) ?_
   ·refine rn 4 rfl ?_
    refine ixh hx12 rfl rfl ?_
    refine rn 13 rfl ?_
    refine cl h rfl rfl rfl (W42 _ _ _ _) rfl (fun y13 hx14 h => ?_)
    refine rn 7 rfl ?_
    refine spC h rfl (fun hb15 h => ?_) (fun hb15 h => ?_)
    ·refine rn 5 rfl ?_
     exact rt h rfl
    refine rn 13 rfl ?_
    refine ln rfl rfl ?_
    refine rn 3 rfl ?_
    refine spC h rfl (fun hb16 h => ?_) (fun hb16 h => ?_)
    ·refine rn 4 rfl ?_
     exact rt h rfl
    refine rn 4 rfl ?_
    refine ln rfl rfl ?_
    refine rn 3 rfl ?_
    refine spC h rfl (fun hb17 h => ?_) (fun hb17 h => ?_)
    ·refine rn 4 rfl ?_
     exact rt h rfl
    refine rn 10 rfl ?_
    refine ln rfl rfl ?_
    refine rn 2 rfl ?_
    refine jK h (fun _ : Unit => (⟨[(5, (sV x11.Name)), (13, (V.lst 2 (a2.map encTIface))), (14, (iV ((a2.length : Nat) : Int))), (15, (iV n7))], [], 0⟩ : St)) (fun k18 (_ : Unit) => k18 = some r) (fun k18 h => ?_) ?_
    ·refine rn 1 rfl ?_
     refine wl (A := x11.Methods) 33 rfl (fun hA29 => ?_)
     refine lC (fun (p : (List UInt8) × Int) => (⟨[(5, (sV x11.Name)), (9, (sV (p.1))), (13, (V.lst 2 (a2.map encTIface))), (14, (iV ((a2.length : Nat) : Int))), (15, (iV n7)), (42, (V.lst 1 (x11.Methods.map encS))), (43, (iV ((x11.Methods.length : Nat) : Int))), (44, (iV (p.2)))], [], 0⟩ : St)) (fun n p => RG x11.Methods (fun tl nn => M52_L2 F k18 tl nn p.1 = some r) n p.2) (fun p h => RG.zero h) (x11.Methods.length + 1) (([] : List UInt8), 0) (RG.start h) (g0 rfl rfl) (fun n p h => ?_)
     obtain ⟨s21, n22⟩ := p
     refine rn 5 rfl ?_
     refine spL rfl (fun hb23 => ?_) (fun hb23 => ?_)
     ·obtain ⟨x24, tl, hx25, h, hk2⟩ := RG.t hA29 h hb23
      unfold M52_L2 at h
      refine rn 6 rfl ?_
      refine ixh hx25 rfl rfl ?_
      refine rn 11 rfl ?_
      refine cl h rfl rfl rfl (W42 _ _ _ _) rfl (fun y26 hx27 h => ?_)
      refine rn 7 rfl ?_
      refine spC h rfl (fun hb28 h => ?_) (fun hb28 h => ?_)
      ·refine rn 5 rfl ?_
       exact rt h rfl
      refine rn 10 rfl ?_
      exact jX (x24, (w64 (n22 + 1))) (hk2 _ h) (g0 rfl rfl)
     replace h := RG.f h hb23
     unfold M52_L2 at h
     refine rn 1 rfl ?_
     exact jX () h (g0 rfl rfl)
    intro _ h
    refine rn 1 rfl ?_
    exact jX x11.Name h (g0 rfl rfl)
   intro s10 h
   refine rn 4 rfl ?_
   exact jX (s10, (w64 (n7 + 1))) (hk1 _ h) (g0 rfl rfl)
  replace h := RG.f h hb8
  unfold M52_L1 at h
  refine rn 1 rfl ?_
  exact jX () h (g0 rfl rfl)
 intro _ h
 refine rn 4 rfl ?_
 exact rt h rfl
theorem W53 (F : Nat) (a1 : Treach_checker) (a2 : (List TType)) (r : Int) (h : M53 F a1 a2 = some r) : Pure Try.prog 53 [(V.agg (encTreach_checker a1)), (V.lst 2 (a2.map encTType))] (iV r) := by
 refine pin (fun r => (iV r)) r rfl Try.func53 rfl rfl rfl rfl rfl (fun w0 m0 hg => ?_)
 unfold M53 at h
 refine rn 13 rfl ?_
 refine ln rfl rfl ?_
 refine rn 2 rfl ?_
 refine jK h (fun _ : Unit => (⟨[], [], 0⟩ : St)) (fun k3 (_ : Unit) => k3 = some r) (fun k3 h => ?_) ?_
 ·refine rn 1 rfl ?_
  refine wl (A := a2) 1 rfl (fun hA33 => ?_)
  refine lC (fun (p : (List UInt8) × Int) => (⟨[(2, (V.ptr 0 4 0 0)), (5, (sV (p.1))), (13, (V.lst 2 (a2.map encTType))), (14, (iV ((a2.length : Nat) : Int))), (15, (iV (p.2)))], [(0, (Ob.arr 107 4 [(encTreach_checker a1)]))], 1⟩ : St)) (fun n p => RG a2 (fun tl nn => M53_L1 F a1 k3 tl nn p.1 = some r) n p.2) (fun p h => RG.zero h) (a2.length + 1) (([] : List UInt8), 0) (RG.start h) (gr [0] rfl (hB rfl rfl rfl .nil) rfl) (fun n p h => ?_)
  obtain ⟨s6, n7⟩ := p
  refine rn 5 rfl ?_
  refine spL rfl (fun hb8 => ?_) (fun hb8 => ?_)
  ·obtain ⟨x11, tl, hx12, h, hk1⟩ := RG.t hA33 h hb8
   unfold M53_L1 at h
   refine rn 2 rfl ?_
   refine jK h (fun (p : (List UInt8)) => (⟨[(2, (V.ptr 0 4 0 0)), (5, (sV p)), (13, (V.lst 2 (a2.map encTType))), (14, (iV ((a2.length : Nat) : Int))), (15, (iV n7))], [(0, (Ob.arr 107 4 [(encTreach_checker a1)]))], 1⟩ : St)) (fun k9 p => k9 p = some r) (fun k9 h => ?_) ?_
   ·refine rn 4 rfl ?_
    refine ixh hx12 rfl rfl ?_
    refine rn 13 rfl ?_
    refine cl h rfl rfl rfl (W42 _ _ _ _) rfl (fun y13 hx14 h => ?_)
    refine rn 7 rfl ?_
    refine spC h rfl (fun hb15 h => ?_) (fun hb15 h => ?_)
    ·refine rn 5 rfl ?_
     exact rt h rfl
    refine rn 12 rfl ?_
    refine ln rfl rfl ?_
    refine rn 2 rfl ?_
    refine spC h rfl (fun hb16 h => ?_) (fun hb16 h => ?_)
    ·refine rn 4 rfl ?_
     exact rt h rfl
    refine rn 9 rfl ?_
    refine ln rfl rfl ?_
    refine rn 2 rfl ?_
    refine jK h (fun _ : Unit => (⟨[(2, (V.ptr 0 4 0 0)), (5, (sV x11.Name)), (13, (V.lst 2 (a2.map encTType))), (14, (iV ((a2.length : Nat) : Int))), (15, (iV n7))], [(0, (Ob.arr 107 4 [(encTreach_checker a1)]))], 1⟩ : St)) (fun k17 (_ : Unit) => k17 = some r) (fun k17 h => ?_) ?_
    ·refine rn 1 rfl ?_
     refine wl (A := x11.Methods) 32 rfl (fun hA32 => ?_)
     refine lC (fun (p : (List UInt8) × Int) => (⟨[(2, (V.ptr 0 4 0 0)), (5, (sV x11.Name)), (9, (sV (p.1))), (13, (V.lst 2 (a2.map encTType))), (14, (iV ((a2.length : Nat) : Int))), (15, (iV n7)), (36, (V.lst 2 (x11.Methods.map encTMethod))), (37, (iV ((x11.Methods.length : Nat) : Int))), (38, (iV (p.2)))], [(0, (Ob.arr 107 4 [(encTreach_checker a1)]))], 1⟩ : St)) (fun n p => RG x11.Methods (fun tl nn => M53_L2 F a1 k17 tl nn p.1 = some r) n p.2) (fun p h => RG.zero h) (x11.Methods.length + 1) (([] : List UInt8), 0) (RG.start h) (gr [0] rfl (hB rfl rfl rfl .nil) rfl) (fun n p h => ?_)
     obtain ⟨s20, n21⟩ := p
     refine rn 5 rfl ?_
     refine spL rfl (fun hb22 => ?_) (fun hb22 => ?_)
     ·obtain ⟨x25, tl, hx26, h, hk2⟩ := RG.t hA32 h hb22
      unfold M53_L2 at h
      refine rn 2 rfl ?_
      refine jK h (fun (p : (List UInt8)) => (⟨[(2, (V.ptr 0 4 0 0)), (5, (sV x11.Name)), (9, (sV p)), (13, (V.lst 2 (a2.map encTType))), (14, (iV ((a2.length : Nat) : Int))), (15, (iV n7)), (36, (V.lst 2 (x11.Methods.map encTMethod))), (37, (iV ((x11.Methods.length : Nat) : Int))), (38, (iV n21))], [(0, (Ob.arr 107 4 [(encTreach_checker a1)]))], 1⟩ : St)) (fun k23 p => k23 p = some r) (fun k23 h => ?_) ?_
      ·refine rn 4 rfl ?_
       refine ixh hx26 rfl rfl ?_
       refine rn 13 rfl ?_
       refine cl h rfl rfl rfl (W42 _ _ _ _) rfl (fun y27 hx28 h => ?_)
       refine rn 7 rfl ?_
       refine spC h rfl (fun hb29 h => ?_) (fun hb29 h => ?_)
       ·refine rn 5 rfl ?_
        exact rt h rfl
       refine rn 13 rfl ?_
       refine spO 57 h rfl (fun hb30 h => ?_) (fun hb30 h => ?_)
       ·refine rn 4 rfl ?_
        refine aops_lookup _ (bV false) (bV ((mget a1.funcs x25.Func).getD false)) tMap52 tKey9 tZo4 (irel_con _) (wants_some (c := true) (b := true) 57 rfl rfl rfl) rfl .imm (.con rfl) ⟨_, rfl⟩ encM9_4_good (encM9_4_look a1.funcs x25.Func) (getD_map (encM9_4_val) (mget a1.funcs x25.Func) false) rfl ?_
        refine fo (rn 3 rfl ?_)
        refine spC h rfl (fun hb31 h => ?_) (fun hb31 h => ?_)
        ·refine rn 4 rfl ?_
         exact rt h rfl
        refine rn 2 rfl ?_
        exact jX x25.Name h (gr [0] rfl (hB rfl rfl rfl .nil) rfl)
       refine rn 11 rfl ?_
       exact jX x25.Name h (gr [0] rfl (hB rfl rfl rfl .nil) rfl)
      intro s24 h
      refine rn 4 rfl ?_
      exact jX (s24, (w64 (n21 + 1))) (hk2 _ h) (gr [0] rfl (hB rfl rfl rfl .nil) rfl)
     replace h := RG.f h hb22
     unfold M53_L2 at h
     refine rn 1 rfl ?_
     exact jX () h (gr [0] rfl (hB rfl rfl rfl .nil) rfl)
    intro _ h
    refine rn 1 rfl ?_
    exact jX x11.Name h (gr [0] rfl (hB rfl rfl rfl .nil) rfl)
   intro s10 h
   refine rn 4 rfl ?_
   exact jX (s10, (w64 (n7 + 1))) (hk1 _ h) (gr [0] rfl (hB rfl rfl rfl .nil) rfl)
  replace h := RG.f h hb8
  unfold M53_L1 at h
  refine rn 1 rfl ?_
  exact jX () h (g0 rfl rfl)
 intro _ h
 refine rn 4 rfl ?_
 exact rt h rfl
theorem W19 (F : Nat) (a1 : (List (List UInt8))) (a2 : (List UInt8)) (r : Int) (h : M19 F a1 a2 = some r) : Pure Try.prog 19 [(V.lst 1 (a1.map encS)), (sV a2)] (iV r) := by
 refine pin (fun r => (iV r)) r rfl Try.func19 rfl rfl rfl rfl rfl (fun w0 m0 hg => ?_)
 unfold M19 at h
 refine rn 8 rfl ?_
 refine ln rfl rfl ?_
 refine rn 2 rfl ?_
 refine jK h (fun _ : Unit => (⟨[], [], 0⟩ : St)) (fun k3 (_ : Unit) => k3 = some r) (fun k3 h => ?_) ?_
 ·refine rn 1 rfl ?_
  refine wl (A := a1) 0 rfl (fun hA10 => ?_)
  refine lC (fun (p : Int) => (⟨[(0, (V.lst 1 (a1.map encS))), (1, (sV a2)), (7, (iV ((a1.length : Nat) : Int))), (8, (iV p))], [], 0⟩ : St)) (fun n p => RG a1 (fun tl nn => M19_L1 F a2 k3 tl nn = some r) n p) (fun p h => RG.zero h) (a1.length + 1) 0 (RG.start h) (g0 rfl rfl) (fun n n5 h => ?_)
  refine rn 5 rfl ?_
  refine spL rfl (fun hb6 => ?_) (fun hb6 => ?_)
  ·obtain ⟨x7, tl, hx8, h, hk1⟩ := RG.t hA10 h hb6
   unfold M19_L1 at h
   refine rn 13 rfl ?_
   refine ixh hx8 rfl rfl ?_
   refine rn 3 rfl ?_
   refine spC h rfl (fun hb9 h => ?_) (fun hb9 h => ?_)
   ·refine rn 5 rfl ?_
    exact rt h rfl
   refine rn 6 rfl ?_
   exact jX (w64 (n5 + 1)) (hk1 _ h) (g0 rfl rfl)
  replace h := RG.f h hb6
  unfold M19_L1 at h
  refine rn 1 rfl ?_
  exact jX () h (g0 rfl rfl)
 intro _ h
 refine rn 4 rfl ?_
 exact rt h rfl
theorem W9 (F : Nat) (a1 : (List (List UInt8))) (a2 : (List UInt8)) (r : Bool) (h : M9 F a1 a2 = some r) : Pure Try.prog 9 [(V.lst 1 (a1.map encS)), (sV a2)] (bV r) := by
 refine pin (fun r => (bV r)) r rfl Try.func9 rfl rfl rfl rfl rfl (fun w0 m0 hg => ?_)
 unfold M9 at h
 refine rn 8 rfl ?_
 refine cl h rfl rfl rfl (W19 _ _ _) rfl (fun y3 hx4 h => ?_)
 refine rn 3 rfl ?_
 exact rt h rfl
theorem W61 (F : Nat) (a1 : Treach_checker) (a2 : TCall) (r : Int) (h : M61 F a1 a2 = some r) : Pure Try.prog 61 [(V.agg (encTreach_checker a1)), (V.agg (encTCall a2))] (iV r) := by
 refine pin (fun r => (iV r)) r rfl Try.func61 rfl rfl rfl rfl rfl (fun w0 m0 hg => ?_)
 unfold M61 at h
 refine rn 18 rfl ?_
 refine jK h (fun _ : Unit => (⟨[(3, (V.ptr 0 4 0 0))], [(0, (Ob.arr 59 4 [(encTCall a2)]))], 1⟩ : St)) (fun k3 (_ : Unit) => k3 = some r) (fun k3 h => ?_) ?_
 ·refine spC h rfl (fun hb4 h => ?_) (fun hb4 h => ?_)
  ·refine rn 7 rfl ?_
   refine spO 14 h rfl (fun hb5 h => ?_) (fun hb5 h => ?_)
   ·refine rn 4 rfl ?_
    refine aops_lookup _ (bV false) (bV ((mget a1.funcs a2.Target).getD false)) tMap52 tKey9 tZo4 (irel_con _) (wants_some (c := true) (b := true) 14 rfl rfl rfl) rfl .imm (.con rfl) ⟨_, rfl⟩ encM9_4_good (encM9_4_look a1.funcs a2.Target) (getD_map (encM9_4_val) (mget a1.funcs a2.Target) false) rfl ?_
    refine fo (rn 3 rfl ?_)
    refine spC h rfl (fun hb6 h => ?_) (fun hb6 h => ?_)
    ·refine rn 4 rfl ?_
     exact rt h rfl
    refine rn 7 rfl ?_
    refine spC h rfl (fun hb7 h => ?_) (fun hb7 h => ?_)
    ·refine rn 4 rfl ?_
     exact rt h rfl
    refine rn 1 rfl ?_
    exact jX () h (gr [1] rfl (hB rfl rfl rfl .nil) rfl)
   refine rn 16 rfl ?_
   refine spC h rfl (fun hb8 h => ?_) (fun hb8 h => ?_)
   ·refine rn 4 rfl ?_
    exact rt h rfl
   refine rn 1 rfl ?_
   exact jX () h (gr [1] rfl (hB rfl rfl rfl .nil) rfl)
  refine rn 5 rfl ?_
  refine spC h rfl (fun hb9 h => ?_) (fun hb9 h => ?_)
  ·refine rn 6 rfl ?_
   refine aops_lookup_okB _ (V.agg [(sV ([] : List UInt8)), (V.lst 1 (([] : List (List UInt8)).map encS))]) (V.agg (encTIface ((mget a1.ifaces a2.Target).getD (TIface.mk ([] : List UInt8) ([] : (List (List UInt8))))))) tMap105 tKey9 tZo114 (irel_aggZ (.con (.sl .nil))) wants_none rfl .imm (.con rfl) ⟨_, rfl⟩ encM9_114_good (encM9_114_look a1.ifaces a2.Target) (getD_map (encM9_114_val) (mget a1.ifaces a2.Target) (TIface.mk ([] : List UInt8) ([] : (List (List UInt8))))) (isSome_map ..) rfl ?_
   refine fo (rn 13 rfl ?_)
   refine spO 38 h rfl (fun hb10 h => ?_) (fun hb10 h => ?_)
   ·refine rn 3 rfl ?_
    refine spO 41 h rfl (fun hb11 h => ?_) (fun hb11 h => ?_)
    ·refine rn 14 rfl ?_
     exact rt h rfl
    refine rn 4 rfl ?_
    refine cl h rfl rfl rfl (W9 _ _ _) rfl (fun y12 hx13 h => ?_)
    refine rn 4 rfl ?_
    refine spC h rfl (fun hb14 h => ?_) (fun hb14 h => ?_)
    ·refine rn 4 rfl ?_
     exact rt h rfl
    refine rn 1 rfl ?_
    exact jX () h (gr [1] rfl (hB rfl rfl rfl .nil) rfl)
   refine rn 14 rfl ?_
   exact jX () h (gr [1] rfl (hB rfl rfl rfl .nil) rfl)
  refine rn 4 rfl ?_
  exact rt h rfl
 intro _ h
 refine rn 8 rfl ?_
 refine spO 53 h rfl (fun hb15 h => ?_) (fun hb15 h => ?_)
 ·refine rn 2 rfl ?_
  refine cl h rfl rfl rfl (W56 _ _) rfl (fun y16 hx17 h => ?_)
  refine rn 3 rfl ?_
  refine spC h rfl (fun hb18 h => ?_) (fun hb18 h => ?_)
  ·refine rn 4 rfl ?_
   exact rt h rfl
  refine rn 5 rfl ?_
  exact rt h rfl
 refine rn 12 rfl ?_
 exact rt h rfl
theorem W55 (F : Nat) (a1 : Treach_checker) (a2 : (List (List UInt8))) (a3 : (List ((List UInt8) × Bool))) (r : Int) (h : M55 F a1 a2 a3 = some r) : Pure Try.prog 55 [(V.agg (encTreach_checker a1)), (V.lst 1 (a2.map encS)), (V.imap (a3.map encM9_4))] (iV r) := by
 refine pin (fun r => (iV r)) r rfl Try.func55 rfl rfl rfl rfl rfl (fun w0 m0 hg => ?_)
 unfold M55 at h
 refine rn 9 rfl ?_
 refine ln rfl rfl ?_
 refine rn 2 rfl ?_
 refine jK h (fun _ : Unit => (⟨[], [], 0⟩ : St)) (fun k4 (_ : Unit) => k4 = some r) (fun k4 h => ?_) ?_
 ·refine rn 1 rfl ?_
  refine wl (A := a2) 1 rfl (fun hA22 => ?_)
  refine lC (fun (p : Int) => (⟨[(1, (V.lst 1 (a2.map encS))), (2, (V.imap (a3.map encM9_4))), (3, (V.ptr 0 4 0 0)), (9, (V.lst 1 (a2.map encS))), (10, (iV ((a2.length : Nat) : Int))), (11, (iV p))], [(0, (Ob.arr 107 4 [(encTreach_checker a1)]))], 1⟩ : St)) (fun n p => RG a2 (fun tl nn => M55_L1 F a1 a2 a3 k4 tl nn = some r) n p) (fun p h => RG.zero h) (a2.length + 1) 0 (RG.start h) (gr [0] rfl (hB rfl rfl rfl .nil) rfl) (fun n n6 h => ?_)
  refine rn 5 rfl ?_
  refine spL rfl (fun hb7 => ?_) (fun hb7 => ?_)
  ·obtain ⟨x8, tl, hx9, h, hk1⟩ := RG.t hA22 h hb7
   unfold M55_L1 at h
   refine rn 6 rfl ?_
   refine ixh hx9 rfl rfl ?_
   refine rn 4 rfl ?_
   refine jK h (fun _ : Unit => (⟨[(1, (V.lst 1 (a2.map encS))), (2, (V.imap (a3.map encM9_4))), (3, (V.ptr 0 4 0 0)), (9, (V.lst 1 (a2.map encS))), (10, (iV ((a2.length : Nat) : Int))), (11, (iV n6))], [(0, (Ob.arr 107 4 [(encTreach_checker a1)]))], 1⟩ : St)) (fun k10 (_ : Unit) => k10 = some r) (fun k10 h => ?_) ?_
   ·refine rn 7 rfl ?_
    refine spO 20 h rfl (fun hb11 h => ?_) (fun hb11 h => ?_)
    ·refine rn 2 rfl ?_
     refine aops_lookup _ (bV false) (bV ((mget a3 x8).getD false)) tMap52 tKey9 tZo4 (irel_con _) (wants_some (c := true) (b := true) 20 rfl rfl rfl) rfl .imm (.con rfl) ⟨_, rfl⟩ encM9_4_good (encM9_4_look a3 x8) (getD_map (encM9_4_val) (mget a3 x8) false) rfl ?_
     refine fo (rn 4 rfl ?_)
     refine jK h (fun _ : Unit => (⟨[(1, (V.lst 1 (a2.map encS))), (2, (V.imap (a3.map encM9_4))), (3, (V.ptr 0 4 0 0)), (9, (V.lst 1 (a2.map encS))), (10, (iV ((a2.length : Nat) : Int))), (11, (iV n6)), (24, (bV (!((mget a3 x8).getD false))))], [(0, (Ob.arr 107 4 [(encTreach_checker a1)]))], 1⟩ : St)) (fun k12 (_ : Unit) => k12 = some r) (fun k12 h => ?_) ?_
     ·refine spC h rfl (fun hb13 h => ?_) (fun hb13 h => ?_)
      ·refine rn 4 rfl ?_
       exact rt h rfl
      refine rn 5 rfl ?_
      refine spO 29 h rfl (fun hb14 h => ?_) (fun hb14 h => ?_)
      ·refine rn 4 rfl ?_
       refine ixl h rfl rfl (fun x15 hx16 h => ?_)
       refine rn 5 rfl ?_
       refine spC h rfl (fun hb17 h => ?_) (fun hb17 h => ?_)
       ·refine rn 4 rfl ?_
        exact rt h rfl
       refine rn 1 rfl ?_
       exact jX () h (gr [0] rfl (hB rfl rfl rfl .nil) rfl)
      refine rn 12 rfl ?_
      exact jX () h (gr [0] rfl (hB rfl rfl rfl .nil) rfl)
     intro _ h
     refine rn 1 rfl ?_
     exact jX () h (gr [0] rfl (hB rfl rfl rfl .nil) rfl)
    refine rn 13 rfl ?_
    refine spO 29 h rfl (fun hb18 h => ?_) (fun hb18 h => ?_)
    ·refine rn 4 rfl ?_
     refine ixl h rfl rfl (fun x19 hx20 h => ?_)
     refine rn 5 rfl ?_
     refine spC h rfl (fun hb21 h => ?_) (fun hb21 h => ?_)
     ·refine rn 4 rfl ?_
      exact rt h rfl
     refine rn 2 rfl ?_
     exact jX () h (gr [0] rfl (hB rfl rfl rfl .nil) rfl)
    refine rn 13 rfl ?_
    exact jX () h (gr [0] rfl (hB rfl rfl rfl .nil) rfl)
   intro _ h
   refine rn 5 rfl ?_
   exact jX (w64 (n6 + 1)) (hk1 _ h) (gr [0] rfl (hB rfl rfl rfl .nil) rfl)
  replace h := RG.f h hb7
  unfold M55_L1 at h
  refine rn 1 rfl ?_
  exact jX () h (g0 rfl rfl)
 intro _ h
 refine rn 4 rfl ?_
 exact rt h rfl
theorem W54 (F : Nat) (a1 : Treach_checker) (a2 : (List TFunc)) (r : Int) (h : M54 F a1 a2 = some r) : Pure Try.prog 54 [(V.agg (encTreach_checker a1)), (V.lst 4 (a2.map encTFunc))] (iV r) := by
 refine pin (fun r => (iV r)) r rfl Try.func54 rfl rfl rfl rfl rfl (fun w0 m0 hg => ?_)
 unfold M54 at h
 refine rn 13 rfl ?_
 refine ln rfl rfl ?_
 refine rn 2 rfl ?_
 refine jK h (fun _ : Unit => (⟨[], [], 0⟩ : St)) (fun k3 (_ : Unit) => k3 = some r) (fun k3 h => ?_) ?_
 ·refine rn 1 rfl ?_
  refine wl (A := a2) 1 rfl (fun hA33 => ?_)
  refine lC (fun (p : (List UInt8) × Int) => (⟨[(2, (V.ptr 0 4 0 0)), (5, (sV (p.1))), (13, (V.lst 4 (a2.map encTFunc))), (14, (iV ((a2.length : Nat) : Int))), (15, (iV (p.2)))], [(0, (Ob.arr 107 4 [(encTreach_checker a1)]))], 1⟩ : St)) (fun n p => RG a2 (fun tl nn => M54_L1 F a1 k3 tl nn p.1 = some r) n p.2) (fun p h => RG.zero h) (a2.length + 1) (([] : List UInt8), 0) (RG.start h) (gr [0] rfl (hB rfl rfl rfl .nil) rfl) (fun n p h => ?_)
  obtain ⟨s6, n7⟩ := p
  refine rn 5 rfl ?_
  refine spL rfl (fun hb8 => ?_) (fun hb8 => ?_)
  ·obtain ⟨x11, tl, hx12, h, hk1⟩ := RG.t hA33 h hb8
   unfold M54_L1 at h
   refine rn 2 rfl ?_
   refine jK h (fun (p : (List UInt8)) => (⟨[(2, (V.ptr 0 4 0 0)), (5, (sV p)), (13, (V.lst 4 (a2.map encTFunc))), (14, (iV ((a2.length : Nat) : Int))), (15, (iV n7))], [(0, (Ob.arr 107 4 [(encTreach_checker a1)]))], 1⟩ : St)) (fun k9 p => k9 p = some r) (fun k9 h => ?_) ?_
   ·refine rn 4 rfl ?_
    refine ixh hx12 rfl rfl ?_
    refine rn 13 rfl ?_
    refine cl h rfl rfl rfl (W42 _ _ _ _) rfl (fun y13 hx14 h => ?_)
    refine rn 7 rfl ?_
    refine spC h rfl (fun hb15 h => ?_) (fun hb15 h => ?_)
    ·refine rn 5 rfl ?_
     exact rt h rfl
    refine rn 13 rfl ?_
    refine cl h rfl rfl rfl (W56 _ _) rfl (fun y16 hx17 h => ?_)
    refine rn 3 rfl ?_
    refine spC h rfl (fun hb18 h => ?_) (fun hb18 h => ?_)
    ·refine rn 4 rfl ?_
     exact rt h rfl
    refine rn 4 rfl ?_
    refine ln rfl rfl ?_
    refine rn 3 rfl ?_
    refine spC h rfl (fun hb19 h => ?_) (fun hb19 h => ?_)
    ·refine rn 4 rfl ?_
     exact rt h rfl
    refine rn 7 rfl ?_
    refine ln rfl rfl ?_
    refine rn 2 rfl ?_
    refine jK h (fun _ : Unit => (⟨[(2, (V.ptr 0 4 0 0)), (5, (sV x11.Name)), (7, (V.ptr 1 4 0 0)), (13, (V.lst 4 (a2.map encTFunc))), (14, (iV ((a2.length : Nat) : Int))), (15, (iV n7))], [(0, (Ob.arr 107 4 [(encTreach_checker a1)])), (1, (Ob.arr 62 4 [(encTFunc x11)]))], 2⟩ : St)) (fun k20 (_ : Unit) => k20 = some r) (fun k20 h => ?_) ?_
    ·refine rn 1 rfl ?_
     refine wl (A := x11.Calls) 38 rfl (fun hA29 => ?_)
     refine lC (fun (p : Int) => (⟨[(2, (V.ptr 0 4 0 0)), (5, (sV x11.Name)), (7, (V.ptr 1 4 0 0)), (13, (V.lst 4 (a2.map encTFunc))), (14, (iV ((a2.length : Nat) : Int))), (15, (iV n7)), (42, (V.lst 4 (x11.Calls.map encTCall))), (43, (iV ((x11.Calls.length : Nat) : Int))), (44, (iV p))], [(0, (Ob.arr 107 4 [(encTreach_checker a1)])), (1, (Ob.arr 62 4 [(encTFunc x11)]))], 2⟩ : St)) (fun n p => RG x11.Calls (fun tl nn => M54_L2 F a1 k20 tl = some r) n p) (fun p h => RG.zero h) (x11.Calls.length + 1) 0 (RG.start h) (gr [0, 1] rfl (hB rfl rfl rfl (hB rfl rfl rfl .nil)) rfl) (fun n n22 h => ?_)
     refine rn 5 rfl ?_
     refine spL rfl (fun hb23 => ?_) (fun hb23 => ?_)
     ·obtain ⟨x24, tl, hx25, h, hk2⟩ := RG.t hA29 h hb23
      unfold M54_L2 at h
      refine rn 5 rfl ?_
      refine ixh hx25 rfl rfl ?_
      refine rn 8 rfl ?_
      refine cl h rfl rfl rfl (W61 _ _ _) rfl (fun y26 hx27 h => ?_)
      refine rn 7 rfl ?_
      refine spC h rfl (fun hb28 h => ?_) (fun hb28 h => ?_)
      ·refine rn 5 rfl ?_
       exact rt h rfl
      refine rn 6 rfl ?_
      exact jX (w64 (n22 + 1)) (hk2 _ h) (gr [0, 1] rfl (hB rfl rfl rfl (hB rfl rfl rfl .nil)) rfl)
     replace h := RG.f h hb23
     unfold M54_L2 at h
     refine rn 1 rfl ?_
     exact jX () h (gr [0, 1] rfl (hB rfl rfl rfl (hB rfl rfl rfl .nil)) rfl)
    intro _ h
    refine rn 7 rfl ?_
    refine cl h rfl rfl rfl (W55 _ _ _ _) rfl (fun y30 hx31 h => ?_)
    refine rn 7 rfl ?_
    refine spC h rfl (fun hb32 h => ?_) (fun hb32 h => ?_)
    ·refine rn 5 rfl ?_
     exact rt h rfl
    refine rn 2 rfl ?_
    exact jX x11.Name h (gr [0] rfl (hB rfl rfl rfl .nil) rfl)
   intro s10 h
   refine rn 4 rfl ?_
   exact jX (s10, (w64 (n7 + 1))) (hk1 _ h) (gr [0] rfl (hB rfl rfl rfl .nil) rfl)
  replace h := RG.f h hb8
  unfold M54_L1 at h
  refine rn 1 rfl ?_
  exact jX () h (g0 rfl rfl)
 intro _ h
 refine rn 4 rfl ?_
 exact rt h rfl
theorem W41 (F : Nat) (a1 : Treach_checker) (a2 : TGraph) (r : Int) (h : M41 F a1 a2 = some r) : Pure Try.prog 41 [(V.agg (encTreach_checker a1)), (V.agg (encTGraph a2))] (iV r) := by
 refine pin (fun r => (iV r)) r rfl Try.func41 rfl rfl rfl rfl rfl (fun w0 m0 hg => ?_)
 unfold M41 at h
 refine rn 11 rfl ?_
 refine ln rfl rfl ?_
 refine rn 2 rfl ?_
 refine spO 12 h rfl (fun hb3 h => ?_) (fun hb3 h => ?_)
 ·refine rn 17 rfl ?_
  exact rt h rfl
 refine rn 2 rfl ?_
 refine ln rfl rfl ?_
 refine rn 3 rfl ?_
 refine spO 18 h rfl (fun hb4 h => ?_) (fun hb4 h => ?_)
 ·refine rn 11 rfl ?_
  exact rt h rfl
 refine rn 2 rfl ?_
 refine ln rfl rfl ?_
 refine rn 3 rfl ?_
 refine spC h rfl (fun hb5 h => ?_) (fun hb5 h => ?_)
 ·refine rn 4 rfl ?_
  exact rt h rfl
 refine rn 7 rfl ?_
 refine cl h rfl rfl rfl (W52 _ _ _) rfl (fun y6 hx7 h => ?_)
 refine rn 7 rfl ?_
 refine spC h rfl (fun hb8 h => ?_) (fun hb8 h => ?_)
 ·refine rn 5 rfl ?_
  exact rt h rfl
 refine rn 7 rfl ?_
 refine cl h rfl rfl rfl (W53 _ _ _) rfl (fun y9 hx10 h => ?_)
 refine rn 7 rfl ?_
 refine spC h rfl (fun hb11 h => ?_) (fun hb11 h => ?_)
 ·refine rn 5 rfl ?_
  exact rt h rfl
 refine rn 7 rfl ?_
 refine cl h rfl rfl rfl (W54 _ _ _) rfl (fun y12 hx13 h => ?_)
 refine rn 7 rfl ?_
 refine spC h rfl (fun hb14 h => ?_) (fun hb14 h => ?_)
 ·refine rn 5 rfl ?_
  exact rt h rfl
 refine rn 8 rfl ?_
 refine cl h rfl rfl rfl (W55 _ _ _ _) rfl (fun y15 hx16 h => ?_)
 refine rn 2 rfl ?_
 exact rt h rfl
theorem W29 (F : Nat) (a1 : TGraph) (r : Int) (h : M29 F a1 = some r) : Pure Try.prog 29 [(V.agg (encTGraph a1))] (iV r) := by
 refine pin (fun r => (iV r)) r rfl Try.func29 rfl rfl rfl rfl rfl (fun w0 m0 hg => ?_)
 unfold M29 at h
 obtain ⟨y2, hx3, h⟩ := bind_some h
 obtain ⟨y4, hx5, h⟩ := bind_some h
 refine rn 6 rfl ?_
 refine dr mixed (vs 1 rfl (cD rfl rfl rfl rfl (W40 _ _ _ _ hx3) rfl (vs 1 rfl (cD rfl rfl rfl rfl (W41 _ _ _ _ hx5) rfl (vs 1 rfl .nil))))) (by kernel_rfl) ?_
 exact rt h rfl
theorem W30 (F : Nat) (a1 : (List (List UInt8))) (r : Int) (h : M30 F a1 = some r) : Pure Try.prog 30 [(V.lst 1 (a1.map encS))] (iV r) := by
 refine pin (fun r => (iV r)) r rfl Try.func30 rfl rfl rfl rfl rfl (fun w0 m0 hg => ?_)
 unfold M30 at h
 refine rn 8 rfl ?_
 refine ln rfl rfl ?_
 refine rn 2 rfl ?_
 refine spC h rfl (fun hb2 h => ?_) (fun hb2 h => ?_)
 ·refine rn 4 rfl ?_
  exact rt h rfl
 refine rn 9 rfl ?_
 refine ln rfl rfl ?_
 refine rn 2 rfl ?_
 refine jK h (fun _ : Unit => (⟨[], [], 0⟩ : St)) (fun k3 (_ : Unit) => k3 = some r) (fun k3 h => ?_) ?_
 ·refine rn 1 rfl ?_
  refine wl (A := a1) 0 rfl (fun hA14 => ?_)
  refine lC (fun (p : (List UInt8) × Int) => (⟨[(3, (sV (p.1))), (10, (V.lst 1 (a1.map encS))), (11, (iV ((a1.length : Nat) : Int))), (12, (iV (p.2)))], [], 0⟩ : St)) (fun n p => RG a1 (fun tl nn => M30_L1 F k3 tl nn p.1 = some r) n p.2) (fun p h => RG.zero h) (a1.length + 1) (([] : List UInt8), 0) (RG.start h) (g0 rfl rfl) (fun n p h => ?_)
  obtain ⟨s6, n7⟩ := p
  refine rn 5 rfl ?_
  refine spL rfl (fun hb8 => ?_) (fun hb8 => ?_)
  ·obtain ⟨x9, tl, hx10, h, hk1⟩ := RG.t hA14 h hb8
   unfold M30_L1 at h
   refine rn 6 rfl ?_
   refine ixh hx10 rfl rfl ?_
   refine rn 11 rfl ?_
   refine cl h rfl rfl rfl (W42 _ _ _ _) rfl (fun y11 hx12 h => ?_)
   refine rn 7 rfl ?_
   refine spC h rfl (fun hb13 h => ?_) (fun hb13 h => ?_)
   ·refine rn 5 rfl ?_
    exact rt h rfl
   refine rn 10 rfl ?_
   exact jX (x9, (w64 (n7 + 1))) (hk1 _ h) (g0 rfl rfl)
  replace h := RG.f h hb8
  unfold M30_L1 at h
  refine rn 1 rfl ?_
  exact jX () h (g0 rfl rfl)
 intro _ h
 refine rn 4 rfl ?_
 exact rt h rfl
theorem W62 (F : Nat) (a1 : (List UInt8)) (r : Bool) (h : M62 F a1 = some r) : Pure Try.prog 62 [(sV a1)] (bV r) := by
 refine pin (fun r => (bV r)) r rfl Try.func62 rfl rfl rfl rfl rfl (fun w0 m0 hg => ?_)
 unfold M62 at h
 refine rn 11 rfl ?_
 exact rt h rfl
theorem W59 (F : Nat) (a1 : (List UInt8)) (a2 : (List UInt8)) (r : Int) (h : M59 F a1 a2 = some r) : Pure Try.prog 59 [(sV a1), (sV a2)] (iV r) := by
 refine pin (fun r => (iV r)) r rfl Try.func59 rfl rfl rfl rfl rfl (fun w0 m0 hg => ?_)
 unfold M59 at h
 refine rn 7 rfl ?_
 refine cl h rfl rfl rfl (W62 _ _) rfl (fun y3 hx4 h => ?_)
 refine rn 5 rfl ?_
 refine cl h rfl rfl rfl (W62 _ _) rfl (fun y5 hx6 h => ?_)
 refine rn 7 rfl ?_
 refine spC h rfl (fun hb7 h => ?_) (fun hb7 h => ?_)
 ·refine rn 5 rfl ?_
  refine spC h rfl (fun hb8 h => ?_) (fun hb8 h => ?_)
  ·refine rn 4 rfl ?_
   exact rt h rfl
  refine rn 5 rfl ?_
  exact rt h rfl
 refine rn 6 rfl ?_
 refine spC h rfl (fun hb9 h => ?_) (fun hb9 h => ?_)
 ·refine rn 4 rfl ?_
  exact rt h rfl
 refine rn 8 rfl ?_
 refine spC h rfl (fun hb10 h => ?_) (fun hb10 h => ?_)
 ·refine rn 4 rfl ?_
  exact rt h rfl
 refine rn 8 rfl ?_
 refine spC h rfl (fun hb11 h => ?_) (fun hb11 h => ?_)
 ·refine rn 4 rfl ?_
  exact rt h rfl
 refine rn 5 rfl ?_
 exact rt h rfl
theorem W58 (F : Nat) (a1 : TMethod) (a2 : (List UInt8)) (r : Int) (h : M58 F a1 a2 = some r) : Pure Try.prog 58 [(V.agg (encTMethod a1)), (sV a2)] (iV r) := by
 refine pin (fun r => (iV r)) r rfl Try.func58 rfl rfl rfl rfl rfl (fun w0 m0 hg => ?_)
 unfold M58 at h
 refine rn 10 rfl ?_
 refine cl h rfl rfl rfl (W59 _ _ _) rfl (fun y3 hx4 h => ?_)
 refine rn 2 rfl ?_
 exact rt h rfl
theorem W57 (F : Nat) (a1 : (List TMethod)) (a2 : (List UInt8)) (r : (Int × Bool)) (h : M57 F a1 a2 = some r) : Pure Try.prog 57 [(V.lst 2 (a1.map encTMethod)), (sV a2), (V.fn (.func 58) [] [])] (V.tup [(iV (r.1)), (bV (r.2))]) := by
 refine pin (fun r => (V.tup [(iV (r.1)), (bV (r.2))])) r rfl Try.func57 rfl rfl rfl rfl rfl (fun w0 m0 hg => ?_)
 unfold M57 at h
 refine rn 8 rfl ?_
 refine ln rfl rfl ?_
 refine rn 9 rfl ?_
 refine jK h (fun (p : Int) => (⟨[(0, (V.lst 2 (a1.map encTMethod))), (1, (sV a2)), (2, (V.fn (.func 58) [] [])), (8, (iV ((a1.length : Nat) : Int))), (9, (iV p))], [], 0⟩ : St)) (fun k3 p => k3 p = some r) (fun k3 h => ?_) ?_
 ·refine rn 1 rfl ?_
  refine lC (fun (p : Int × Int) => (⟨[(0, (V.lst 2 (a1.map encTMethod))), (1, (sV a2)), (2, (V.fn (.func 58) [] [])), (8, (iV ((a1.length : Nat) : Int))), (9, (iV (p.1))), (10, (iV (p.2)))], [], 0⟩ : St)) (fun n p => M57_L1 F a1 a2 k3 n p.1 p.2 = some r) (fun p h => by simp [M57_L1] at h) F (0, ((a1.length : Nat) : Int)) h (g0 rfl rfl) (fun n p h => ?_)
  obtain ⟨n7, n8⟩ := p
  unfold M57_L1 at h
  refine rn 7 rfl ?_
  refine spC h rfl (fun hb9 h => ?_) (fun hb9 h => ?_)
  ·refine rn 17 rfl ?_
   refine ixl h rfl rfl (fun x10 hx11 h => ?_)
   refine rn 2 rfl ?_
   refine cl h rfl rfl rfl (W58 _ _ _) rfl (fun y12 hx13 h => ?_)
   refine rn 2 rfl ?_
   refine jK h (fun (p : Int × Int) => (⟨[(0, (V.lst 2 (a1.map encTMethod))), (1, (sV a2)), (2, (V.fn (.func 58) [] [])), (8, (iV ((a1.length : Nat) : Int))), (9, (iV (p.1))), (10, (iV (p.2)))], [], 0⟩ : St)) (fun k14 p => k14 p.1 p.2 = some r) (fun k14 h => ?_) ?_
   ·refine spC h rfl (fun hb17 h => ?_) (fun hb17 h => ?_)
    ·refine rn 5 rfl ?_
     exact jX ((w64 ((w64 (Int.fdiv (IntKind.wrap .u64 (w64 (n7 + n8))) (2 ^ (min (Int.toNat 1) (IntKind.bits .u64))))) + 1)), n8) h (g0 rfl rfl)
    refine rn 4 rfl ?_
    exact jX (n7, (w64 (Int.fdiv (IntKind.wrap .u64 (w64 (n7 + n8))) (2 ^ (min (Int.toNat 1) (IntKind.bits .u64)))))) h (g0 rfl rfl)
   rintro ⟨n15, n16⟩ h
   refine rn 1 rfl ?_
   exact jX (n15, n16) h (g0 rfl rfl)
  refine rn 1 rfl ?_
  exact jX n7 h (g0 rfl rfl)
 intro n4 h
 refine rn 7 rfl ?_
 refine spO 39 h rfl (fun hb18 h => ?_) (fun hb18 h => ?_)
 ·refine rn 3 rfl ?_
  refine ixl h rfl rfl (fun x19 hx20 h => ?_)
  refine rn 2 rfl ?_
  refine cl h rfl rfl rfl (W58 _ _ _) rfl (fun y21 hx22 h => ?_)
  refine rn 5 rfl ?_
  exact rt h rfl
 refine rn 12 rfl ?_
 exact rt h rfl
theorem W45 (F : Nat) (a1 : TType) (a2 : (List UInt8)) (r : ((List UInt8) × Bool)) (h : M45 F a1 a2 = some r) : Pure Try.prog 45 [(V.agg (encTType a1)), (sV a2)] (V.tup [(sV (r.1)), (bV (r.2))]) := by
 refine pin (fun r => (V.tup [(sV (r.1)), (bV (r.2))])) r rfl Try.func45 rfl rfl rfl rfl rfl (fun w0 m0 hg => ?_)
 unfold M45 at h
 refine rn 11 rfl ?_
 refine cl h rfl rfl rfl (W57 _ _ _) rfl (fun y3 hx4 h => ?_)
 refine rn 12 rfl ?_
 refine spC h rfl (fun hb5 h => ?_) (fun hb5 h => ?_)
 ·refine rn 5 rfl ?_
  exact rt h rfl
 refine rn 6 rfl ?_
 refine ixl h rfl rfl (fun x6 hx7 h => ?_)
 refine rn 5 rfl ?_
 exact rt h rfl
theorem W43 (F : Nat) (a1 : TType) (a2 : TIface) (r : Bool) (h : M43 F a1 a2 = some r) : Pure Try.prog 43 [(V.agg (encTType a1)), (V.agg (encTIface a2))] (bV r) := by
 refine pin (fun r => (bV r)) r rfl Try.func43 rfl rfl rfl rfl rfl (fun w0 m0 hg => ?_)
 unfold M43 at h
 refine rn 11 rfl ?_
 refine ln rfl rfl ?_
 refine rn 2 rfl ?_
 refine jK h (fun _ : Unit => (⟨[], [], 0⟩ : St)) (fun k3 (_ : Unit) => k3 = some r) (fun k3 h => ?_) ?_
 ·refine rn 1 rfl ?_
  refine wl (A := a2.Methods) 10 rfl (fun hA12 => ?_)
  refine lC (fun (p : Int) => (⟨[(2, (V.ptr 0 2 0 0)), (10, (V.lst 1 (a2.Methods.map encS))), (11, (iV ((a2.Methods.length : Nat) : Int))), (12, (iV p))], [(0, (Ob.arr 112 2 [(encTType a1)]))], 1⟩ : St)) (fun n p => RG a2.Methods (fun tl nn => M43_L1 F a1 k3 tl = some r) n p) (fun p h => RG.zero h) (a2.Methods.length + 1) 0 (RG.start h) (gr [0] rfl (hB rfl rfl rfl .nil) rfl) (fun n n5 h => ?_)
  refine rn 5 rfl ?_
  refine spL rfl (fun hb6 => ?_) (fun hb6 => ?_)
  ·obtain ⟨x7, tl, hx8, h, hk1⟩ := RG.t hA12 h hb6
   unfold M43_L1 at h
   refine rn 5 rfl ?_
   refine ixh hx8 rfl rfl ?_
   refine rn 7 rfl ?_
   refine cl h rfl rfl rfl (W45 _ _ _) rfl (fun y9 hx10 h => ?_)
   refine rn 11 rfl ?_
   refine spC h rfl (fun hb11 h => ?_) (fun hb11 h => ?_)
   ·refine rn 4 rfl ?_
    exact rt h rfl
   refine rn 6 rfl ?_
   exact jX (w64 (n5 + 1)) (hk1 _ h) (gr [0] rfl (hB rfl rfl rfl .nil) rfl)
  replace h := RG.f h hb6
  unfold M43_L1 at h
  refine rn 1 rfl ?_
  exact jX () h (g0 rfl rfl)
 intro _ h
 refine rn 4 rfl ?_
 exact rt h rfl
theorem W31 (F : Nat) (a1 : TGraph) (a2 : Int) (a3 : (List (List UInt8))) (r : ((List ((List UInt8) × Int)) × (List ((List UInt8) × Int)) × (List ((List UInt8) × (List Int))) × (List ((List UInt8) × Bool)))) (h : M31 F a1 a2 a3 = some r) : Mut Try.prog 31 [(V.agg (encTGraph a1)), (iV a2), (V.lst 1 (a3.map encS))] 0 [] (resV [(V.ptr 0 9 0 0)]) 2 [(0, (Ob.arr 54 9 [[(V.lst 2 (a1.Ifaces.map encTIface)), (V.lst 2 (a1.Types.map encTType)), (V.lst 4 (a1.Funcs.map encTFunc)), (V.lst 1 (a1.Entries.map encS)), (V.imap ((r.1).map encM9_3)), (V.imap ((r.2.1).map encM9_3)), (V.imap ((r.2.2.1).map encM9_45)), (V.map 1), (bV (a2 == 2))]])), (1, (Ob.map ((r.2.2.2).map encM9_4)))] := by
 refine mut_enter Try.func31 rfl rfl (l := [.tmp 6]) rfl rfl [(0, (V.agg (encTGraph a1))), (1, (iV a2)), (2, (V.lst 1 (a3.map encS)))] rfl (fun w0 m0 β0 hg => en ?_)
 unfold M31 at h
 refine rn 12 rfl ?_
 refine aops_insert (es := ([] : List ((List UInt8) × Bool)).map encM9_4) ((mput ([] : List ((List UInt8) × Bool)) ([] : List UInt8) true).map encM9_4) tMap52 tKey9 wants_none rfl rfl (.con rfl) ⟨_, rfl⟩ encM9_4_good rfl (encM9_4_puts ([] : List ((List UInt8) × Bool)) ([] : List UInt8) true) ?_
 refine fo (rn 12 rfl ?_)
 refine ln rfl rfl ?_
 refine rn 2 rfl ?_
 refine jK h (fun (p : (List ((List UInt8) × Int))) => (⟨[(2, (V.lst 1 (a3.map encS))), (3, (V.ptr 0 4 0 0)), (7, (V.ptr 1 9 0 0))], [(0, (Ob.arr 27 4 [(encTGraph a1)])), (1, (Ob.arr 54 9 [[(V.lst 2 (a1.Ifaces.map encTIface)), (V.lst 2 (a1.Types.map encTType)), (V.lst 4 (a1.Funcs.map encTFunc)), (V.lst 1 (a1.Entries.map encS)), (V.map 2), (V.map 3), (V.map 4), (V.map 5), (bV (a2 == 2))]])), (2, (Ob.map (p.map encM9_3))), (3, (Ob.map (([] : List ((List UInt8) × Int)).map encM9_3))), (4, (Ob.map (([] : List ((List UInt8) × (List Int))).map encM9_153))), (5, (Ob.map ((mput ([] : List ((List UInt8) × Bool)) ([] : List UInt8) true).map encM9_4)))], 6⟩ : St)) (fun k66 p => k66 p = some r) (fun k66 h => ?_) ?_
 ·refine rn 1 rfl ?_
  refine wl (A := a1.Funcs) 29 rfl (fun hA75 => ?_)
  refine lC (fun (p : Int × (List ((List UInt8) × Int))) => (⟨[(2, (V.lst 1 (a3.map encS))), (3, (V.ptr 0 4 0 0)), (7, (V.ptr 1 9 0 0)), (29, (V.lst 4 (a1.Funcs.map encTFunc))), (30, (iV ((a1.Funcs.length : Nat) : Int))), (31, (iV (p.1)))], [(0, (Ob.arr 27 4 [(encTGraph a1)])), (1, (Ob.arr 54 9 [[(V.lst 2 (a1.Ifaces.map encTIface)), (V.lst 2 (a1.Types.map encTType)), (V.lst 4 (a1.Funcs.map encTFunc)), (V.lst 1 (a1.Entries.map encS)), (V.map 2), (V.map 3), (V.map 4), (V.map 5), (bV (a2 == 2))]])), (2, (Ob.map ((p.2).map encM9_3))), (3, (Ob.map (([] : List ((List UInt8) × Int)).map encM9_3))), (4, (Ob.map (([] : List ((List UInt8) × (List Int))).map encM9_153))), (5, (Ob.map ((mput ([] : List ((List UInt8) × Bool)) ([] : List UInt8) true).map encM9_4)))], 6⟩ : St)) (fun n p => RG a1.Funcs (fun tl nn => M31_L1 F k66 tl nn p.2 = some r) n p.1) (fun p h => RG.zero h) (a1.Funcs.length + 1) (0, ([] : List ((List UInt8) × Int))) (RG.start h) (gr [0, 5, 1, 2, 3, 4] rfl (hB rfl rfl rfl (hB rfl rfl rfl (hM rfl rfl (hM rfl rfl (hM rfl rfl (hM rfl rfl .nil)))))) rfl) (fun n p h => ?_)
  obtain ⟨n70, m71⟩ := p
  refine rn 5 rfl ?_
  refine spL rfl (fun hb72 => ?_) (fun hb72 => ?_)
  ·obtain ⟨x73, tl, hx74, h, hk1⟩ := RG.t hA75 h hb72
   unfold M31_L1 at h
   refine rn 6 rfl ?_
   refine ixh hx74 rfl rfl ?_
   refine rn 5 rfl ?_
   refine dr mixed (vs 7 rfl (xD (OD.mk [(39, (V.map 2)), (41, (sV x73.Name)), (42, (iV n70))] [(2, (Ob.map (m71.map encM9_3)))] [] [(2, (Ob.map ((mput m71 x73.Name n70).map encM9_3)))]) ⟨⟨rfl, rfl, rfl, trivial⟩, ⟨rfl, trivial⟩⟩ (by exact fun S hn h hh => aops_mapUpdate (es := m71.map encM9_3) ((mput m71 x73.Name n70).map encM9_3) tMap50 tKey9 wants_none h.1 hh.1 (.con h.2.1) ⟨_, rfl⟩ encM9_3_good h.2.2.1 (encM9_3_puts m71 x73.Name n70) (aops_nil ⟨rfl, rfl⟩)) rfl .nil)) (by kernel_rfl) ?_
   refine rn 5 rfl ?_
   exact jX ((w64 (n70 + 1)), (mput m71 x73.Name n70)) (hk1 _ h) (gr [0, 1, 2, 3, 4, 5] rfl (hB rfl rfl rfl (hB rfl rfl rfl (hM rfl rfl (hM rfl rfl (hM rfl rfl (hM rfl rfl .nil)))))) rfl)
  replace h := RG.f h hb72
  unfold M31_L1 at h
  refine rn 1 rfl ?_
  exact jX m71 h (gr [0, 1, 2, 3, 4, 5] rfl (hB rfl rfl rfl (hB rfl rfl rfl (hM rfl rfl (hM rfl rfl (hM rfl rfl (hM rfl rfl .nil)))))) rfl)
 intro m67 h
 refine rn 5 rfl ?_
 refine ln rfl rfl ?_
 refine rn 2 rfl ?_
 refine jK h (fun (p : (List ((List UInt8) × Int))) => (⟨[(2, (V.lst 1 (a3.map encS))), (3, (V.ptr 0 4 0 0)), (7, (V.ptr 1 9 0 0))], [(0, (Ob.arr 27 4 [(encTGraph a1)])), (1, (Ob.arr 54 9 [[(V.lst 2 (a1.Ifaces.map encTIface)), (V.lst 2 (a1.Types.map encTType)), (V.lst 4 (a1.Funcs.map encTFunc)), (V.lst 1 (a1.Entries.map encS)), (V.map 2), (V.map 3), (V.map 4), (V.map 5), (bV (a2 == 2))]])), (2, (Ob.map (m67.map encM9_3))), (3, (Ob.map (p.map encM9_3))), (4, (Ob.map (([] : List ((List UInt8) × (List Int))).map encM9_153))), (5, (Ob.map ((mput ([] : List ((List UInt8) × Bool)) ([] : List UInt8) true).map encM9_4)))], 6⟩ : St)) (fun k76 p => k76 p = some r) (fun k76 h => ?_) ?_
 ·refine rn 1 rfl ?_
  refine wl (A := a1.Types) 45 rfl (fun hA85 => ?_)
  refine lC (fun (p : Int × (List ((List UInt8) × Int))) => (⟨[(2, (V.lst 1 (a3.map encS))), (3, (V.ptr 0 4 0 0)), (7, (V.ptr 1 9 0 0)), (45, (V.lst 2 (a1.Types.map encTType))), (46, (iV ((a1.Types.length : Nat) : Int))), (47, (iV (p.1)))], [(0, (Ob.arr 27 4 [(encTGraph a1)])), (1, (Ob.arr 54 9 [[(V.lst 2 (a1.Ifaces.map encTIface)), (V.lst 2 (a1.Types.map encTType)), (V.lst 4 (a1.Funcs.map encTFunc)), (V.lst 1 (a1.Entries.map encS)), (V.map 2), (V.map 3), (V.map 4), (V.map 5), (bV (a2 == 2))]])), (2, (Ob.map (m67.map encM9_3))), (3, (Ob.map ((p.2).map encM9_3))), (4, (Ob.map (([] : List ((List UInt8) × (List Int))).map encM9_153))), (5, (Ob.map ((mput ([] : List ((List UInt8) × Bool)) ([] : List UInt8) true).map encM9_4)))], 6⟩ : St)) (fun n p => RG a1.Types (fun tl nn => M31_L2 F k76 tl nn p.2 = some r) n p.1) (fun p h => RG.zero h) (a1.Types.length + 1) (0, ([] : List ((List UInt8) × Int))) (RG.start h) (gr [0, 1, 2, 3, 4, 5] rfl (hB rfl rfl rfl (hB rfl rfl rfl (hM rfl rfl (hM rfl rfl (hM rfl rfl (hM rfl rfl .nil)))))) rfl) (fun n p h => ?_)
  obtain ⟨n80, m81⟩ := p
  refine rn 5 rfl ?_
  refine spL rfl (fun hb82 => ?_) (fun hb82 => ?_)
  ·obtain ⟨x83, tl, hx84, h, hk2⟩ := RG.t hA85 h hb82
   unfold M31_L2 at h
   refine rn 6 rfl ?_
   refine ixh hx84 rfl rfl ?_
   refine rn 5 rfl ?_
   refine dr mixed (vs 7 rfl (xD (OD.mk [(55, (V.map 3)), (57, (sV x83.Name)), (58, (iV n80))] [(3, (Ob.map (m81.map encM9_3)))] [] [(3, (Ob.map ((mput m81 x83.Name n80).map encM9_3)))]) ⟨⟨rfl, rfl, rfl, trivial⟩, ⟨rfl, trivial⟩⟩ (by exact fun S hn h hh => aops_mapUpdate (es := m81.map encM9_3) ((mput m81 x83.Name n80).map encM9_3) tMap50 tKey9 wants_none h.1 hh.1 (.con h.2.1) ⟨_, rfl⟩ encM9_3_good h.2.2.1 (encM9_3_puts m81 x83.Name n80) (aops_nil ⟨rfl, rfl⟩)) rfl .nil)) (by kernel_rfl) ?_
   refine rn 5 rfl ?_
   exact jX ((w64 (n80 + 1)), (mput m81 x83.Name n80)) (hk2 _ h) (gr [0, 1, 2, 3, 4, 5] rfl (hB rfl rfl rfl (hB rfl rfl rfl (hM rfl rfl (hM rfl rfl (hM rfl rfl (hM rfl rfl .nil)))))) rfl)
  replace h := RG.f h hb82
  unfold M31_L2 at h
  refine rn 1 rfl ?_
  exact jX m81 h (gr [0, 1, 2, 3, 4, 5] rfl (hB rfl rfl rfl (hB rfl rfl rfl (hM rfl rfl (hM rfl rfl (hM rfl rfl (hM rfl rfl .nil)))))) rfl)
 intro m77 h
 refine rn 5 rfl ?_
 refine ln rfl rfl ?_
 refine rn 2 rfl ?_
 refine jK h (fun (p : (List ((List UInt8) × (List Int)))) => (⟨[(2, (V.lst 1 (a3.map encS))), (7, (V.ptr 0 9 0 0))], [(0, (Ob.arr 54 9 [[(V.lst 2 (a1.Ifaces.map encTIface)), (V.lst 2 (a1.Types.map encTType)), (V.lst 4 (a1.Funcs.map encTFunc)), (V.lst 1 (a1.Entries.map encS)), (V.map 1), (V.map 2), (V.map 3), (V.map 4), (bV (a2 == 2))]])), (1, (Ob.map (m67.map encM9_3))), (2, (Ob.map (m77.map encM9_3))), (3, (Ob.map (p.map encM9_153))), (4, (Ob.map ((mput ([] : List ((List UInt8) × Bool)) ([] : List UInt8) true).map encM9_4)))], 5⟩ : St)) (fun k86 p => k86 p = some r) (fun k86 h => ?_) ?_
 ·refine rn 1 rfl ?_
  refine wl (A := a1.Ifaces) 61 rfl (fun hA113 => ?_)
  refine lC (fun (p : Int × (List ((List UInt8) × (List Int)))) => (⟨[(2, (V.lst 1 (a3.map encS))), (3, (V.ptr 0 4 0 0)), (7, (V.ptr 1 9 0 0)), (61, (V.lst 2 (a1.Ifaces.map encTIface))), (62, (iV ((a1.Ifaces.length : Nat) : Int))), (63, (iV (p.1)))], [(0, (Ob.arr 27 4 [(encTGraph a1)])), (1, (Ob.arr 54 9 [[(V.lst 2 (a1.Ifaces.map encTIface)), (V.lst 2 (a1.Types.map encTType)), (V.lst 4 (a1.Funcs.map encTFunc)), (V.lst 1 (a1.Entries.map encS)), (V.map 2), (V.map 3), (V.map 4), (V.map 5), (bV (a2 == 2))]])), (2, (Ob.map (m67.map encM9_3))), (3, (Ob.map (m77.map encM9_3))), (4, (Ob.map ((p.2).map encM9_153))), (5, (Ob.map ((mput ([] : List ((List UInt8) × Bool)) ([] : List UInt8) true).map encM9_4)))], 6⟩ : St)) (fun n p => RG a1.Ifaces (fun tl nn => M31_L3 F a1 k86 tl p.2 = some r) n p.1) (fun p h => RG.zero h) (a1.Ifaces.length + 1) (0, ([] : List ((List UInt8) × (List Int)))) (RG.start h) (gr [0, 1, 2, 3, 4, 5] rfl (hB rfl rfl rfl (hB rfl rfl rfl (hM rfl rfl (hM rfl rfl (hM rfl rfl (hM rfl rfl .nil)))))) rfl) (fun n p h => ?_)
  obtain ⟨n90, m91⟩ := p
  refine rn 5 rfl ?_
  refine spL rfl (fun hb92 => ?_) (fun hb92 => ?_)
  ·obtain ⟨x95, tl, hx96, h, hk3⟩ := RG.t hA113 h hb92
   unfold M31_L3 at h
   refine rn 2 rfl ?_
   refine jK h (fun (p : (List ((List UInt8) × (List Int)))) => (⟨[(2, (V.lst 1 (a3.map encS))), (3, (V.ptr 0 4 0 0)), (7, (V.ptr 1 9 0 0)), (61, (V.lst 2 (a1.Ifaces.map encTIface))), (62, (iV ((a1.Ifaces.length : Nat) : Int))), (63, (iV n90))], [(0, (Ob.arr 27 4 [(encTGraph a1)])), (1, (Ob.arr 54 9 [[(V.lst 2 (a1.Ifaces.map encTIface)), (V.lst 2 (a1.Types.map encTType)), (V.lst 4 (a1.Funcs.map encTFunc)), (V.lst 1 (a1.Entries.map encS)), (V.map 2), (V.map 3), (V.map 4), (V.map 5), (bV (a2 == 2))]])), (2, (Ob.map (m67.map encM9_3))), (3, (Ob.map (m77.map encM9_3))), (4, (Ob.map (p.map encM9_153))), (5, (Ob.map ((mput ([] : List ((List UInt8) × Bool)) ([] : List UInt8) true).map encM9_4)))], 6⟩ : St)) (fun k93 p => k93 p = some r) (fun k93 h => ?_) ?_
   ·refine rn 3 rfl ?_
    refine ixh hx96 rfl rfl ?_
    refine rn 8 rfl ?_
    refine ln rfl rfl ?_
    refine rn 2 rfl ?_
    refine jK h (fun (p : (List ((List UInt8) × (List Int)))) => (⟨[(2, (V.lst 1 (a3.map encS))), (3, (V.ptr 0 4 0 0)), (7, (V.ptr 1 9 0 0)), (61, (V.lst 2 (a1.Ifaces.map encTIface))), (62, (iV ((a1.Ifaces.length : Nat) : Int))), (63, (iV n90))], [(0, (Ob.arr 27 4 [(encTGraph a1)])), (1, (Ob.arr 54 9 [[(V.lst 2 (a1.Ifaces.map encTIface)), (V.lst 2 (a1.Types.map encTType)), (V.lst 4 (a1.Funcs.map encTFunc)), (V.lst 1 (a1.Entries.map encS)), (V.map 2), (V.map 3), (V.map 4), (V.map 5), (bV (a2 == 2))]])), (2, (Ob.map (m67.map encM9_3))), (3, (Ob.map (m77.map encM9_3))), (4, (Ob.map (p.map encM9_153))), (5, (Ob.map ((mput ([] : List ((List UInt8) × Bool)) ([] : List UInt8) true).map encM9_4)))], 6⟩ : St)) (fun k97 p => k97 p = some r) (fun k97 h => ?_) ?_
    ·refine rn 1 rfl ?_
     refine wl (A := a1.Types) 68 rfl (fun hA112 => ?_)
     refine lC (fun (p : Int × (List ((List UInt8) × (List Int)))) => (⟨[(2, (V.lst 1 (a3.map encS))), (3, (V.ptr 0 4 0 0)), (7, (V.ptr 1 9 0 0)), (13, (V.ptr 2 2 0 0)), (61, (V.lst 2 (a1.Ifaces.map encTIface))), (62, (iV ((a1.Ifaces.length : Nat) : Int))), (63, (iV n90)), (68, (V.lst 2 (a1.Types.map encTType))), (69, (iV ((a1.Types.length : Nat) : Int))), (70, (iV (p.1)))], [(0, (Ob.arr 27 4 [(encTGraph a1)])), (1, (Ob.arr 54 9 [[(V.lst 2 (a1.Ifaces.map encTIface)), (V.lst 2 (a1.Types.map encTType)), (V.lst 4 (a1.Funcs.map encTFunc)), (V.lst 1 (a1.Entries.map encS)), (V.map 3), (V.map 4), (V.map 5), (V.map 6), (bV (a2 == 2))]])), (2, (Ob.arr 114 2 [(encTIface x95)])), (3, (Ob.map (m67.map encM9_3))), (4, (Ob.map (m77.map encM9_3))), (5, (Ob.map ((p.2).map encM9_153))), (6, (Ob.map ((mput ([] : List ((List UInt8) × Bool)) ([] : List UInt8) true).map encM9_4)))], 7⟩ : St)) (fun n p => RG a1.Types (fun tl nn => M31_L4 F x95 k97 tl nn p.2 = some r) n p.1) (fun p h => RG.zero h) (a1.Types.length + 1) (0, m91) (RG.start h) (gr [0, 1, 6, 2, 3, 4, 5] rfl (hB rfl rfl rfl (hB rfl rfl rfl (hB rfl rfl rfl (hM rfl rfl (hM rfl rfl (hM rfl rfl (hM rfl rfl .nil))))))) rfl) (fun n p h => ?_)
     obtain ⟨n101, m102⟩ := p
     refine rn 5 rfl ?_
     refine spL rfl (fun hb103 => ?_) (fun hb103 => ?_)
     ·obtain ⟨x104, tl, hx105, h, hk4⟩ := RG.t hA112 h hb103
      unfold M31_L4 at h
      refine rn 6 rfl ?_
      refine ixh hx105 rfl rfl ?_
      refine rn 9 rfl ?_
      refine cl h rfl rfl rfl (W43 _ _ _) rfl (fun y106 hx107 h => ?_)
      refine rn 1 rfl ?_
      refine jK h (fun (p : (List ((List UInt8) × (List Int)))) => (⟨[(2, (V.lst 1 (a3.map encS))), (3, (V.ptr 0 4 0 0)), (7, (V.ptr 1 9 0 0)), (13, (V.ptr 2 2 0 0)), (61, (V.lst 2 (a1.Ifaces.map encTIface))), (62, (iV ((a1.Ifaces.length : Nat) : Int))), (63, (iV n90)), (68, (V.lst 2 (a1.Types.map encTType))), (69, (iV ((a1.Types.length : Nat) : Int))), (70, (iV n101))], [(0, (Ob.arr 27 4 [(encTGraph a1)])), (1, (Ob.arr 54 9 [[(V.lst 2 (a1.Ifaces.map encTIface)), (V.lst 2 (a1.Types.map encTType)), (V.lst 4 (a1.Funcs.map encTFunc)), (V.lst 1 (a1.Entries.map encS)), (V.map 3), (V.map 4), (V.map 5), (V.map 6), (bV (a2 == 2))]])), (2, (Ob.arr 114 2 [(encTIface x95)])), (3, (Ob.map (m67.map encM9_3))), (4, (Ob.map (m77.map encM9_3))), (5, (Ob.map (p.map encM9_153))), (6, (Ob.map ((mput ([] : List ((List UInt8) × Bool)) ([] : List UInt8) true).map encM9_4)))], 7⟩ : St)) (fun k108 p => k108 p = some r) (fun k108 h => ?_) ?_
      ·refine spC h rfl (fun hb110 h => ?_) (fun hb110 h => ?_)
       ·refine ck h (fun hc111 h => ?_)
        refine awp_ghost ghost_res ?_
        refine awp_ghost ghost_res ?_
        refine fa ?_
        refine dr mixed (vs 12 rfl (xD (OD.mk [(87, (V.map 5)), (89, (sV x95.Name))] [(5, (Ob.map (m102.map encM9_153))), (8, Ob.res)] [(90, (V.own 8 ((mget m102 x95.Name).getD []).length))] [(5, (Ob.map (holeM encM9_153 8 x95.Name m102))), (8, (Ob.arr 3 1 (((mget m102 x95.Name).getD []).map encI_i64)))]) ⟨⟨rfl, rfl, trivial⟩, ⟨rfl, rfl, trivial⟩⟩ (by exact fun S hn h hh => aops_lookup_tk_at 8 rfl hn hh.2.1 (n := ((mget m102 x95.Name).getD []).length) tMap51 tKey9 tZo45 wants_none h.1 hh.1 (.con h.2.1) ⟨_, rfl⟩ encM9_153_good (lookT_enc encM9_153 (fun k => str k) encI_i64 3 1 8 (fun _ => rfl) inj_str x95.Name m102) (by simp) rfl (aops_nil ⟨rfl, rfl⟩)) rfl (vs 1 rfl (xD (OD.mk [(91, (iV n101))] [] [(92, (V.lst 1 (([n101] : List Int).map encI_i64)))] []) ⟨⟨rfl, trivial⟩, trivial⟩ (by exact fun S hn h hh => aops_buildSlice_imm [(0, (iV n101))] [[(iV n101)]] tEl45 tZ3 wants_none rfl rfl rfl rfl (evp_cons h.1 evp_nil) rfl rfl (by simp) (imms_rows (.cons (.cons (Imm.con _) .nil) .nil)) rfl (aops_nil ⟨rfl, rfl⟩)) rfl (xD (OD.mk [(90, (V.own 8 ((mget m102 x95.Name).getD []).length)), (92, (V.lst 1 (([n101] : List Int).map encI_i64)))] [(8, (Ob.arr 3 1 (((mget m102 x95.Name).getD []).map encI_i64))), (9, Ob.res)] [(93, (V.own 9 (((mget m102 x95.Name).getD []) ++ ([n101] : List Int)).length))] [(9, (Ob.arr 3 1 ((((mget m102 x95.Name).getD []) ++ ([n101] : List Int)).map encI_i64))), (8, Ob.dead)]) ⟨⟨rfl, rfl, trivial⟩, ⟨rfl, rfl, trivial⟩⟩ (by exact fun S hn h hh => aops_append_at 9 rfl hn hh.2.1 (([n101] : List Int).map encI_i64) ((((mget m102 x95.Name).getD []) ++ ([n101] : List Int)).map encI_i64) tEl45 tIsSl45 rfl rfl wants_none h.1 hh.1 (by simp) h.2.1 (.lst (rows_one one_encI_i64)) (map_snoc encI_i64 ((mget m102 x95.Name).getD []) ([n101] : List Int)) (List.length_map ..) hc111 rfl (aops_nil ⟨rfl, rfl⟩)) rfl (xD (OD.mk [(81, (V.map 5)), (83, (sV x95.Name)), (93, (V.own 9 (((mget m102 x95.Name).getD []) ++ ([n101] : List Int)).length))] [(5, (Ob.map (holeM encM9_153 8 x95.Name m102))), (9, (Ob.arr 3 1 ((((mget m102 x95.Name).getD []) ++ ([n101] : List Int)).map encI_i64)))] [] [(5, (Ob.map ((mput m102 x95.Name (((mget m102 x95.Name).getD []) ++ ([n101] : List Int))).map encM9_153))), (9, Ob.dead)]) ⟨⟨rfl, rfl, rfl, trivial⟩, ⟨rfl, rfl, trivial⟩⟩ (by exact fun S hn h hh => aops_mapUpdate_deepG (id2 := 9) (o := (V.own 9 (((mget m102 x95.Name).getD []) ++ ([n101] : List Int)).length)) (dv := (.dsl 3 1 ((((mget m102 x95.Name).getD []) ++ ([n101] : List Int)).map encI_i64))) (ob := (.arr 3 1 ((((mget m102 x95.Name).getD []) ++ ([n101] : List Int)).map encI_i64))) ((mput m102 x95.Name (((mget m102 x95.Name).getD []) ++ ([n101] : List Int))).map encM9_153) tMap51 tKey9 wants_none h.1 hh.1 (.con h.2.1) ⟨_, rfl⟩ (good_holeM (fun _ => ⟨_, rfl⟩)) h.2.2.1 (by simp [ovl]) hh.2.1 rfl (okeep_rows imms_encI_i64 (((mget m102 x95.Name).getD []) ++ ([n101] : List Int))) (puts_hole encM9_153 (fun k => str k) encI_i64 3 1 8 (fun _ => rfl) inj_str x95.Name (((mget m102 x95.Name).getD []) ++ ([n101] : List Int)) m102) (aops_nil ⟨rfl, rfl⟩)) rfl .nil)))))) (by kernel_rfl) ?_
        exact jX (mput m102 x95.Name (((mget m102 x95.Name).getD []) ++ ([n101] : List Int))) h (gr [0, 1, 2, 3, 4, 5, 6] rfl (hB rfl rfl rfl (hB rfl rfl rfl (hB rfl rfl rfl (hM rfl rfl (hM rfl rfl (hM rfl rfl (hM rfl rfl .nil))))))) rfl)
       refine rn 1 rfl ?_
       exact jX m102 h (gr [0, 1, 2, 3, 4, 5, 6] rfl (hB rfl rfl rfl (hB rfl rfl rfl (hB rfl rfl rfl (hM rfl rfl (hM rfl rfl (hM rfl rfl (hM rfl rfl .nil))))))) rfl)
      intro m109 h
      refine rn 5 rfl ?_
      exact jX ((w64 (n101 + 1)), m109) (hk4 _ h) (gr [0, 1, 2, 3, 4, 5, 6] rfl (hB rfl rfl rfl (hB rfl rfl rfl (hB rfl rfl rfl (hM rfl rfl (hM rfl rfl (hM rfl rfl (hM rfl rfl .nil))))))) rfl)
     replace h := RG.f h hb103
     unfold M31_L4 at h
     refine rn 1 rfl ?_
     exact jX m102 h (gr [0, 1, 3, 4, 5, 6] rfl (hB rfl rfl rfl (hB rfl rfl rfl (hM rfl rfl (hM rfl rfl (hM rfl rfl (hM rfl rfl .nil)))))) rfl)
    intro m98 h
    refine rn 1 rfl ?_
    exact jX m98 h (gr [0, 1, 2, 3, 4, 5] rfl (hB rfl rfl rfl (hB rfl rfl rfl (hM rfl rfl (hM rfl rfl (hM rfl rfl (hM rfl rfl .nil)))))) rfl)
   intro m94 h
   refine rn 4 rfl ?_
   exact jX ((w64 (n90 + 1)), m94) (hk3 _ h) (gr [0, 1, 2, 3, 4, 5] rfl (hB rfl rfl rfl (hB rfl rfl rfl (hM rfl rfl (hM rfl rfl (hM rfl rfl (hM rfl rfl .nil)))))) rfl)
  replace h := RG.f h hb92
  unfold M31_L3 at h
  refine rn 1 rfl ?_
  exact jX m91 h (gr [1, 2, 3, 4, 5] rfl (hB rfl rfl rfl (hM rfl rfl (hM rfl rfl (hM rfl rfl (hM rfl rfl .nil))))) rfl)
 intro m87 h
 refine rn 4 rfl ?_
 refine ln rfl rfl ?_
 refine rn 2 rfl ?_
 refine jK h (fun (p : (List ((List UInt8) × Bool))) => (⟨[(7, (V.ptr 0 9 0 0))], [(0, (Ob.arr 54 9 [[(V.lst 2 (a1.Ifaces.map encTIface)), (V.lst 2 (a1.Types.map encTType)), (V.lst 4 (a1.Funcs.map encTFunc)), (V.lst 1 (a1.Entries.map encS)), (V.map 1), (V.map 2), (V.map 3), (V.map 4), (bV (a2 == 2))]])), (1, (Ob.map (m67.map encM9_3))), (2, (Ob.map (m77.map encM9_3))), (3, (Ob.map (m87.map encM9_153))), (4, (Ob.map (p.map encM9_4)))], 5⟩ : St)) (fun k114 p => k114 p = some r) (fun k114 h => ?_) ?_
 ·refine rn 1 rfl ?_
  refine wl (A := a3) 2 rfl (fun hA123 => ?_)
  refine lC (fun (p : Int × (List ((List UInt8) × Bool))) => (⟨[(7, (V.ptr 0 9 0 0)), (96, (V.lst 1 (a3.map encS))), (97, (iV ((a3.length : Nat) : Int))), (98, (iV (p.1)))], [(0, (Ob.arr 54 9 [[(V.lst 2 (a1.Ifaces.map encTIface)), (V.lst 2 (a1.Types.map encTType)), (V.lst 4 (a1.Funcs.map encTFunc)), (V.lst 1 (a1.Entries.map encS)), (V.map 1), (V.map 2), (V.map 3), (V.map 4), (bV (a2 == 2))]])), (1, (Ob.map (m67.map encM9_3))), (2, (Ob.map (m77.map encM9_3))), (3, (Ob.map (m87.map encM9_153))), (4, (Ob.map ((p.2).map encM9_4)))], 5⟩ : St)) (fun n p => RG a3 (fun tl nn => M31_L5 F k114 tl p.2 = some r) n p.1) (fun p h => RG.zero h) (a3.length + 1) (0, (mput ([] : List ((List UInt8) × Bool)) ([] : List UInt8) true)) (RG.start h) (gr [0, 1, 2, 3, 4] rfl (hB rfl rfl rfl (hM rfl rfl (hM rfl rfl (hM rfl rfl (hM rfl rfl .nil))))) rfl) (fun n p h => ?_)
  obtain ⟨n118, m119⟩ := p
  refine rn 5 rfl ?_
  refine spL rfl (fun hb120 => ?_) (fun hb120 => ?_)
  ·obtain ⟨x121, tl, hx122, h, hk5⟩ := RG.t hA123 h hb120
   unfold M31_L5 at h
   refine rn 5 rfl ?_
   refine ixh hx122 rfl rfl ?_
   refine rn 9 rfl ?_
   refine aops_mapUpdate (es := m119.map encM9_4) ((mput m119 x121 true).map encM9_4) tMap52 tKey9 wants_none rfl rfl (.con rfl) ⟨_, rfl⟩ encM9_4_good rfl (encM9_4_puts m119 x121 true) ?_
   refine fo (rn 6 rfl ?_)
   exact jX ((w64 (n118 + 1)), (mput m119 x121 true)) (hk5 _ h) (gr [0, 1, 2, 3, 4] rfl (hB rfl rfl rfl (hM rfl rfl (hM rfl rfl (hM rfl rfl (hM rfl rfl .nil))))) rfl)
  replace h := RG.f h hb120
  unfold M31_L5 at h
  refine rn 1 rfl ?_
  exact jX m119 h (gr [0, 1, 2, 3, 4] rfl (hB rfl rfl rfl (hM rfl rfl (hM rfl rfl (hM rfl rfl (hM rfl rfl .nil))))) rfl)
 intro m115 h
 refine rn 5 rfl ?_
 replace h := Option.some.inj h
 subst h
 exact wR ⟨.inl rfl, [(6, (V.ptr 0 9 0 0))], (Ghost.trans (ghost_frzMC 1 0 (Ob.arr 54 9 [[(V.lst 2 (a1.Ifaces.map encTIface)), (V.lst 2 (a1.Types.map encTType)), (V.lst 4 (a1.Funcs.map encTFunc)), (V.lst 1 (a1.Entries.map encS)), (V.imap (m67.map encM9_3)), (V.map 2), (V.map 3), (V.map 4), (bV (a2 == 2))]]) rfl encM9_3_imm (ObSub.box (.cons Sub.keepM (.cons Sub.keepM (.cons Sub.keepM (.cons Sub.keepM (.cons Sub.frzM (.cons Sub.keepM (.cons Sub.keepM (.cons Sub.keepM (.cons Sub.keepM .nil))))))))))) (Ghost.trans (ghost_frzMC 2 0 (Ob.arr 54 9 [[(V.lst 2 (a1.Ifaces.map encTIface)), (V.lst 2 (a1.Types.map encTType)), (V.lst 4 (a1.Funcs.map encTFunc)), (V.lst 1 (a1.Entries.map encS)), (V.imap (m67.map encM9_3)), (V.imap (m77.map encM9_3)), (V.map 3), (V.map 4), (bV (a2 == 2))]]) rfl encM9_3_imm (ObSub.box (.cons Sub.keepM (.cons Sub.keepM (.cons Sub.keepM (.cons Sub.keepM (.cons Sub.keepM (.cons Sub.frzM (.cons Sub.keepM (.cons Sub.keepM (.cons Sub.keepM .nil))))))))))) (Ghost.trans (ghost_frzDMC 3 0 (m87.map encM9_45) (Ob.arr 54 9 [[(V.lst 2 (a1.Ifaces.map encTIface)), (V.lst 2 (a1.Types.map encTType)), (V.lst 4 (a1.Funcs.map encTFunc)), (V.lst 1 (a1.Entries.map encS)), (V.imap (m67.map encM9_3)), (V.imap (m77.map encM9_3)), (V.imap (m87.map encM9_45)), (V.map 4), (bV (a2 == 2))]]) rfl (by simp) (und_map encM9_153_und _) (ObSub.box (.cons Sub.keepM (.cons Sub.keepM (.cons Sub.keepM (.cons Sub.keepM (.cons Sub.keepM (.cons Sub.keepM (.cons Sub.frzM (.cons Sub.keepM (.cons Sub.keepM .nil))))))))))) (gr [0, 4] rfl (hB rfl rfl rfl (hM rfl rfl .nil)) rfl)))), (.cons (.tmp rfl) .nil)⟩
theorem W18l (F : Nat) (a1 : TGraph) (a2 : Int) (a3 : (List (List UInt8))) (r : (((List ((List UInt8) × Int)) × (List ((List UInt8) × Int)) × (List ((List UInt8) × (List Int))) × (List ((List UInt8) × Bool))) ⊕ Int)) (r0 : ((List ((List UInt8) × Int)) × (List ((List UInt8) × Int)) × (List ((List UInt8) × (List Int))) × (List ((List UInt8) × Bool)))) (hr : r = Sum.inl r0) (h : M18 F a1 a2 a3 = some r) : Mut Try.prog 18 [(V.agg (encTGraph a1)), (iV a2), (V.lst 1 (a3.map encS))] 0 [] (resV [(V.ptr 0 9 0 0), (iV 0)]) 2 [(0, (Ob.arr 54 9 [[(V.lst 2 (a1.Ifaces.map encTIface)), (V.lst 2 (a1.Types.map encTType)), (V.lst 4 (a1.Funcs.map encTFunc)), (V.lst 1 (a1.Entries.map encS)), (V.imap ((r0.1).map encM9_3)), (V.imap ((r0.2.1).map encM9_3)), (V.imap ((r0.2.2.1).map encM9_45)), (V.map 1), (bV (a2 == 2))]])), (1, (Ob.map ((r0.2.2.2).map encM9_4)))] := by
 refine mut_enter Try.func18 rfl rfl (l := [.tmp 6, .tmp 7]) rfl rfl [(0, (V.agg (encTGraph a1))), (1, (iV a2)), (2, (V.lst 1 (a3.map encS)))] rfl (fun w0 m0 β0 hg => en ?_)
 unfold M18 at h
 refine rn 10 rfl ?_
 refine cl h rfl rfl rfl (W29 _ _) rfl (fun y21 hx22 h => ?_)
 refine rn 7 rfl ?_
 refine spC h rfl (fun hb23 h => ?_) (fun hb23 h => ?_)
 ·refine rn 6 rfl ?_
  exact absurd ((Option.some.inj h).trans hr) (by simp)
 refine rn 5 rfl ?_
 refine cl h rfl rfl rfl (W30 _ _) rfl (fun y24 hx25 h => ?_)
 refine rn 7 rfl ?_
 refine spC h rfl (fun hb26 h => ?_) (fun hb26 h => ?_)
 ·refine rn 6 rfl ?_
  exact absurd ((Option.some.inj h).trans hr) (by simp)
 refine rn 7 rfl ?_
 refine spO 22 h rfl (fun hb27 h => ?_) (fun hb27 h => ?_)
 ·refine rn 4 rfl ?_
  refine spC h rfl (fun hb28 h => ?_) (fun hb28 h => ?_)
  ·refine rn 5 rfl ?_
   exact absurd ((Option.some.inj h).trans hr) (by simp)
  obtain ⟨y29, hx30, h⟩ := bind_some h
  refine rn 6 rfl ?_
  refine aops_mcallS (V.ptr 1 9 0 0) [(V.agg (encTGraph a1)), (iV a2), (V.lst 1 (a3.map encS))] (fun i => ([] : List Nat).getD i 0) (fun i => ([1, 2] : List Nat).getD i 0) 1 3 [(1, (Ob.arr 54 9 [[(V.lst 2 (a1.Ifaces.map encTIface)), (V.lst 2 (a1.Types.map encTType)), (V.lst 4 (a1.Funcs.map encTFunc)), (V.lst 1 (a1.Entries.map encS)), (V.imap ((y29.1).map encM9_3)), (V.imap ((y29.2.1).map encM9_3)), (V.imap ((y29.2.2.1).map encM9_45)), (V.map 2), (bV (a2 == 2))]])), (2, (Ob.map ((y29.2.2.2).map encM9_4)))] fOk31 wants_none rfl (evm_cons rfl (evm_cons rfl (evm_cons rfl evm_nil))) (.cons (Sub.imm (Imm.agg (imms_encTGraph _))) (.cons (Sub.imm (Imm.con _)) (.cons (Sub.imm (Imm.lst _ _)) .nil))) .nil (W31 F a1 a2 a3 y29 hx30) rfl rfl rfl rfl (Sub.ptrT rfl rfl) (.cons rfl (ObSub.box (.cons (Sub.immT (Imm.lst _ _)) (.cons (Sub.immT (Imm.lst _ _)) (.cons (Sub.immT (Imm.lst _ _)) (.cons (Sub.immT (Imm.lst _ _)) (.cons (Sub.immT (Imm.imap _)) (.cons (Sub.immT (Imm.imap _)) (.cons (Sub.immT (Imm.imap _)) (.cons (Sub.mapT rfl rfl) (.cons (Sub.immT (Imm.con _)) .nil)))))))))) (.cons rfl (ObSub.mapsT encM9_4_imm) .nil)) _ rfl ?_
  refine fo (rn 3 rfl ?_)
  replace hr := Sum.inl.inj ((Option.some.inj h).trans hr)
  subst hr
  exact wR ⟨.inl rfl, [(6, (V.ptr 0 9 0 0)), (7, (iV 0))], (gr [1, 2] rfl (hB rfl rfl rfl (hM rfl rfl .nil)) rfl), (.cons (.tmp rfl) (.cons (.tmp rfl) .nil))⟩
 obtain ⟨y31, hx32, h⟩ := bind_some h
 refine rn 11 rfl ?_
 refine aops_mcallS (V.ptr 1 9 0 0) [(V.agg (encTGraph a1)), (iV a2), (V.lst 1 (a3.map encS))] (fun i => ([] : List Nat).getD i 0) (fun i => ([1, 2] : List Nat).getD i 0) 1 3 [(1, (Ob.arr 54 9 [[(V.lst 2 (a1.Ifaces.map encTIface)), (V.lst 2 (a1.Types.map encTType)), (V.lst 4 (a1.Funcs.map encTFunc)), (V.lst 1 (a1.Entries.map encS)), (V.imap ((y31.1).map encM9_3)), (V.imap ((y31.2.1).map encM9_3)), (V.imap ((y31.2.2.1).map encM9_45)), (V.map 2), (bV (a2 == 2))]])), (2, (Ob.map ((y31.2.2.2).map encM9_4)))] fOk31 wants_none rfl (evm_cons rfl (evm_cons rfl (evm_cons rfl evm_nil))) (.cons (Sub.imm (Imm.agg (imms_encTGraph _))) (.cons (Sub.imm (Imm.con _)) (.cons (Sub.imm (Imm.lst _ _)) .nil))) .nil (W31 F a1 a2 a3 y31 hx32) rfl rfl rfl rfl (Sub.ptrT rfl rfl) (.cons rfl (ObSub.box (.cons (Sub.immT (Imm.lst _ _)) (.cons (Sub.immT (Imm.lst _ _)) (.cons (Sub.immT (Imm.lst _ _)) (.cons (Sub.immT (Imm.lst _ _)) (.cons (Sub.immT (Imm.imap _)) (.cons (Sub.immT (Imm.imap _)) (.cons (Sub.immT (Imm.imap _)) (.cons (Sub.mapT rfl rfl) (.cons (Sub.immT (Imm.con _)) .nil)))))))))) (.cons rfl (ObSub.mapsT encM9_4_imm) .nil)) _ rfl ?_
 refine fo (rn 3 rfl ?_)
 replace hr := Sum.inl.inj ((Option.some.inj h).trans hr)
 subst hr
 exact wR ⟨.inl rfl, [(6, (V.ptr 0 9 0 0)), (7, (iV 0))], (gr [1, 2] rfl (hB rfl rfl rfl (hM rfl rfl .nil)) rfl), (.cons (.tmp rfl) (.cons (.tmp rfl) .nil))⟩
theorem W18r (F : Nat) (a1 : TGraph) (a2 : Int) (a3 : (List (List UInt8))) (r : (((List ((List UInt8) × Int)) × (List ((List UInt8) × Int)) × (List ((List UInt8) × (List Int))) × (List ((List UInt8) × Bool))) ⊕ Int)) (r0 : Int) (hr : r = Sum.inr r0) (h : M18 F a1 a2 a3 = some r) : Mut Try.prog 18 [(V.agg (encTGraph a1)), (iV a2), (V.lst 1 (a3.map encS))] 0 [] (resV [(V.con (.pointer none)), (iV r0)]) 0 [] := by
 refine mut_enter Try.func18 rfl rfl (l := [.tmp 6, .tmp 7]) rfl rfl [(0, (V.agg (encTGraph a1))), (1, (iV a2)), (2, (V.lst 1 (a3.map encS)))] rfl (fun w0 m0 β0 hg => en ?_)
 unfold M18 at h
 refine rn 10 rfl ?_
 refine cl h rfl rfl rfl (W29 _ _) rfl (fun y21 hx22 h => ?_)
 refine rn 7 rfl ?_
 refine spC h rfl (fun hb23 h => ?_) (fun hb23 h => ?_)
 ·refine rn 6 rfl ?_
  replace hr := Sum.inr.inj ((Option.some.inj h).trans hr)
  subst hr
  exact wR ⟨.inl rfl, [(6, (V.con (.pointer none))), (7, (iV y21))], (g0 rfl rfl), (.cons (.tmp rfl) (.cons (.tmp rfl) .nil))⟩
 refine rn 5 rfl ?_
 refine cl h rfl rfl rfl (W30 _ _) rfl (fun y24 hx25 h => ?_)
 refine rn 7 rfl ?_
 refine spC h rfl (fun hb26 h => ?_) (fun hb26 h => ?_)
 ·refine rn 6 rfl ?_
  replace hr := Sum.inr.inj ((Option.some.inj h).trans hr)
  subst hr
  exact wR ⟨.inl rfl, [(6, (V.con (.pointer none))), (7, (iV y24))], (g0 rfl rfl), (.cons (.tmp rfl) (.cons (.tmp rfl) .nil))⟩
 refine rn 7 rfl ?_
 refine spO 22 h rfl (fun hb27 h => ?_) (fun hb27 h => ?_)
 ·refine rn 4 rfl ?_
  refine spC h rfl (fun hb28 h => ?_) (fun hb28 h => ?_)
  ·refine rn 5 rfl ?_
   replace hr := Sum.inr.inj ((Option.some.inj h).trans hr)
   subst hr
   exact wR ⟨.inl rfl, [(6, (V.con (.pointer none))), (7, (iV 7))], (g0 rfl rfl), (.cons (.tmp rfl) (.cons (.tmp rfl) .nil))⟩
  obtain ⟨y29, hx30, h⟩ := bind_some h
  refine rn 6 rfl ?_
  refine aops_mcallS (V.ptr 1 9 0 0) [(V.agg (encTGraph a1)), (iV a2), (V.lst 1 (a3.map encS))] (fun i => ([] : List Nat).getD i 0) (fun i => ([1, 2] : List Nat).getD i 0) 1 3 [(1, (Ob.arr 54 9 [[(V.lst 2 (a1.Ifaces.map encTIface)), (V.lst 2 (a1.Types.map encTType)), (V.lst 4 (a1.Funcs.map encTFunc)), (V.lst 1 (a1.Entries.map encS)), (V.imap ((y29.1).map encM9_3)), (V.imap ((y29.2.1).map encM9_3)), (V.imap ((y29.2.2.1).map encM9_45)), (V.map 2), (bV (a2 == 2))]])), (2, (Ob.map ((y29.2.2.2).map encM9_4)))] fOk31 wants_none rfl (evm_cons rfl (evm_cons rfl (evm_cons rfl evm_nil))) (.cons (Sub.imm (Imm.agg (imms_encTGraph _))) (.cons (Sub.imm (Imm.con _)) (.cons (Sub.imm (Imm.lst _ _)) .nil))) .nil (W31 F a1 a2 a3 y29 hx30) rfl rfl rfl rfl (Sub.ptrT rfl rfl) (.cons rfl (ObSub.box (.cons (Sub.immT (Imm.lst _ _)) (.cons (Sub.immT (Imm.lst _ _)) (.cons (Sub.immT (Imm.lst _ _)) (.cons (Sub.immT (Imm.lst _ _)) (.cons (Sub.immT (Imm.imap _)) (.cons (Sub.immT (Imm.imap _)) (.cons (Sub.immT (Imm.imap _)) (.cons (Sub.mapT rfl rfl) (.cons (Sub.immT (Imm.con _)) .nil)))))))))) (.cons rfl (ObSub.mapsT encM9_4_imm) .nil)) _ rfl ?_
  refine fo (rn 3 rfl ?_)
  exact absurd ((Option.some.inj h).trans hr) (by simp)
 obtain ⟨y31, hx32, h⟩ := bind_some h
 refine rn 11 rfl ?_
 refine aops_mcallS (V.ptr 1 9 0 0) [(V.agg (encTGraph a1)), (iV a2), (V.lst 1 (a3.map encS))] (fun i => ([] : List Nat).getD i 0) (fun i => ([1, 2] : List Nat).getD i 0) 1 3 [(1, (Ob.arr 54 9 [[(V.lst 2 (a1.Ifaces.map encTIface)), (V.lst 2 (a1.Types.map encTType)), (V.lst 4 (a1.Funcs.map encTFunc)), (V.lst 1 (a1.Entries.map encS)), (V.imap ((y31.1).map encM9_3)), (V.imap ((y31.2.1).map encM9_3)), (V.imap ((y31.2.2.1).map encM9_45)), (V.map 2), (bV (a2 == 2))]])), (2, (Ob.map ((y31.2.2.2).map encM9_4)))] fOk31 wants_none rfl (evm_cons rfl (evm_cons rfl (evm_cons rfl evm_nil))) (.cons (Sub.imm (Imm.agg (imms_encTGraph _))) (.cons (Sub.imm (Imm.con _)) (.cons (Sub.imm (Imm.lst _ _)) .nil))) .nil (W31 F a1 a2 a3 y31 hx32) rfl rfl rfl rfl (Sub.ptrT rfl rfl) (.cons rfl (ObSub.box (.cons (Sub.immT (Imm.lst _ _)) (.cons (Sub.immT (Imm.lst _ _)) (.cons (Sub.immT (Imm.lst _ _)) (.cons (Sub.immT (Imm.lst _ _)) (.cons (Sub.immT (Imm.imap _)) (.cons (Sub.immT (Imm.imap _)) (.cons (Sub.immT (Imm.imap _)) (.cons (Sub.mapT rfl rfl) (.cons (Sub.immT (Imm.con _)) .nil)))))))))) (.cons rfl (ObSub.mapsT encM9_4_imm) .nil)) _ rfl ?_
 refine fo (rn 3 rfl ?_)
 exact absurd ((Option.some.inj h).trans hr) (by simp)
theorem W12l (F : Nat) (a1 : TGraph) (a2 : Int) (a3 : (List (List UInt8))) (a4 : (List UInt8)) (r : ((Int × (List ((List UInt8) × Int)) × (List ((List UInt8) × Int)) × (List ((List UInt8) × (List Int))) × (List ((List UInt8) × Bool))) ⊕ Int)) (r0 : (Int × (List ((List UInt8) × Int)) × (List ((List UInt8) × Int)) × (List ((List UInt8) × (List Int))) × (List ((List UInt8) × Bool)))) (hr : r = Sum.inl r0) (h : M12 F a1 a2 a3 a4 = some r) : Mut Try.prog 12 [(V.agg (encTGraph a1)), (iV a2), (V.lst 1 (a3.map encS)), (sV a4)] 0 [] (resV [(V.ptr 0 9 0 0), (iV (r0.1)), (iV 0)]) 2 [(0, (Ob.arr 54 9 [[(V.lst 2 (a1.Ifaces.map encTIface)), (V.lst 2 (a1.Types.map encTType)), (V.lst 4 (a1.Funcs.map encTFunc)), (V.lst 1 (a1.Entries.map encS)), (V.imap ((r0.2.1).map encM9_3)), (V.imap ((r0.2.2.1).map encM9_3)), (V.imap ((r0.2.2.2.1).map encM9_45)), (V.map 1), (bV (a2 == 2))]])), (1, (Ob.map ((r0.2.2.2.2).map encM9_4)))] := by
 refine mut_enter Try.func12 rfl rfl (l := [.tmp 8, .tmp 9, .tmp 10]) rfl rfl [(0, (V.agg (encTGraph a1))), (1, (iV a2)), (2, (V.lst 1 (a3.map encS))), (3, (sV a4))] rfl (fun w0 m0 β0 hg => en ?_)
 unfold M12 at h
 refine rn 12 rfl ?_
 refine smB h (fun z18 hz20 h => ?_) (fun z19 hz21 h => ?_)
 ·refine aops_mcallS (V.tup [(V.ptr 1 9 0 0), (iV 0)]) [(V.agg (encTGraph a1)), (iV a2), (V.lst 1 (a3.map encS))] (fun i => ([] : List Nat).getD i 0) (fun i => ([1, 2] : List Nat).getD i 0) 1 3 [(1, (Ob.arr 54 9 [[(V.lst 2 (a1.Ifaces.map encTIface)), (V.lst 2 (a1.Types.map encTType)), (V.lst 4 (a1.Funcs.map encTFunc)), (V.lst 1 (a1.Entries.map encS)), (V.imap ((z18.1).map encM9_3)), (V.imap ((z18.2.1).map encM9_3)), (V.imap ((z18.2.2.1).map encM9_45)), (V.map 2), (bV (a2 == 2))]])), (2, (Ob.map ((z18.2.2.2).map encM9_4)))] fOk18 wants_none rfl (evm_cons rfl (evm_cons rfl (evm_cons rfl evm_nil))) (.cons (Sub.imm (Imm.agg (imms_encTGraph _))) (.cons (Sub.imm (Imm.con _)) (.cons (Sub.imm (Imm.lst _ _)) .nil))) .nil (W18l F a1 a2 a3 _ z18 rfl hz20) rfl rfl rfl rfl (Sub.tupT (.cons (Sub.ptrT rfl rfl) (.cons (Sub.immT (Imm.con _)) .nil))) (.cons rfl (ObSub.box (.cons (Sub.immT (Imm.lst _ _)) (.cons (Sub.immT (Imm.lst _ _)) (.cons (Sub.immT (Imm.lst _ _)) (.cons (Sub.immT (Imm.lst _ _)) (.cons (Sub.immT (Imm.imap _)) (.cons (Sub.immT (Imm.imap _)) (.cons (Sub.immT (Imm.imap _)) (.cons (Sub.mapT rfl rfl) (.cons (Sub.immT (Imm.con _)) .nil)))))))))) (.cons rfl (ObSub.mapsT encM9_4_imm) .nil)) _ rfl ?_
  refine fo (rn 12 rfl ?_)
  refine spC h rfl (fun hb22 h => ?_) (fun hb22 h => ?_)
  ·refine rn 7 rfl ?_
   exact absurd ((Option.some.inj h).trans hr) (by simp)
  refine rn 8 rfl ?_
  refine aops_lookup_okB _ (iV 0) (iV ((mget (z18.1) a4).getD 0)) tMap50 tKey9 tZo3 (irel_con _) wants_none rfl .imm (.con rfl) ⟨_, rfl⟩ encM9_3_good (encM9_3_look (z18.1) a4) (getD_map (encM9_3_val) (mget (z18.1) a4) 0) (isSome_map ..) rfl ?_
  refine fo (rn 12 rfl ?_)
  refine spC h rfl (fun hb23 h => ?_) (fun hb23 h => ?_)
  ·refine rn 6 rfl ?_
   exact absurd ((Option.some.inj h).trans hr) (by simp)
  refine rn 9 rfl ?_
  replace hr := Sum.inl.inj ((Option.some.inj h).trans hr)
  subst hr
  exact wR ⟨.inl rfl, [(8, (V.ptr 0 9 0 0)), (9, (iV ((mget (z18.1) a4).getD 0))), (10, (iV 0))], (gr [1, 2] rfl (hB rfl rfl rfl (hM rfl rfl .nil)) rfl), (.cons (.tmp rfl) (.cons (.tmp rfl) (.cons (.tmp rfl) .nil)))⟩
 refine aops_mcallS (V.tup [(V.con (.pointer none)), (iV z19)]) [(V.agg (encTGraph a1)), (iV a2), (V.lst 1 (a3.map encS))] (fun i => ([] : List Nat).getD i 0) (fun i => ([] : List Nat).getD i 0) 1 1 [] fOk18 wants_none rfl (evm_cons rfl (evm_cons rfl (evm_cons rfl evm_nil))) (.cons (Sub.imm (Imm.agg (imms_encTGraph _))) (.cons (Sub.imm (Imm.con _)) (.cons (Sub.imm (Imm.lst _ _)) .nil))) .nil (W18r F a1 a2 a3 _ z19 rfl hz21) rfl rfl rfl rfl (Sub.immT (Imm.tup (.cons (Imm.con _) (.cons (Imm.con _) .nil)))) .nil _ rfl ?_
 refine fo (rn 12 rfl ?_)
 refine spC h rfl (fun hb24 h => ?_) (fun hb24 h => ?_)
 ·refine rn 7 rfl ?_
  exact absurd ((Option.some.inj h).trans hr) (by simp)
 exact absurd h (by simp)
theorem W12r (F : Nat) (a1 : TGraph) (a2 : Int) (a3 : (List (List UInt8))) (a4 : (List UInt8)) (r : ((Int × (List ((List UInt8) × Int)) × (List ((List UInt8) × Int)) × (List ((List UInt8) × (List Int))) × (List ((List UInt8) × Bool))) ⊕ Int)) (r0 : Int) (hr : r = Sum.inr r0) (h : M12 F a1 a2 a3 a4 = some r) : Mut Try.prog 12 [(V.agg (encTGraph a1)), (iV a2), (V.lst 1 (a3.map encS)), (sV a4)] 0 [] (resV [(V.con (.pointer none)), (iV 0), (iV r0)]) 0 [] := by
 refine mut_enter Try.func12 rfl rfl (l := [.tmp 8, .tmp 9, .tmp 10]) rfl rfl [(0, (V.agg (encTGraph a1))), (1, (iV a2)), (2, (V.lst 1 (a3.map encS))), (3, (sV a4))] rfl (fun w0 m0 β0 hg => en ?_)
 unfold M12 at h
 refine rn 12 rfl ?_
 refine smB h (fun z18 hz20 h => ?_) (fun z19 hz21 h => ?_)
 ·refine aops_mcallS (V.tup [(V.ptr 1 9 0 0), (iV 0)]) [(V.agg (encTGraph a1)), (iV a2), (V.lst 1 (a3.map encS))] (fun i => ([] : List Nat).getD i 0) (fun i => ([1, 2] : List Nat).getD i 0) 1 3 [(1, (Ob.arr 54 9 [[(V.lst 2 (a1.Ifaces.map encTIface)), (V.lst 2 (a1.Types.map encTType)), (V.lst 4 (a1.Funcs.map encTFunc)), (V.lst 1 (a1.Entries.map encS)), (V.imap ((z18.1).map encM9_3)), (V.imap ((z18.2.1).map encM9_3)), (V.imap ((z18.2.2.1).map encM9_45)), (V.map 2), (bV (a2 == 2))]])), (2, (Ob.map ((z18.2.2.2).map encM9_4)))] fOk18 wants_none rfl (evm_cons rfl (evm_cons rfl (evm_cons rfl evm_nil))) (.cons (Sub.imm (Imm.agg (imms_encTGraph _))) (.cons (Sub.imm (Imm.con _)) (.cons (Sub.imm (Imm.lst _ _)) .nil))) .nil (W18l F a1 a2 a3 _ z18 rfl hz20) rfl rfl rfl rfl (Sub.tupT (.cons (Sub.ptrT rfl rfl) (.cons (Sub.immT (Imm.con _)) .nil))) (.cons rfl (ObSub.box (.cons (Sub.immT (Imm.lst _ _)) (.cons (Sub.immT (Imm.lst _ _)) (.cons (Sub.immT (Imm.lst _ _)) (.cons (Sub.immT (Imm.lst _ _)) (.cons (Sub.immT (Imm.imap _)) (.cons (Sub.immT (Imm.imap _)) (.cons (Sub.immT (Imm.imap _)) (.cons (Sub.mapT rfl rfl) (.cons (Sub.immT (Imm.con _)) .nil)))))))))) (.cons rfl (ObSub.mapsT encM9_4_imm) .nil)) _ rfl ?_
  refine fo (rn 12 rfl ?_)
  refine spC h rfl (fun hb22 h => ?_) (fun hb22 h => ?_)
  ·refine rn 7 rfl ?_
   replace hr := Sum.inr.inj ((Option.some.inj h).trans hr)
   subst hr
   exact wR ⟨.inl rfl, [(8, (V.con (.pointer none))), (9, (iV 0)), (10, (iV 0))], (g0 rfl rfl), (.cons (.tmp rfl) (.cons (.tmp rfl) (.cons (.tmp rfl) .nil)))⟩
  refine rn 8 rfl ?_
  refine aops_lookup_okB _ (iV 0) (iV ((mget (z18.1) a4).getD 0)) tMap50 tKey9 tZo3 (irel_con _) wants_none rfl .imm (.con rfl) ⟨_, rfl⟩ encM9_3_good (encM9_3_look (z18.1) a4) (getD_map (encM9_3_val) (mget (z18.1) a4) 0) (isSome_map ..) rfl ?_
  refine fo (rn 12 rfl ?_)
  refine spC h rfl (fun hb23 h => ?_) (fun hb23 h => ?_)
  ·refine rn 6 rfl ?_
   replace hr := Sum.inr.inj ((Option.some.inj h).trans hr)
   subst hr
   exact wR ⟨.inl rfl, [(8, (V.con (.pointer none))), (9, (iV 0)), (10, (iV 4))], (g0 rfl rfl), (.cons (.tmp rfl) (.cons (.tmp rfl) (.cons (.tmp rfl) .nil)))⟩
  refine rn 9 rfl ?_
  exact absurd ((Option.some.inj h).trans hr) (by simp)
 refine aops_mcallS (V.tup [(V.con (.pointer none)), (iV z19)]) [(V.agg (encTGraph a1)), (iV a2), (V.lst 1 (a3.map encS))] (fun i => ([] : List Nat).getD i 0) (fun i => ([] : List Nat).getD i 0) 1 1 [] fOk18 wants_none rfl (evm_cons rfl (evm_cons rfl (evm_cons rfl evm_nil))) (.cons (Sub.imm (Imm.agg (imms_encTGraph _))) (.cons (Sub.imm (Imm.con _)) (.cons (Sub.imm (Imm.lst _ _)) .nil))) .nil (W18r F a1 a2 a3 _ z19 rfl hz21) rfl rfl rfl rfl (Sub.immT (Imm.tup (.cons (Imm.con _) (.cons (Imm.con _) .nil)))) .nil _ rfl ?_
 refine fo (rn 12 rfl ?_)
 refine spC h rfl (fun hb24 h => ?_) (fun hb24 h => ?_)
 ·refine rn 7 rfl ?_
  replace hr := Sum.inr.inj ((Option.some.inj h).trans hr)
  subst hr
  exact wR ⟨.inl rfl, [(8, (V.con (.pointer none))), (9, (iV 0)), (10, (iV z19))], (g0 rfl rfl), (.cons (.tmp rfl) (.cons (.tmp rfl) (.cons (.tmp rfl) .nil)))⟩
 exact absurd h (by simp)
theorem W20 (F : Nat) (a1 : Int) (a2 : Treach_world) (a3 : List Bool) (a4 : List Bool) (a5 : List (Treach_slot × Bool)) (a6 : List Treach_slot) (a7 : List Int) (a8 : List Int) (r : ((List Bool) × (List Int))) (h : M20 F a1 a2 a3 a4 a5 a6 a7 a8 = some r) : Mut Try.prog 20 [(V.ptr 0 7 0 0), (iV a1)] 7 [(0, (Ob.arr 47 7 [[(V.iptr (encTreach_world a2) 0), (V.own 1 a3.length), (V.own 2 a4.length), (V.map 3), (V.own 4 a6.length), (V.own 5 a7.length), (V.own 6 a8.length)]])), (1, (Ob.arr 4 1 (a3.map encB))), (2, (Ob.arr 4 1 (a4.map encB))), (3, (Ob.map (a5.map encM84_4))), (4, (Ob.arr 84 2 (a6.map encTreach_slot))), (5, (Ob.arr 3 1 (a7.map encI_i64))), (6, (Ob.arr 3 1 (a8.map encI_i64)))] (resV []) 8 [(0, (Ob.arr 47 7 [[(V.iptr (encTreach_world a2) 0), (V.own 1 (r.1).length), (V.own 2 a4.length), (V.map 3), (V.own 4 a6.length), (V.own 5 a7.length), (V.own 7 (r.2).length)]])), (1, (Ob.arr 4 1 ((r.1).map encB))), (2, (Ob.arr 4 1 (a4.map encB))), (3, (Ob.map (a5.map encM84_4))), (4, (Ob.arr 84 2 (a6.map encTreach_slot))), (5, (Ob.arr 3 1 (a7.map encI_i64))), (6, Ob.dead), (7, (Ob.arr 3 1 ((r.2).map encI_i64)))] := by
 refine mut_enter Try.func20 rfl rfl (l := []) rfl rfl [(0, (V.ptr 0 7 0 0)), (1, (iV a1))] rfl (fun w0 m0 β0 hg => en ?_)
 unfold M20 at h
 refine rn 7 rfl ?_
 refine ixo (a := a3) h rfl rfl rfl (fun x17 hx18 h => ?_)
 refine ldp hx18 rfl rfl rfl rfl ?_
 refine rn 2 rfl ?_
 refine spC h rfl (fun hb19 h => ?_) (fun hb19 h => ?_)
 ·refine rn 7 rfl ?_
  refine ixo (a := a3) h rfl rfl rfl (fun x20 hx21 h => ?_)
  refine stS true hx21 rfl rfl rfl rfl rfl rfl ?_
  refine rn 8 rfl ?_
  refine aops_buildSlice [(0, (iV a1))] [[(iV a1)]] tEl45 tZ3 rfl rfl rfl rfl wants_none (evp_cons rfl evp_nil) rfl rfl (by simp) rfl ?_
  refine fo ?_
  refine apO encI_i64 h rfl rfl rfl rfl rfl rfl rfl rfl (fun h => ?_)
  refine rn 4 rfl ?_
  replace h := Option.some.inj h
  subst h
  exact wE ⟨.inr rfl, [], (ghost_ren 8 (fun i => ([0, 1, 2, 3, 4, 5, 6, 8] : List Nat).getD i 0) _ _ (by decide) (EnvSub.get .nil) (HpSub.get (.cons rfl (ObSub.box (.cons (Sub.imm (Imm.iptr _ _)) (.cons (Sub.ownE rfl rfl (by simp)) (.cons (Sub.own rfl rfl) (.cons (Sub.map rfl rfl) (.cons (Sub.own rfl rfl) (.cons (Sub.own rfl rfl) (.cons (Sub.own rfl rfl) .nil)))))))) (.cons rfl (ObSub.rows (rows_imm imms_encB)) (.cons rfl (ObSub.rows (rows_imm imms_encB)) (.cons rfl (ObSub.maps encM84_4_imm) (.cons rfl (ObSub.rows (rows_imm imms_encTreach_slot)) (.cons rfl (ObSub.rows (rows_imm imms_encI_i64)) (.cons rfl ObSub.deadT (.cons rfl (ObSub.rows (rows_imm imms_encI_i64)) .nil))))))))) rfl), .nil⟩
 refine rn 1 rfl ?_
 replace h := Option.some.inj h
 subst h
 exact wE ⟨.inr rfl, [], (Ghost.trans (ghost_mvC 6 0 7 3 1 (Ob.arr 47 7 [[(V.iptr (encTreach_world a2) 0), (V.own 1 a3.length), (V.own 2 a4.length), (V.map 3), (V.own 4 a6.length), (V.own 5 a7.length), (V.own 7 a8.length)]]) rfl rfl rfl (ObSub.box (.cons Sub.keepMv (.cons Sub.keepMv (.cons Sub.keepMv (.cons Sub.keepMv (.cons Sub.keepMv (.cons Sub.keepMv (.cons Sub.mv .nil)))))))) rfl rfl) (gr [0, 1, 2, 3, 4, 5, 6, 7] rfl (hB rfl rfl rfl (hR rfl rfl (hR rfl rfl (hM rfl rfl (hR rfl rfl (hR rfl rfl (hD rfl (hR rfl rfl .nil)))))))) rfl)), .nil⟩
theorem W44 (F : Nat) (a1 : (List Int)) (a2 : Int) (r : Int) (h : M44 F a1 a2 = some r) : Pure Try.prog 44 [(V.lst 1 (a1.map encI_i64)), (iV a2)] (iV r) := by
 refine pin (fun r => (iV r)) r rfl Try.func44 rfl rfl rfl rfl rfl (fun w0 m0 hg => ?_)
 unfold M44 at h
 refine rn 8 rfl ?_
 refine ln rfl rfl ?_
 refine rn 2 rfl ?_
 refine jK h (fun _ : Unit => (⟨[], [], 0⟩ : St)) (fun k3 (_ : Unit) => k3 = some r) (fun k3 h => ?_) ?_
 ·refine rn 1 rfl ?_
  refine wl (A := a1) 0 rfl (fun hA10 => ?_)
  refine lC (fun (p : Int) => (⟨[(0, (V.lst 1 (a1.map encI_i64))), (1, (iV a2)), (7, (iV ((a1.length : Nat) : Int))), (8, (iV p))], [], 0⟩ : St)) (fun n p => RG a1 (fun tl nn => M44_L1 F a2 k3 tl nn = some r) n p) (fun p h => RG.zero h) (a1.length + 1) 0 (RG.start h) (g0 rfl rfl) (fun n n5 h => ?_)
  refine rn 5 rfl ?_
  refine spL rfl (fun hb6 => ?_) (fun hb6 => ?_)
  ·obtain ⟨x7, tl, hx8, h, hk1⟩ := RG.t hA10 h hb6
   unfold M44_L1 at h
   refine rn 13 rfl ?_
   refine ixh hx8 rfl rfl ?_
   refine rn 3 rfl ?_
   refine spC h rfl (fun hb9 h => ?_) (fun hb9 h => ?_)
   ·refine rn 5 rfl ?_
    exact rt h rfl
   refine rn 6 rfl ?_
   exact jX (w64 (n5 + 1)) (hk1 _ h) (g0 rfl rfl)
  replace h := RG.f h hb6
  unfold M44_L1 at h
  refine rn 1 rfl ?_
  exact jX () h (g0 rfl rfl)
 intro _ h
 refine rn 4 rfl ?_
 exact rt h rfl
theorem W32 (F : Nat) (a1 : (List Int)) (a2 : Int) (r : Bool) (h : M32 F a1 a2 = some r) : Pure Try.prog 32 [(V.lst 1 (a1.map encI_i64)), (iV a2)] (bV r) := by
 refine pin (fun r => (bV r)) r rfl Try.func32 rfl rfl rfl rfl rfl (fun w0 m0 hg => ?_)
 unfold M32 at h
 refine rn 8 rfl ?_
 refine cl h rfl rfl rfl (W44 _ _ _) rfl (fun y3 hx4 h => ?_)
 refine rn 3 rfl ?_
 exact rt h rfl
theorem W33 (F : Nat) (a1 : Treach_world) (a2 : TCall) (a3 : Int) (r : Int) (h : M33 F a1 a2 a3 = some r) : Pure Try.prog 33 [(V.iptr (encTreach_world a1) 0), (V.agg (encTCall a2)), (iV a3)] (iV r) := by
 refine pin (fun r => (iV r)) r rfl Try.func33 rfl rfl rfl rfl rfl (fun w0 m0 hg => ?_)
 unfold M33 at h
 obtain ⟨x4, hx5, h⟩ := bind_some h
 obtain ⟨y6, hx7, h⟩ := bind_some h
 refine rn 6 rfl ?_
 refine dr mixed (vs 6 rfl (iD hx5 rfl rfl rfl (vs 3 rfl (cD rfl rfl rfl rfl (W45 _ _ _ _ hx7) rfl (vs 5 rfl .nil))))) (by kernel_rfl) ?_
 refine rn 7 rfl ?_
 refine aops_lookup _ (iV 0) (iV ((mget a1.funcs (y6.1)).getD 0)) tMap50 tKey9 tZo3 (irel_con _) wants_none rfl .imm (.con rfl) ⟨_, rfl⟩ encM9_3_good (encM9_3_look a1.funcs (y6.1)) (getD_map (encM9_3_val) (mget a1.funcs (y6.1)) 0) rfl ?_
 refine fo (rn 2 rfl ?_)
 exact rt h rfl
theorem W21 (F : Nat) (a1 : Int) (a2 : Treach_world) (a3 : List Bool) (a4 : List Bool) (a5 : List (Treach_slot × Bool)) (a6 : List Treach_slot) (a7 : List Int) (a8 : List Int) (r : ((List Bool) × (List Bool) × (List Int))) (h : M21 F a1 a2 a3 a4 a5 a6 a7 a8 = some r) : Mut Try.prog 21 [(V.ptr 0 7 0 0), (iV a1)] 7 [(0, (Ob.arr 47 7 [[(V.iptr (encTreach_world a2) 0), (V.own 1 a3.length), (V.own 2 a4.length), (V.map 3), (V.own 4 a6.length), (V.own 5 a7.length), (V.own 6 a8.length)]])), (1, (Ob.arr 4 1 (a3.map encB))), (2, (Ob.arr 4 1 (a4.map encB))), (3, (Ob.map (a5.map encM84_4))), (4, (Ob.arr 84 2 (a6.map encTreach_slot))), (5, (Ob.arr 3 1 (a7.map encI_i64))), (6, (Ob.arr 3 1 (a8.map encI_i64)))] (resV []) 8 [(0, (Ob.arr 47 7 [[(V.iptr (encTreach_world a2) 0), (V.own 1 (r.1).length), (V.own 2 (r.2.1).length), (V.map 3), (V.own 4 a6.length), (V.own 5 a7.length), (V.own 7 (r.2.2).length)]])), (1, (Ob.arr 4 1 ((r.1).map encB))), (2, (Ob.arr 4 1 ((r.2.1).map encB))), (3, (Ob.map (a5.map encM84_4))), (4, (Ob.arr 84 2 (a6.map encTreach_slot))), (5, (Ob.arr 3 1 (a7.map encI_i64))), (6, Ob.dead), (7, (Ob.arr 3 1 ((r.2.2).map encI_i64)))] := by
 refine mut_enter Try.func21 rfl rfl (l := []) rfl rfl [(0, (V.ptr 0 7 0 0)), (1, (iV a1))] rfl (fun w0 m0 β0 hg => en ?_)
 unfold M21 at h
 refine rn 8 rfl ?_
 refine ixo (a := a4) h rfl rfl rfl (fun x38 hx39 h => ?_)
 refine ldp hx39 rfl rfl rfl rfl ?_
 refine rn 1 rfl ?_
 refine spC h rfl (fun hb40 h => ?_) (fun hb40 h => ?_)
 ·replace h := Option.some.inj h
  subst h
  exact wR ⟨.inl rfl, [], (Ghost.trans (ghost_mvC 6 0 7 3 1 (Ob.arr 47 7 [[(V.iptr (encTreach_world a2) 0), (V.own 1 a3.length), (V.own 2 a4.length), (V.map 3), (V.own 4 a6.length), (V.own 5 a7.length), (V.own 7 a8.length)]]) rfl rfl rfl (ObSub.box (.cons Sub.keepMv (.cons Sub.keepMv (.cons Sub.keepMv (.cons Sub.keepMv (.cons Sub.keepMv (.cons Sub.keepMv (.cons Sub.mv .nil)))))))) rfl rfl) (gr [0, 1, 2, 3, 4, 5, 6, 7] rfl (hB rfl rfl rfl (hR rfl rfl (hR rfl rfl (hM rfl rfl (hR rfl rfl (hR rfl rfl (hD rfl (hR rfl rfl .nil)))))))) rfl)), .nil⟩
 refine rn 8 rfl ?_
 refine ixo (a := a4) h rfl rfl rfl (fun x41 hx42 h => ?_)
 refine stS true hx42 rfl rfl rfl rfl rfl rfl ?_
 refine rn 13 rfl ?_
 refine spC h rfl (fun hb43 h => ?_) (fun hb43 h => ?_)
 ·replace h := Option.some.inj h
  subst h
  exact wR ⟨.inl rfl, [], (Ghost.trans (ghost_mvC 6 0 7 3 1 (Ob.arr 47 7 [[(V.iptr (encTreach_world a2) 0), (V.own 1 a3.length), (V.own 2 a4.length), (V.map 3), (V.own 4 a6.length), (V.own 5 a7.length), (V.own 7 a8.length)]]) rfl rfl rfl (ObSub.box (.cons Sub.keepMv (.cons Sub.keepMv (.cons Sub.keepMv (.cons Sub.keepMv (.cons Sub.keepMv (.cons Sub.keepMv (.cons Sub.mv .nil)))))))) rfl rfl) (ghost_ren 8 (fun i => ([0, 1, 2, 3, 4, 5, 6, 7] : List Nat).getD i 0) _ _ (by decide) (EnvSub.get .nil) (HpSub.get (.cons rfl (ObSub.box (.cons (Sub.imm (Imm.iptr _ _)) (.cons (Sub.own rfl rfl) (.cons (Sub.ownE rfl rfl (by simp)) (.cons (Sub.map rfl rfl) (.cons (Sub.own rfl rfl) (.cons (Sub.own rfl rfl) (.cons (Sub.own rfl rfl) .nil)))))))) (.cons rfl (ObSub.rows (rows_imm imms_encB)) (.cons rfl (ObSub.rows (rows_imm imms_encB)) (.cons rfl (ObSub.maps encM84_4_imm) (.cons rfl (ObSub.rows (rows_imm imms_encTreach_slot)) (.cons rfl (ObSub.rows (rows_imm imms_encI_i64)) (.cons rfl ObSub.deadT (.cons rfl (ObSub.rows (rows_imm imms_encI_i64)) .nil))))))))) rfl)), .nil⟩
 refine rn 11 rfl ?_
 refine wlO (A := a6) 4 rfl (fun hA63 => ?_)
 refine lC (fun (p : Int × (List Bool) × (List Int)) => (⟨[(0, (V.ptr 0 7 0 0)), (1, (iV a1)), (30, (V.own 4 a6.length)), (31, (iV ((a6.length : Nat) : Int))), (32, (iV (p.1)))], [(0, (Ob.arr 47 7 [[(V.iptr (encTreach_world a2) 0), (V.own 1 (p.2.1).length), (V.own 2 (a4.set a1.toNat true).length), (V.map 3), (V.own 4 a6.length), (V.own 5 a7.length), (V.own 7 (p.2.2).length)]])), (1, (Ob.arr 4 1 ((p.2.1).map encB))), (2, (Ob.arr 4 1 ((a4.set a1.toNat true).map encB))), (3, (Ob.map (a5.map encM84_4))), (4, (Ob.arr 84 2 (a6.map encTreach_slot))), (5, (Ob.arr 3 1 (a7.map encI_i64))), (6, Ob.dead), (7, (Ob.arr 3 1 ((p.2.2).map encI_i64)))], 8⟩ : St)) (fun n p => RG a6 (fun tl nn => M21_L1 F a1 a2 a4 a5 a6 a7 tl p.2.1 p.2.2 = some r) n p.1) (fun p h => RG.zero h) (a6.length + 1) (0, a3, a8) (RG.start h) (Ghost.trans (ghost_mvC 6 0 7 3 1 (Ob.arr 47 7 [[(V.iptr (encTreach_world a2) 0), (V.own 1 a3.length), (V.own 2 a4.length), (V.map 3), (V.own 4 a6.length), (V.own 5 a7.length), (V.own 7 a8.length)]]) rfl rfl rfl (ObSub.box (.cons Sub.keepMv (.cons Sub.keepMv (.cons Sub.keepMv (.cons Sub.keepMv (.cons Sub.keepMv (.cons Sub.keepMv (.cons Sub.mv .nil)))))))) rfl rfl) (ghost_ren 8 (fun i => ([0, 1, 2, 3, 4, 5, 6, 7] : List Nat).getD i 0) _ _ (by decide) (EnvSub.get (.cons (Sub.ptr rfl rfl) (.cons (Sub.imm (Imm.con _)) (.cons (Sub.own rfl rfl) (.cons (Sub.imm (Imm.con _)) (.cons (Sub.imm (Imm.con _)) .nil)))))) (HpSub.get (.cons rfl (ObSub.box (.cons (Sub.imm (Imm.iptr _ _)) (.cons (Sub.own rfl rfl) (.cons (Sub.ownE rfl rfl (by simp)) (.cons (Sub.map rfl rfl) (.cons (Sub.own rfl rfl) (.cons (Sub.own rfl rfl) (.cons (Sub.own rfl rfl) .nil)))))))) (.cons rfl (ObSub.rows (rows_imm imms_encB)) (.cons rfl (ObSub.rows (rows_imm imms_encB)) (.cons rfl (ObSub.maps encM84_4_imm) (.cons rfl (ObSub.rows (rows_imm imms_encTreach_slot)) (.cons rfl (ObSub.rows (rows_imm imms_encI_i64)) (.cons rfl ObSub.deadT (.cons rfl (ObSub.rows (rows_imm imms_encI_i64)) .nil))))))))) rfl)) (fun n p h => ?_)
 obtain ⟨n47, l48, l49⟩ := p
 refine rn 5 rfl ?_
 refine spL rfl (fun hb50 => ?_) (fun hb50 => ?_)
 ·obtain ⟨x51, tl, hx52, h, hk1⟩ := RG.t hA63 h hb50
  unfold M21_L1 at h
  refine rn 5 rfl ?_
  refine ixoh (a := a6) hx52 rfl rfl rfl ?_
  refine ldp hx52 rfl rfl rfl rfl ?_
  obtain ⟨y53, hx54, h⟩ := bind_some h
  refine rn 4 rfl ?_
  refine dr mixed (vs 9 rfl (xD (OD.mk [(42, (V.imap (a2.fitting.map encM9_45))), (44, (sV x51.iface))] [] [(45, (V.lst 1 (((mget a2.fitting x51.iface).getD ([] : (List Int))).map encI_i64)))] []) ⟨⟨rfl, rfl, trivial⟩, trivial⟩ (by exact fun S hn h hh => aops_lookup _ (V.lst 1 (([] : (List Int)).map encI_i64)) (V.lst 1 (((mget a2.fitting x51.iface).getD ([] : (List Int))).map encI_i64)) tMap51 tKey9 tZo45 (fun _ => .nil _ _ _) wants_none h.1 .imm (.con h.2.1) ⟨_, rfl⟩ encM9_45_good (encM9_45_look a2.fitting x51.iface) (getD_map (encM9_45_val) (mget a2.fitting x51.iface) ([] : (List Int))) rfl (aops_nil ⟨rfl, rfl⟩)) rfl (vs 1 rfl (cD rfl rfl rfl rfl (W32 _ _ _ _ hx54) rfl .nil)))) (by kernel_rfl) ?_
  refine jK h (fun (p : (List Bool) × (List Int)) => (⟨[(0, (V.ptr 0 7 0 0)), (1, (iV a1)), (30, (V.own 4 a6.length)), (31, (iV ((a6.length : Nat) : Int))), (32, (iV n47))], [(0, (Ob.arr 47 7 [[(V.iptr (encTreach_world a2) 0), (V.own 1 (p.1).length), (V.own 2 (a4.set a1.toNat true).length), (V.map 3), (V.own 4 a6.length), (V.own 5 a7.length), (V.own 7 (p.2).length)]])), (1, (Ob.arr 4 1 ((p.1).map encB))), (2, (Ob.arr 4 1 ((a4.set a1.toNat true).map encB))), (3, (Ob.map (a5.map encM84_4))), (4, (Ob.arr 84 2 (a6.map encTreach_slot))), (5, (Ob.arr 3 1 (a7.map encI_i64))), (6, Ob.dead), (7, (Ob.arr 3 1 ((p.2).map encI_i64)))], 8⟩ : St)) (fun k55 p => k55 p.1 p.2 = some r) (fun k55 h => ?_) ?_
  ·refine spC h rfl (fun hb58 h => ?_) (fun hb58 h => ?_)
   ·obtain ⟨y59, hx60, h⟩ := bind_some h
    obtain ⟨y61, hx62, h⟩ := bind_some h
    refine awp_ghost ghost_res ?_
    refine fa ?_
    refine dr mixed (vs 11 rfl (cD rfl rfl rfl rfl (W33 _ _ _ _ _ hx60) rfl (xD (OD.mk [(48, (V.ptr 0 7 0 0)), (59, (iV y59))] [(0, (Ob.arr 47 7 [[(V.iptr (encTreach_world a2) 0), (V.own 1 l48.length), (V.own 2 (a4.set a1.toNat true).length), (V.map 3), (V.own 4 a6.length), (V.own 5 a7.length), (V.own 7 l49.length)]])), (1, (Ob.arr 4 1 (l48.map encB))), (2, (Ob.arr 4 1 ((a4.set a1.toNat true).map encB))), (3, (Ob.map (a5.map encM84_4))), (4, (Ob.arr 84 2 (a6.map encTreach_slot))), (5, (Ob.arr 3 1 (a7.map encI_i64))), (7, (Ob.arr 3 1 (l49.map encI_i64))), (9, Ob.res)] [(60, (V.tup []))] [(0, (Ob.arr 47 7 [[(V.iptr (encTreach_world a2) 0), (V.own 1 (y61.1).length), (V.own 2 (a4.set a1.toNat true).length), (V.map 3), (V.own 4 a6.length), (V.own 5 a7.length), (V.own 9 (y61.2).length)]])), (1, (Ob.arr 4 1 ((y61.1).map encB))), (2, (Ob.arr 4 1 ((a4.set a1.toNat true).map encB))), (3, (Ob.map (a5.map encM84_4))), (4, (Ob.arr 84 2 (a6.map encTreach_slot))), (5, (Ob.arr 3 1 (a7.map encI_i64))), (7, Ob.dead), (9, (Ob.arr 3 1 ((y61.2).map encI_i64)))]) ⟨⟨rfl, rfl, trivial⟩, ⟨rfl, rfl, rfl, rfl, rfl, rfl, rfl, rfl, trivial⟩⟩ (by exact fun S hn h hh => aops_mcall_atH [9] hn (List.forall_mem_cons.2 ⟨hh.2.2.2.2.2.2.2.1, (fun _ hx => nomatch hx)⟩) (V.tup []) [(V.ptr 0 7 0 0), (iV y59)] (fun i => ([0, 1, 2, 3, 4, 5, 7] : List Nat).getD i 0) (fun i => ([0, 1, 2, 3, 4, 5, 7, 9] : List Nat).getD i 0) [(0, (Ob.arr 47 7 [[(V.iptr (encTreach_world a2) 0), (V.own 1 (y61.1).length), (V.own 2 (a4.set a1.toNat true).length), (V.map 3), (V.own 4 a6.length), (V.own 5 a7.length), (V.own 9 (y61.2).length)]])), (1, (Ob.arr 4 1 ((y61.1).map encB))), (2, (Ob.arr 4 1 ((a4.set a1.toNat true).map encB))), (3, (Ob.map (a5.map encM84_4))), (4, (Ob.arr 84 2 (a6.map encTreach_slot))), (5, (Ob.arr 3 1 (a7.map encI_i64))), (7, Ob.dead), (9, (Ob.arr 3 1 ((y61.2).map encI_i64)))] fOk20 wants_none rfl (evm_cons h.1 (evm_cons h.2.1 evm_nil)) (.cons (Sub.ptr rfl rfl) (.cons (Sub.imm (Imm.con _)) .nil)) (HpSub.consE (id := 0) rfl hh.1 (ObSub.box (.cons (Sub.imm (Imm.iptr _ _)) (.cons (Sub.own rfl rfl) (.cons (Sub.own rfl rfl) (.cons (Sub.map rfl rfl) (.cons (Sub.own rfl rfl) (.cons (Sub.own rfl rfl) (.cons (Sub.own rfl rfl) .nil)))))))) (HpSub.consE (id := 1) rfl hh.2.1 (ObSub.rows (rows_imm imms_encB)) (HpSub.consE (id := 2) rfl hh.2.2.1 (ObSub.rows (rows_imm imms_encB)) (HpSub.consE (id := 3) rfl hh.2.2.2.1 (ObSub.maps encM84_4_imm) (HpSub.consE (id := 4) rfl hh.2.2.2.2.1 (ObSub.rows (rows_imm imms_encTreach_slot)) (HpSub.consE (id := 5) rfl hh.2.2.2.2.2.1 (ObSub.rows (rows_imm imms_encI_i64)) (HpSub.consE (id := 6) rfl hh.2.2.2.2.2.2.1 (ObSub.rows (rows_imm imms_encI_i64)) .nil))))))) (W20 F y59 a2 l48 (a4.set a1.toNat true) a5 a6 a7 l49 y61 hx62) rfl rfl rfl rfl (Sub.immT (Imm.tup .nil)) (.cons rfl (ObSub.box (.cons (Sub.immT (Imm.iptr _ _)) (.cons (Sub.ownT rfl rfl) (.cons (Sub.ownT rfl rfl) (.cons (Sub.mapT rfl rfl) (.cons (Sub.ownT rfl rfl) (.cons (Sub.ownT rfl rfl) (.cons (Sub.ownT rfl rfl) .nil)))))))) (.cons rfl (ObSub.rowsT (rows_imm imms_encB)) (.cons rfl (ObSub.rowsT (rows_imm imms_encB)) (.cons rfl (ObSub.mapsT encM84_4_imm) (.cons rfl (ObSub.rowsT (rows_imm imms_encTreach_slot)) (.cons rfl (ObSub.rowsT (rows_imm imms_encI_i64)) (.cons rfl ObSub.deadT (.cons rfl (ObSub.rowsT (rows_imm imms_encI_i64)) .nil)))))))) (aops_nil ⟨rfl, rfl⟩)) rfl .nil))) (by kernel_rfl) ?_
    exact jX ((y61.1), (y61.2)) h (gr [0, 1, 2, 3, 4, 5, 6, 9] rfl (hB rfl rfl rfl (hR rfl rfl (hR rfl rfl (hM rfl rfl (hR rfl rfl (hR rfl rfl (hD rfl (hR rfl rfl .nil)))))))) rfl)
   refine rn 1 rfl ?_
   exact jX (l48, l49) h (gr [0, 1, 2, 3, 4, 5, 6, 7] rfl (hB rfl rfl rfl (hR rfl rfl (hR rfl rfl (hM rfl rfl (hR rfl rfl (hR rfl rfl (hD rfl (hR rfl rfl .nil)))))))) rfl)
  rintro ⟨l56, l57⟩ h
  refine rn 5 rfl ?_
  exact jX ((w64 (n47 + 1)), l56, l57) (hk1 _ h) (gr [0, 1, 2, 3, 4, 5, 6, 7] rfl (hB rfl rfl rfl (hR rfl rfl (hR rfl rfl (hM rfl rfl (hR rfl rfl (hR rfl rfl (hD rfl (hR rfl rfl .nil)))))))) rfl)
 replace h := RG.f h hb50
 unfold M21_L1 at h
 refine rn 1 rfl ?_
 replace h := Option.some.inj h
 subst h
 exact wE ⟨.inr rfl, [], (gr [0, 1, 2, 3, 4, 5, 6, 7] rfl (hB rfl rfl rfl (hR rfl rfl (hR rfl rfl (hM rfl rfl (hR rfl rfl (hR rfl rfl (hD rfl (hR rfl rfl .nil)))))))) rfl), .nil⟩
theorem W22 (F : Nat) (a1 : TCall) (a2 : Treach_world) (a3 : List Bool) (a4 : List Bool) (a5 : List (Treach_slot × Bool)) (a6 : List Treach_slot) (a7 : List Int) (a8 : List Int) (r : ((List Bool) × (List (Treach_slot × Bool)) × (List Treach_slot) × (List Int))) (h : M22 F a1 a2 a3 a4 a5 a6 a7 a8 = some r) : Mut Try.prog 22 [(V.ptr 0 7 0 0), (V.agg (encTCall a1))] 7 [(0, (Ob.arr 47 7 [[(V.iptr (encTreach_world a2) 0), (V.own 1 a3.length), (V.own 2 a4.length), (V.map 3), (V.own 4 a6.length), (V.own 5 a7.length), (V.own 6 a8.length)]])), (1, (Ob.arr 4 1 (a3.map encB))), (2, (Ob.arr 4 1 (a4.map encB))), (3, (Ob.map (a5.map encM84_4))), (4, (Ob.arr 84 2 (a6.map encTreach_slot))), (5, (Ob.arr 3 1 (a7.map encI_i64))), (6, (Ob.arr 3 1 (a8.map encI_i64)))] (resV []) 9 [(0, (Ob.arr 47 7 [[(V.iptr (encTreach_world a2) 0), (V.own 1 (r.1).length), (V.own 2 a4.length), (V.map 3), (V.own 7 (r.2.2.1).length), (V.own 5 a7.length), (V.own 8 (r.2.2.2).length)]])), (1, (Ob.arr 4 1 ((r.1).map encB))), (2, (Ob.arr 4 1 (a4.map encB))), (3, (Ob.map ((r.2.1).map encM84_4))), (4, Ob.dead), (5, (Ob.arr 3 1 (a7.map encI_i64))), (6, Ob.dead), (7, (Ob.arr 84 2 ((r.2.2.1).map encTreach_slot))), (8, (Ob.arr 3 1 ((r.2.2.2).map encI_i64)))] := by
 refine mut_enter Try.func22 rfl rfl (l := []) rfl rfl [(0, (V.ptr 0 7 0 0)), (1, (V.agg (encTCall a1)))] rfl (fun w0 m0 β0 hg => en ?_)
 unfold M22 at h
 refine rn 11 rfl ?_
 refine spC h rfl (fun hb46 h => ?_) (fun hb46 h => ?_)
 ·obtain ⟨y47, hx48, h⟩ := bind_some h
  refine rn 1 rfl ?_
  refine awp_ghost ghost_res ?_
  refine fa ?_
  refine dr mixed (vs 10 rfl (xD (OD.mk [(17, (V.imap (a2.funcs.map encM9_3))), (19, (sV a1.Target))] [] [(20, (iV ((mget a2.funcs a1.Target).getD 0)))] []) ⟨⟨rfl, rfl, trivial⟩, trivial⟩ (by exact fun S hn h hh => aops_lookup _ (iV 0) (iV ((mget a2.funcs a1.Target).getD 0)) tMap50 tKey9 tZo3 (irel_con _) wants_none h.1 .imm (.con h.2.1) ⟨_, rfl⟩ encM9_3_good (encM9_3_look a2.funcs a1.Target) (getD_map (encM9_3_val) (mget a2.funcs a1.Target) 0) rfl (aops_nil ⟨rfl, rfl⟩)) rfl (xD (OD.mk [(10, (V.ptr 0 7 0 0)), (20, (iV ((mget a2.funcs a1.Target).getD 0)))] [(0, (Ob.arr 47 7 [[(V.iptr (encTreach_world a2) 0), (V.own 1 a3.length), (V.own 2 a4.length), (V.map 3), (V.own 4 a6.length), (V.own 5 a7.length), (V.own 6 a8.length)]])), (1, (Ob.arr 4 1 (a3.map encB))), (2, (Ob.arr 4 1 (a4.map encB))), (3, (Ob.map (a5.map encM84_4))), (4, (Ob.arr 84 2 (a6.map encTreach_slot))), (5, (Ob.arr 3 1 (a7.map encI_i64))), (6, (Ob.arr 3 1 (a8.map encI_i64))), (8, Ob.res)] [(21, (V.tup []))] [(0, (Ob.arr 47 7 [[(V.iptr (encTreach_world a2) 0), (V.own 1 (y47.1).length), (V.own 2 a4.length), (V.map 3), (V.own 4 a6.length), (V.own 5 a7.length), (V.own 8 (y47.2).length)]])), (1, (Ob.arr 4 1 ((y47.1).map encB))), (2, (Ob.arr 4 1 (a4.map encB))), (3, (Ob.map (a5.map encM84_4))), (4, (Ob.arr 84 2 (a6.map encTreach_slot))), (5, (Ob.arr 3 1 (a7.map encI_i64))), (6, Ob.dead), (8, (Ob.arr 3 1 ((y47.2).map encI_i64)))]) ⟨⟨rfl, rfl, trivial⟩, ⟨rfl, rfl, rfl, rfl, rfl, rfl, rfl, rfl, trivial⟩⟩ (by exact fun S hn h hh => aops_mcall_atH [8] hn (List.forall_mem_cons.2 ⟨hh.2.2.2.2.2.2.2.1, (fun _ hx => nomatch hx)⟩) (V.tup []) [(V.ptr 0 7 0 0), (iV ((mget a2.funcs a1.Target).getD 0))] (fun i => ([0, 1, 2, 3, 4, 5, 6] : List Nat).getD i 0) (fun i => ([0, 1, 2, 3, 4, 5, 6, 8] : List Nat).getD i 0) [(0, (Ob.arr 47 7 [[(V.iptr (encTreach_world a2) 0), (V.own 1 (y47.1).length), (V.own 2 a4.length), (V.map 3), (V.own 4 a6.length), (V.own 5 a7.length), (V.own 8 (y47.2).length)]])), (1, (Ob.arr 4 1 ((y47.1).map encB))), (2, (Ob.arr 4 1 (a4.map encB))), (3, (Ob.map (a5.map encM84_4))), (4, (Ob.arr 84 2 (a6.map encTreach_slot))), (5, (Ob.arr 3 1 (a7.map encI_i64))), (6, Ob.dead), (8, (Ob.arr 3 1 ((y47.2).map encI_i64)))] fOk20 wants_none rfl (evm_cons h.1 (evm_cons h.2.1 evm_nil)) (.cons (Sub.ptr rfl rfl) (.cons (Sub.imm (Imm.con _)) .nil)) (HpSub.consE (id := 0) rfl hh.1 (ObSub.box (.cons (Sub.imm (Imm.iptr _ _)) (.cons (Sub.own rfl rfl) (.cons (Sub.own rfl rfl) (.cons (Sub.map rfl rfl) (.cons (Sub.own rfl rfl) (.cons (Sub.own rfl rfl) (.cons (Sub.own rfl rfl) .nil)))))))) (HpSub.consE (id := 1) rfl hh.2.1 (ObSub.rows (rows_imm imms_encB)) (HpSub.consE (id := 2) rfl hh.2.2.1 (ObSub.rows (rows_imm imms_encB)) (HpSub.consE (id := 3) rfl hh.2.2.2.1 (ObSub.maps encM84_4_imm) (HpSub.consE (id := 4) rfl hh.2.2.2.2.1 (ObSub.rows (rows_imm imms_encTreach_slot)) (HpSub.consE (id := 5) rfl hh.2.2.2.2.2.1 (ObSub.rows (rows_imm imms_encI_i64)) (HpSub.consE (id := 6) rfl hh.2.2.2.2.2.2.1 (ObSub.rows (rows_imm imms_encI_i64)) .nil))))))) (W20 F ((mget a2.funcs a1.Target).getD 0) a2 a3 a4 a5 a6 a7 a8 y47 hx48) rfl rfl rfl rfl (Sub.immT (Imm.tup .nil)) (.cons rfl (ObSub.box (.cons (Sub.immT (Imm.iptr _ _)) (.cons (Sub.ownT rfl rfl) (.cons (Sub.ownT rfl rfl) (.cons (Sub.mapT rfl rfl) (.cons (Sub.ownT rfl rfl) (.cons (Sub.ownT rfl rfl) (.cons (Sub.ownT rfl rfl) .nil)))))))) (.cons rfl (ObSub.rowsT (rows_imm imms_encB)) (.cons rfl (ObSub.rowsT (rows_imm imms_encB)) (.cons rfl (ObSub.mapsT encM84_4_imm) (.cons rfl (ObSub.rowsT (rows_imm imms_encTreach_slot)) (.cons rfl (ObSub.rowsT (rows_imm imms_encI_i64)) (.cons rfl ObSub.deadT (.cons rfl (ObSub.rowsT (rows_imm imms_encI_i64)) .nil)))))))) (aops_nil ⟨rfl, rfl⟩)) rfl .nil))) (by kernel_rfl) ?_
  replace h := Option.some.inj h
  subst h
  exact wR ⟨.inl rfl, [], (Ghost.trans (ghost_mvC 4 0 9 84 2 (Ob.arr 47 7 [[(V.iptr (encTreach_world a2) 0), (V.own 1 (y47.1).length), (V.own 2 a4.length), (V.map 3), (V.own 9 a6.length), (V.own 5 a7.length), (V.own 8 (y47.2).length)]]) rfl rfl rfl (ObSub.box (.cons Sub.keepMv (.cons Sub.keepMv (.cons Sub.keepMv (.cons Sub.keepMv (.cons Sub.mv (.cons Sub.keepMv (.cons Sub.keepMv .nil)))))))) rfl rfl) (gr [0, 1, 2, 3, 4, 5, 6, 9, 8] rfl (hB rfl rfl rfl (hR rfl rfl (hR rfl rfl (hM rfl rfl (hD rfl (hR rfl rfl (hD rfl (hR rfl rfl (hR rfl rfl .nil))))))))) rfl)), .nil⟩
 refine rn 13 rfl ?_
 refine dr mixed (vs 5 rfl (xD (OD.mk [(30, (V.map 3)), (31, (V.agg [(sV a1.Target), (sV a1.Method)]))] [(3, (Ob.map (a5.map encM84_4)))] [(32, (bV ((mget a5 (Treach_slot.mk a1.Target a1.Method)).getD false)))] []) ⟨⟨rfl, rfl, trivial⟩, ⟨rfl, trivial⟩⟩ (by exact fun S hn h hh => aops_lookup _ (bV false) (bV ((mget a5 (Treach_slot.mk a1.Target a1.Method)).getD false)) tMap43 tKey84 tZo4 (irel_con _) wants_none h.1 (.own hh.1) (.agg (cv84 (Treach_slot.mk a1.Target a1.Method)) h.2.1) ⟨_, rfl⟩ encM84_4_good (encM84_4_look a5 (Treach_slot.mk a1.Target a1.Method)) (getD_map (encM84_4_val) (mget a5 (Treach_slot.mk a1.Target a1.Method)) false) rfl (aops_nil ⟨rfl, rfl⟩)) rfl .nil)) (by kernel_rfl) ?_
 refine spC h rfl (fun hb49 h => ?_) (fun hb49 h => ?_)
 ·replace h := Option.some.inj h
  subst h
  exact wR ⟨.inl rfl, [], (Ghost.trans (ghost_mvC 4 0 9 84 2 (Ob.arr 47 7 [[(V.iptr (encTreach_world a2) 0), (V.own 1 a3.length), (V.own 2 a4.length), (V.map 3), (V.own 9 a6.length), (V.own 5 a7.length), (V.own 6 a8.length)]]) rfl rfl rfl (ObSub.box (.cons Sub.keepMv (.cons Sub.keepMv (.cons Sub.keepMv (.cons Sub.keepMv (.cons Sub.mv (.cons Sub.keepMv (.cons Sub.keepMv .nil)))))))) rfl rfl) (Ghost.trans (ghost_mvC 6 0 10 3 1 (Ob.arr 47 7 [[(V.iptr (encTreach_world a2) 0), (V.own 1 a3.length), (V.own 2 a4.length), (V.map 3), (V.own 9 a6.length), (V.own 5 a7.length), (V.own 10 a8.length)]]) rfl rfl rfl (ObSub.box (.cons Sub.keepMv (.cons Sub.keepMv (.cons Sub.keepMv (.cons Sub.keepMv (.cons Sub.keepMv (.cons Sub.keepMv (.cons Sub.mv .nil)))))))) rfl rfl) (gr [0, 1, 2, 3, 4, 5, 6, 9, 10] rfl (hB rfl rfl rfl (hR rfl rfl (hR rfl rfl (hM rfl rfl (hD rfl (hR rfl rfl (hD rfl (hR rfl rfl (hR rfl rfl .nil))))))))) rfl))), .nil⟩
 refine rn 2 rfl ?_
 refine dr mixed (vs 5 rfl (xD (OD.mk [(36, (V.map 3)), (37, (V.agg [(sV a1.Target), (sV a1.Method)]))] [(3, (Ob.map (a5.map encM84_4)))] [] [(3, (Ob.map ((mput a5 (Treach_slot.mk a1.Target a1.Method) true).map encM84_4)))]) ⟨⟨rfl, rfl, trivial⟩, ⟨rfl, trivial⟩⟩ (by exact fun S hn h hh => aops_mapUpdate (es := a5.map encM84_4) ((mput a5 (Treach_slot.mk a1.Target a1.Method) true).map encM84_4) tMap43 tKey84 wants_none h.1 hh.1 (.agg (cv84 (Treach_slot.mk a1.Target a1.Method)) h.2.1) ⟨_, rfl⟩ encM84_4_good rfl (encM84_4_puts a5 (Treach_slot.mk a1.Target a1.Method) true) (aops_nil ⟨rfl, rfl⟩)) rfl .nil)) (by kernel_rfl) ?_
 refine rn 1 rfl ?_
 refine ck h (fun hc50 h => ?_)
 refine awp_ghost ghost_res ?_
 refine fa ?_
 refine dr mixed (vs 6 rfl (xD (OD.mk [(43, (V.agg [(sV a1.Target), (sV a1.Method)]))] [] [(44, (V.lst 2 (([(Treach_slot.mk a1.Target a1.Method)] : List Treach_slot).map encTreach_slot)))] []) ⟨⟨rfl, trivial⟩, trivial⟩ (by exact fun S hn h hh => aops_buildSlice_imm [(0, (V.agg [(sV a1.Target), (sV a1.Method)]))] [[(sV a1.Target), (sV a1.Method)]] tEl44 tZ84 wants_none rfl rfl rfl rfl (evp_cons h.1 evp_nil) rfl rfl (by simp) (imms_rows (.cons (.cons (Imm.con _) (.cons (Imm.con _) .nil)) .nil)) rfl (aops_nil ⟨rfl, rfl⟩)) rfl (xD (OD.mk [(42, (V.own 4 a6.length)), (44, (V.lst 2 (([(Treach_slot.mk a1.Target a1.Method)] : List Treach_slot).map encTreach_slot)))] [(4, (Ob.arr 84 2 (a6.map encTreach_slot))), (9, Ob.res)] [(45, (V.own 9 (a6 ++ ([(Treach_slot.mk a1.Target a1.Method)] : List Treach_slot)).length))] [(9, (Ob.arr 84 2 ((a6 ++ ([(Treach_slot.mk a1.Target a1.Method)] : List Treach_slot)).map encTreach_slot))), (4, Ob.dead)]) ⟨⟨rfl, rfl, trivial⟩, ⟨rfl, rfl, trivial⟩⟩ (by exact fun S hn h hh => aops_append_at 9 rfl hn hh.2.1 (([(Treach_slot.mk a1.Target a1.Method)] : List Treach_slot).map encTreach_slot) ((a6 ++ ([(Treach_slot.mk a1.Target a1.Method)] : List Treach_slot)).map encTreach_slot) tEl44 tIsSl44 rfl rfl wants_none h.1 hh.1 (by simp) h.2.1 (.lst (rows_one one_encTreach_slot)) (map_snoc encTreach_slot a6 ([(Treach_slot.mk a1.Target a1.Method)] : List Treach_slot)) (List.length_map ..) hc50 rfl (aops_nil ⟨rfl, rfl⟩)) rfl (vs 3 rfl .nil)))) (by kernel_rfl) ?_
 refine rn 1 rfl ?_
 refine dr mixed (vs 9 rfl (xD (OD.mk [(54, (V.imap (a2.fitting.map encM9_45))), (56, (sV a1.Target))] [] [(57, (V.lst 1 (((mget a2.fitting a1.Target).getD ([] : (List Int))).map encI_i64)))] []) ⟨⟨rfl, rfl, trivial⟩, trivial⟩ (by exact fun S hn h hh => aops_lookup _ (V.lst 1 (([] : (List Int)).map encI_i64)) (V.lst 1 (((mget a2.fitting a1.Target).getD ([] : (List Int))).map encI_i64)) tMap51 tKey9 tZo45 (fun _ => .nil _ _ _) wants_none h.1 .imm (.con h.2.1) ⟨_, rfl⟩ encM9_45_good (encM9_45_look a2.fitting a1.Target) (getD_map (encM9_45_val) (mget a2.fitting a1.Target) ([] : (List Int))) rfl (aops_nil ⟨rfl, rfl⟩)) rfl (nD rfl rfl rfl (vs 1 rfl .nil)))) (by kernel_rfl) ?_
 refine rn 1 rfl ?_
 refine wl (A := ((mget a2.fitting a1.Target).getD ([] : (List Int)))) 57 rfl (fun hA78 => ?_)
 refine lC (fun (p : Int × (List Bool) × (List Int)) => (⟨[(0, (V.ptr 0 7 0 0)), (3, (V.ptr 7 4 0 0)), (57, (V.lst 1 (((mget a2.fitting a1.Target).getD ([] : (List Int))).map encI_i64))), (58, (iV ((((mget a2.fitting a1.Target).getD ([] : (List Int))).length : Nat) : Int))), (59, (iV (p.1)))], [(0, (Ob.arr 47 7 [[(V.iptr (encTreach_world a2) 0), (V.own 1 (p.2.1).length), (V.own 2 a4.length), (V.map 3), (V.own 8 (a6 ++ ([(Treach_slot.mk a1.Target a1.Method)] : List Treach_slot)).length), (V.own 5 a7.length), (V.own 9 (p.2.2).length)]])), (1, (Ob.arr 4 1 ((p.2.1).map encB))), (2, (Ob.arr 4 1 (a4.map encB))), (3, (Ob.map ((mput a5 (Treach_slot.mk a1.Target a1.Method) true).map encM84_4))), (4, Ob.dead), (5, (Ob.arr 3 1 (a7.map encI_i64))), (6, Ob.dead), (7, (Ob.arr 59 4 [(encTCall a1)])), (8, (Ob.arr 84 2 ((a6 ++ ([(Treach_slot.mk a1.Target a1.Method)] : List Treach_slot)).map encTreach_slot))), (9, (Ob.arr 3 1 ((p.2.2).map encI_i64)))], 10⟩ : St)) (fun n p => RG ((mget a2.fitting a1.Target).getD ([] : (List Int))) (fun tl nn => M22_L1 F a1 a2 a4 a5 a6 a7 tl p.2.1 p.2.2 = some r) n p.1) (fun p h => RG.zero h) (((mget a2.fitting a1.Target).getD ([] : (List Int))).length + 1) (0, a3, a8) (RG.start h) (Ghost.trans (ghost_mvC 6 0 10 3 1 (Ob.arr 47 7 [[(V.iptr (encTreach_world a2) 0), (V.own 1 a3.length), (V.own 2 a4.length), (V.map 3), (V.own 9 (a6 ++ ([(Treach_slot.mk a1.Target a1.Method)] : List Treach_slot)).length), (V.own 5 a7.length), (V.own 10 a8.length)]]) rfl rfl rfl (ObSub.box (.cons Sub.keepMv (.cons Sub.keepMv (.cons Sub.keepMv (.cons Sub.keepMv (.cons Sub.keepMv (.cons Sub.keepMv (.cons Sub.mv .nil)))))))) rfl rfl) (gr [0, 1, 2, 3, 4, 5, 6, 7, 9, 10] rfl (hB rfl rfl rfl (hR rfl rfl (hR rfl rfl (hM rfl rfl (hD rfl (hR rfl rfl (hD rfl (hB rfl rfl rfl (hR rfl rfl (hR rfl rfl .nil)))))))))) rfl)) (fun n p h => ?_)
 obtain ⟨n54, l55, l56⟩ := p
 refine rn 5 rfl ?_
 refine spL rfl (fun hb57 => ?_) (fun hb57 => ?_)
 ·obtain ⟨x61, tl, hx62, h, hk1⟩ := RG.t hA78 h hb57
  unfold M22_L1 at h
  refine rn 2 rfl ?_
  refine jK h (fun (p : (List Bool) × (List Int)) => (⟨[(0, (V.ptr 0 7 0 0)), (3, (V.ptr 7 4 0 0)), (57, (V.lst 1 (((mget a2.fitting a1.Target).getD ([] : (List Int))).map encI_i64))), (58, (iV ((((mget a2.fitting a1.Target).getD ([] : (List Int))).length : Nat) : Int))), (59, (iV n54))], [(0, (Ob.arr 47 7 [[(V.iptr (encTreach_world a2) 0), (V.own 1 (p.1).length), (V.own 2 a4.length), (V.map 3), (V.own 8 (a6 ++ ([(Treach_slot.mk a1.Target a1.Method)] : List Treach_slot)).length), (V.own 5 a7.length), (V.own 9 (p.2).length)]])), (1, (Ob.arr 4 1 ((p.1).map encB))), (2, (Ob.arr 4 1 (a4.map encB))), (3, (Ob.map ((mput a5 (Treach_slot.mk a1.Target a1.Method) true).map encM84_4))), (4, Ob.dead), (5, (Ob.arr 3 1 (a7.map encI_i64))), (6, Ob.dead), (7, (Ob.arr 59 4 [(encTCall a1)])), (8, (Ob.arr 84 2 ((a6 ++ ([(Treach_slot.mk a1.Target a1.Method)] : List Treach_slot)).map encTreach_slot))), (9, (Ob.arr 3 1 ((p.2).map encI_i64)))], 10⟩ : St)) (fun k58 p => k58 p.1 p.2 = some r) (fun k58 h => ?_) ?_
  ·refine rn 3 rfl ?_
   refine ixh hx62 rfl rfl ?_
   refine rn 14 rfl ?_
   refine spO 71 h rfl (fun hb63 h => ?_) (fun hb63 h => ?_)
   ·obtain ⟨y64, hx65, h⟩ := bind_some h
    obtain ⟨y66, hx67, h⟩ := bind_some h
    refine rn 10 rfl ?_
    refine awp_ghost ghost_res ?_
    refine fa ?_
    refine dr mixed (vs 7 rfl (cD rfl rfl rfl rfl (W33 _ _ _ _ _ hx65) rfl (xD (OD.mk [(80, (V.ptr 0 7 0 0)), (87, (iV y64))] [(0, (Ob.arr 47 7 [[(V.iptr (encTreach_world a2) 0), (V.own 1 l55.length), (V.own 2 a4.length), (V.map 3), (V.own 8 (a6 ++ ([(Treach_slot.mk a1.Target a1.Method)] : List Treach_slot)).length), (V.own 5 a7.length), (V.own 9 l56.length)]])), (1, (Ob.arr 4 1 (l55.map encB))), (2, (Ob.arr 4 1 (a4.map encB))), (3, (Ob.map ((mput a5 (Treach_slot.mk a1.Target a1.Method) true).map encM84_4))), (8, (Ob.arr 84 2 ((a6 ++ ([(Treach_slot.mk a1.Target a1.Method)] : List Treach_slot)).map encTreach_slot))), (5, (Ob.arr 3 1 (a7.map encI_i64))), (9, (Ob.arr 3 1 (l56.map encI_i64))), (10, Ob.res)] [(88, (V.tup []))] [(0, (Ob.arr 47 7 [[(V.iptr (encTreach_world a2) 0), (V.own 1 (y66.1).length), (V.own 2 a4.length), (V.map 3), (V.own 8 (a6 ++ ([(Treach_slot.mk a1.Target a1.Method)] : List Treach_slot)).length), (V.own 5 a7.length), (V.own 10 (y66.2).length)]])), (1, (Ob.arr 4 1 ((y66.1).map encB))), (2, (Ob.arr 4 1 (a4.map encB))), (3, (Ob.map ((mput a5 (Treach_slot.mk a1.Target a1.Method) true).map encM84_4))), (8, (Ob.arr 84 2 ((a6 ++ ([(Treach_slot.mk a1.Target a1.Method)] : List Treach_slot)).map encTreach_slot))), (5, (Ob.arr 3 1 (a7.map encI_i64))), (9, Ob.dead), (10, (Ob.arr 3 1 ((y66.2).map encI_i64)))]) ⟨⟨rfl, rfl, trivial⟩, ⟨rfl, rfl, rfl, rfl, rfl, rfl, rfl, rfl, trivial⟩⟩ (by exact fun S hn h hh => aops_mcall_atH [10] hn (List.forall_mem_cons.2 ⟨hh.2.2.2.2.2.2.2.1, (fun _ hx => nomatch hx)⟩) (V.tup []) [(V.ptr 0 7 0 0), (iV y64)] (fun i => ([0, 1, 2, 3, 8, 5, 9] : List Nat).getD i 0) (fun i => ([0, 1, 2, 3, 8, 5, 9, 10] : List Nat).getD i 0) [(0, (Ob.arr 47 7 [[(V.iptr (encTreach_world a2) 0), (V.own 1 (y66.1).length), (V.own 2 a4.length), (V.map 3), (V.own 8 (a6 ++ ([(Treach_slot.mk a1.Target a1.Method)] : List Treach_slot)).length), (V.own 5 a7.length), (V.own 10 (y66.2).length)]])), (1, (Ob.arr 4 1 ((y66.1).map encB))), (2, (Ob.arr 4 1 (a4.map encB))), (3, (Ob.map ((mput a5 (Treach_slot.mk a1.Target a1.Method) true).map encM84_4))), (8, (Ob.arr 84 2 ((a6 ++ ([(Treach_slot.mk a1.Target a1.Method)] : List Treach_slot)).map encTreach_slot))), (5, (Ob.arr 3 1 (a7.map encI_i64))), (9, Ob.dead), (10, (Ob.arr 3 1 ((y66.2).map encI_i64)))] fOk20 wants_none rfl (evm_cons h.1 (evm_cons h.2.1 evm_nil)) (.cons (Sub.ptr rfl rfl) (.cons (Sub.imm (Imm.con _)) .nil)) (HpSub.consE (id := 0) rfl hh.1 (ObSub.box (.cons (Sub.imm (Imm.iptr _ _)) (.cons (Sub.own rfl rfl) (.cons (Sub.own rfl rfl) (.cons (Sub.map rfl rfl) (.cons (Sub.own rfl rfl) (.cons (Sub.own rfl rfl) (.cons (Sub.own rfl rfl) .nil)))))))) (HpSub.consE (id := 1) rfl hh.2.1 (ObSub.rows (rows_imm imms_encB)) (HpSub.consE (id := 2) rfl hh.2.2.1 (ObSub.rows (rows_imm imms_encB)) (HpSub.consE (id := 3) rfl hh.2.2.2.1 (ObSub.maps encM84_4_imm) (HpSub.consE (id := 4) rfl hh.2.2.2.2.1 (ObSub.rows (rows_imm imms_encTreach_slot)) (HpSub.consE (id := 5) rfl hh.2.2.2.2.2.1 (ObSub.rows (rows_imm imms_encI_i64)) (HpSub.consE (id := 6) rfl hh.2.2.2.2.2.2.1 (ObSub.rows (rows_imm imms_encI_i64)) .nil))))))) (W20 F y64 a2 l55 a4 (mput a5 (Treach_slot.mk a1.Target a1.Method) true) (a6 ++ ([(Treach_slot.mk a1.Target a1.Method)] : List Treach_slot)) a7 l56 y66 hx67) rfl rfl rfl rfl (Sub.immT (Imm.tup .nil)) (.cons rfl (ObSub.box (.cons (Sub.immT (Imm.iptr _ _)) (.cons (Sub.ownT rfl rfl) (.cons (Sub.ownT rfl rfl) (.cons (Sub.mapT rfl rfl) (.cons (Sub.ownT rfl rfl) (.cons (Sub.ownT rfl rfl) (.cons (Sub.ownT rfl rfl) .nil)))))))) (.cons rfl (ObSub.rowsT (rows_imm imms_encB)) (.cons rfl (ObSub.rowsT (rows_imm imms_encB)) (.cons rfl (ObSub.mapsT encM84_4_imm) (.cons rfl (ObSub.rowsT (rows_imm imms_encTreach_slot)) (.cons rfl (ObSub.rowsT (rows_imm imms_encI_i64)) (.cons rfl ObSub.deadT (.cons rfl (ObSub.rowsT (rows_imm imms_encI_i64)) .nil)))))))) (aops_nil ⟨rfl, rfl⟩)) rfl .nil))) (by kernel_rfl) ?_
    refine rn 1 rfl ?_
    exact jX ((y66.1), (y66.2)) h (gr [0, 1, 2, 3, 4, 5, 6, 7, 8, 10] rfl (hB rfl rfl rfl (hR rfl rfl (hR rfl rfl (hM rfl rfl (hD rfl (hR rfl rfl (hD rfl (hB rfl rfl rfl (hR rfl rfl (hR rfl rfl .nil)))))))))) rfl)
   refine rn 5 rfl ?_
   refine ixo (a := a4) h rfl rfl rfl (fun x68 hx69 h => ?_)
   refine ldp hx69 rfl rfl rfl rfl ?_
   refine rn 2 rfl ?_
   refine jK h (fun (p : (List Bool) × (List Int)) => (⟨[(0, (V.ptr 0 7 0 0)), (3, (V.ptr 7 4 0 0)), (57, (V.lst 1 (((mget a2.fitting a1.Target).getD ([] : (List Int))).map encI_i64))), (58, (iV ((((mget a2.fitting a1.Target).getD ([] : (List Int))).length : Nat) : Int))), (59, (iV n54)), (78, (bV x68))], [(0, (Ob.arr 47 7 [[(V.iptr (encTreach_world a2) 0), (V.own 1 (p.1).length), (V.own 2 a4.length), (V.map 3), (V.own 8 (a6 ++ ([(Treach_slot.mk a1.Target a1.Method)] : List Treach_slot)).length), (V.own 5 a7.length), (V.own 9 (p.2).length)]])), (1, (Ob.arr 4 1 ((p.1).map encB))), (2, (Ob.arr 4 1 (a4.map encB))), (3, (Ob.map ((mput a5 (Treach_slot.mk a1.Target a1.Method) true).map encM84_4))), (4, Ob.dead), (5, (Ob.arr 3 1 (a7.map encI_i64))), (6, Ob.dead), (7, (Ob.arr 59 4 [(encTCall a1)])), (8, (Ob.arr 84 2 ((a6 ++ ([(Treach_slot.mk a1.Target a1.Method)] : List Treach_slot)).map encTreach_slot))), (9, (Ob.arr 3 1 ((p.2).map encI_i64)))], 10⟩ : St)) (fun k70 p => k70 p.1 p.2 = some r) (fun k70 h => ?_) ?_
   ·refine spC h rfl (fun hb73 h => ?_) (fun hb73 h => ?_)
    ·obtain ⟨y74, hx75, h⟩ := bind_some h
     obtain ⟨y76, hx77, h⟩ := bind_some h
     refine awp_ghost ghost_res ?_
     refine fa ?_
     refine dr mixed (vs 7 rfl (cD rfl rfl rfl rfl (W33 _ _ _ _ _ hx75) rfl (xD (OD.mk [(80, (V.ptr 0 7 0 0)), (87, (iV y74))] [(0, (Ob.arr 47 7 [[(V.iptr (encTreach_world a2) 0), (V.own 1 l55.length), (V.own 2 a4.length), (V.map 3), (V.own 8 (a6 ++ ([(Treach_slot.mk a1.Target a1.Method)] : List Treach_slot)).length), (V.own 5 a7.length), (V.own 9 l56.length)]])), (1, (Ob.arr 4 1 (l55.map encB))), (2, (Ob.arr 4 1 (a4.map encB))), (3, (Ob.map ((mput a5 (Treach_slot.mk a1.Target a1.Method) true).map encM84_4))), (8, (Ob.arr 84 2 ((a6 ++ ([(Treach_slot.mk a1.Target a1.Method)] : List Treach_slot)).map encTreach_slot))), (5, (Ob.arr 3 1 (a7.map encI_i64))), (9, (Ob.arr 3 1 (l56.map encI_i64))), (10, Ob.res)] [(88, (V.tup []))] [(0, (Ob.arr 47 7 [[(V.iptr (encTreach_world a2) 0), (V.own 1 (y76.1).length), (V.own 2 a4.length), (V.map 3), (V.own 8 (a6 ++ ([(Treach_slot.mk a1.Target a1.Method)] : List Treach_slot)).length), (V.own 5 a7.length), (V.own 10 (y76.2).length)]])), (1, (Ob.arr 4 1 ((y76.1).map encB))), (2, (Ob.arr 4 1 (a4.map encB))), (3, (Ob.map ((mput a5 (Treach_slot.mk a1.Target a1.Method) true).map encM84_4))), (8, (Ob.arr 84 2 ((a6 ++ ([(Treach_slot.mk a1.Target a1.Method)] : List Treach_slot)).map encTreach_slot))), (5, (Ob.arr 3 1 (a7.map encI_i64))), (9, Ob.dead), (10, (Ob.arr 3 1 ((y76.2).map encI_i64)))]) ⟨⟨rfl, rfl, trivial⟩, ⟨rfl, rfl, rfl, rfl, rfl, rfl, rfl, rfl, trivial⟩⟩ (by exact fun S hn h hh => aops_mcall_atH [10] hn (List.forall_mem_cons.2 ⟨hh.2.2.2.2.2.2.2.1, (fun _ hx => nomatch hx)⟩) (V.tup []) [(V.ptr 0 7 0 0), (iV y74)] (fun i => ([0, 1, 2, 3, 8, 5, 9] : List Nat).getD i 0) (fun i => ([0, 1, 2, 3, 8, 5, 9, 10] : List Nat).getD i 0) [(0, (Ob.arr 47 7 [[(V.iptr (encTreach_world a2) 0), (V.own 1 (y76.1).length), (V.own 2 a4.length), (V.map 3), (V.own 8 (a6 ++ ([(Treach_slot.mk a1.Target a1.Method)] : List Treach_slot)).length), (V.own 5 a7.length), (V.own 10 (y76.2).length)]])), (1, (Ob.arr 4 1 ((y76.1).map encB))), (2, (Ob.arr 4 1 (a4.map encB))), (3, (Ob.map ((mput a5 (Treach_slot.mk a1.Target a1.Method) true).map encM84_4))), (8, (Ob.arr 84 2 ((a6 ++ ([(Treach_slot.mk a1.Target a1.Method)] : List Treach_slot)).map encTreach_slot))), (5, (Ob.arr 3 1 (a7.map encI_i64))), (9, Ob.dead), (10, (Ob.arr 3 1 ((y76.2).map encI_i64)))] fOk20 wants_none rfl (evm_cons h.1 (evm_cons h.2.1 evm_nil)) (.cons (Sub.ptr rfl rfl) (.cons (Sub.imm (Imm.con _)) .nil)) (HpSub.consE (id := 0) rfl hh.1 (ObSub.box (.cons (Sub.imm (Imm.iptr _ _)) (.cons (Sub.own rfl rfl) (.cons (Sub.own rfl rfl) (.cons (Sub.map rfl rfl) (.cons (Sub.own rfl rfl) (.cons (Sub.own rfl rfl) (.cons (Sub.own rfl rfl) .nil)))))))) (HpSub.consE (id := 1) rfl hh.2.1 (ObSub.rows (rows_imm imms_encB)) (HpSub.consE (id := 2) rfl hh.2.2.1 (ObSub.rows (rows_imm imms_encB)) (HpSub.consE (id := 3) rfl hh.2.2.2.1 (ObSub.maps encM84_4_imm) (HpSub.consE (id := 4) rfl hh.2.2.2.2.1 (ObSub.rows (rows_imm imms_encTreach_slot)) (HpSub.consE (id := 5) rfl hh.2.2.2.2.2.1 (ObSub.rows (rows_imm imms_encI_i64)) (HpSub.consE (id := 6) rfl hh.2.2.2.2.2.2.1 (ObSub.rows (rows_imm imms_encI_i64)) .nil))))))) (W20 F y74 a2 l55 a4 (mput a5 (Treach_slot.mk a1.Target a1.Method) true) (a6 ++ ([(Treach_slot.mk a1.Target a1.Method)] : List Treach_slot)) a7 l56 y76 hx77) rfl rfl rfl rfl (Sub.immT (Imm.tup .nil)) (.cons rfl (ObSub.box (.cons (Sub.immT (Imm.iptr _ _)) (.cons (Sub.ownT rfl rfl) (.cons (Sub.ownT rfl rfl) (.cons (Sub.mapT rfl rfl) (.cons (Sub.ownT rfl rfl) (.cons (Sub.ownT rfl rfl) (.cons (Sub.ownT rfl rfl) .nil)))))))) (.cons rfl (ObSub.rowsT (rows_imm imms_encB)) (.cons rfl (ObSub.rowsT (rows_imm imms_encB)) (.cons rfl (ObSub.mapsT encM84_4_imm) (.cons rfl (ObSub.rowsT (rows_imm imms_encTreach_slot)) (.cons rfl (ObSub.rowsT (rows_imm imms_encI_i64)) (.cons rfl ObSub.deadT (.cons rfl (ObSub.rowsT (rows_imm imms_encI_i64)) .nil)))))))) (aops_nil ⟨rfl, rfl⟩)) rfl .nil))) (by kernel_rfl) ?_
     exact jX ((y76.1), (y76.2)) h (gr [0, 1, 2, 3, 4, 5, 6, 7, 8, 10] rfl (hB rfl rfl rfl (hR rfl rfl (hR rfl rfl (hM rfl rfl (hD rfl (hR rfl rfl (hD rfl (hB rfl rfl rfl (hR rfl rfl (hR rfl rfl .nil)))))))))) rfl)
    refine rn 1 rfl ?_
    exact jX (l55, l56) h (gr [0, 1, 2, 3, 4, 5, 6, 7, 8, 9] rfl (hB rfl rfl rfl (hR rfl rfl (hR rfl rfl (hM rfl rfl (hD rfl (hR rfl rfl (hD rfl (hB rfl rfl rfl (hR rfl rfl (hR rfl rfl .nil)))))))))) rfl)
   rintro ⟨l71, l72⟩ h
   refine rn 1 rfl ?_
   exact jX (l71, l72) h (gr [0, 1, 2, 3, 4, 5, 6, 7, 8, 9] rfl (hB rfl rfl rfl (hR rfl rfl (hR rfl rfl (hM rfl rfl (hD rfl (hR rfl rfl (hD rfl (hB rfl rfl rfl (hR rfl rfl (hR rfl rfl .nil)))))))))) rfl)
  rintro ⟨l59, l60⟩ h
  refine rn 4 rfl ?_
  exact jX ((w64 (n54 + 1)), l59, l60) (hk1 _ h) (gr [0, 1, 2, 3, 4, 5, 6, 7, 8, 9] rfl (hB rfl rfl rfl (hR rfl rfl (hR rfl rfl (hM rfl rfl (hD rfl (hR rfl rfl (hD rfl (hB rfl rfl rfl (hR rfl rfl (hR rfl rfl .nil)))))))))) rfl)
 replace h := RG.f h hb57
 unfold M22_L1 at h
 refine rn 1 rfl ?_
 replace h := Option.some.inj h
 subst h
 exact wE ⟨.inr rfl, [], (gr [0, 1, 2, 3, 4, 5, 6, 8, 9] rfl (hB rfl rfl rfl (hR rfl rfl (hR rfl rfl (hM rfl rfl (hD rfl (hR rfl rfl (hD rfl (hR rfl rfl (hR rfl rfl .nil))))))))) rfl), .nil⟩
theorem W13 (F : Nat) (a1 : Treach_world) (a2 : Int) (r : ((List Bool) × (List Bool) × (List (Treach_slot × Bool)) × (List Treach_slot) × (List Int))) (h : M13 F a1 a2 = some r) : Mut Try.prog 13 [(V.iptr (encTreach_world a1) 0), (iV a2)] 0 [] (resV [(V.ptr 0 7 0 0)]) 7 [(0, (Ob.arr 47 7 [[(V.iptr (encTreach_world a1) 0), (V.own 1 (r.1).length), (V.own 2 (r.2.1).length), (V.map 3), (V.own 4 (r.2.2.2.1).length), (V.own 5 ([] : List Int).length), (V.own 6 (r.2.2.2.2).length)]])), (1, (Ob.arr 4 1 ((r.1).map encB))), (2, (Ob.arr 4 1 ((r.2.1).map encB))), (3, (Ob.map ((r.2.2.1).map encM84_4))), (4, (Ob.arr 84 2 ((r.2.2.2.1).map encTreach_slot))), (5, (Ob.arr 3 1 (([] : List Int).map encI_i64))), (6, (Ob.arr 3 1 ((r.2.2.2.2).map encI_i64)))] := by
 refine mut_enter Try.func13 rfl rfl (l := [.tmp 4]) rfl rfl [(0, (V.iptr (encTreach_world a1) 0)), (1, (iV a2))] rfl (fun w0 m0 β0 hg => en ?_)
 unfold M13 at h
 refine rn 6 rfl ?_
 refine ck h (fun hc105 h => ?_)
 refine ck h (fun hc106 h => ?_)
 refine awp_ghost ghost_res ?_
 refine awp_ghost ghost_res ?_
 refine awp_ghost ghost_res ?_
 refine awp_ghost ghost_res ?_
 refine fa ?_
 refine dr mixed (vs 6 rfl (nD rfl rfl rfl (xD (OD.mk [(19, (iV ((a1.g.Funcs.length : Nat) : Int)))] [(0, Ob.res)] [(20, (V.own 0 (List.replicate (((a1.g.Funcs.length : Nat) : Int)).toNat (false : Bool)).length))] [(0, (Ob.arr 4 1 ((List.replicate (((a1.g.Funcs.length : Nat) : Int)).toNat (false : Bool)).map encB)))]) ⟨⟨rfl, trivial⟩, ⟨rfl, trivial⟩⟩ (by exact fun S hn h hh => aops_makeSlice_at 0 rfl hn hh.1 (ln := (List.replicate (((a1.g.Funcs.length : Nat) : Int)).toNat (false : Bool)).length) ((List.replicate (((a1.g.Funcs.length : Nat) : Int)).toNat (false : Bool)).map encB) tEl42 tZ4 rfl rfl hc105 List.map_replicate List.length_replicate wants_none h.1 rfl (aops_nil ⟨rfl, rfl⟩)) rfl (vs 5 rfl (nD rfl rfl rfl (xD (OD.mk [(26, (iV ((a1.g.Types.length : Nat) : Int)))] [(1, Ob.res)] [(27, (V.own 1 (List.replicate (((a1.g.Types.length : Nat) : Int)).toNat (false : Bool)).length))] [(1, (Ob.arr 4 1 ((List.replicate (((a1.g.Types.length : Nat) : Int)).toNat (false : Bool)).map encB)))]) ⟨⟨rfl, trivial⟩, ⟨rfl, trivial⟩⟩ (by exact fun S hn h hh => aops_makeSlice_at 1 rfl hn hh.1 (ln := (List.replicate (((a1.g.Types.length : Nat) : Int)).toNat (false : Bool)).length) ((List.replicate (((a1.g.Types.length : Nat) : Int)).toNat (false : Bool)).map encB) tEl42 tZ4 rfl rfl hc106 List.map_replicate List.length_replicate wants_none h.1 rfl (aops_nil ⟨rfl, rfl⟩)) rfl (xD (OD.mk [] [(2, Ob.res)] [(28, (V.map 2))] [(2, (Ob.map (([] : List (Treach_slot × Bool)).map encM84_4)))]) ⟨trivial, ⟨rfl, trivial⟩⟩ (by exact fun S hn h hh => aops_makeMap_at 2 rfl hn hh.1 wants_none rfl (aops_nil ⟨rfl, rfl⟩)) rfl (vs 1 rfl (xD (OD.mk [(29, (V.agg [(V.iptr (encTreach_world a1) 0), (V.own 0 (List.replicate (((a1.g.Funcs.length : Nat) : Int)).toNat (false : Bool)).length), (V.own 1 (List.replicate (((a1.g.Types.length : Nat) : Int)).toNat (false : Bool)).length), (V.map 2), nV, nV, nV]))] [(3, Ob.res)] [(30, (V.ptr 3 7 0 0))] [(3, (Ob.arr 47 7 [[(V.iptr (encTreach_world a1) 0), (V.own 0 (List.replicate (((a1.g.Funcs.length : Nat) : Int)).toNat (false : Bool)).length), (V.own 1 (List.replicate (((a1.g.Types.length : Nat) : Int)).toNat (false : Bool)).length), (V.map 2), nV, nV, nV]]))]) ⟨⟨rfl, trivial⟩, ⟨rfl, trivial⟩⟩ (by exact fun S hn h hh => aops_box_at 3 rfl hn hh.1 [(V.iptr (encTreach_world a1) 0), (V.own 0 (List.replicate (((a1.g.Funcs.length : Nat) : Int)).toNat (false : Bool)).length), (V.own 1 (List.replicate (((a1.g.Types.length : Nat) : Int)).toNat (false : Bool)).length), (V.map 2), nV, nV, nV] wants_none h.1 rfl rfl rfl (aops_nil ⟨rfl, rfl⟩)) rfl (vs 1 rfl .nil)))))))))) (by kernel_rfl) ?_
 refine rn 8 rfl ?_
 refine ln rfl rfl ?_
 refine rn 2 rfl ?_
 refine jK h (fun (p : (List Bool) × (List Int)) => (⟨[(0, (V.iptr (encTreach_world a1) 0)), (1, (iV a2)), (5, (V.ptr 0 7 0 0))], [(0, (Ob.arr 47 7 [[(V.iptr (encTreach_world a1) 0), (V.own 1 (p.1).length), (V.own 2 (List.replicate (((a1.g.Types.length : Nat) : Int)).toNat (false : Bool)).length), (V.map 3), (V.own 4 ([] : List Treach_slot).length), (V.own 5 ([] : List Int).length), (V.own 6 (p.2).length)]])), (1, (Ob.arr 4 1 ((p.1).map encB))), (2, (Ob.arr 4 1 ((List.replicate (((a1.g.Types.length : Nat) : Int)).toNat (false : Bool)).map encB))), (3, (Ob.map (([] : List (Treach_slot × Bool)).map encM84_4))), (4, (Ob.arr 84 2 (([] : List Treach_slot).map encTreach_slot))), (5, (Ob.arr 3 1 (([] : List Int).map encI_i64))), (6, (Ob.arr 3 1 ((p.2).map encI_i64)))], 7⟩ : St)) (fun k107 p => k107 p.1 p.2 = some r) (fun k107 h => ?_) ?_
 ·refine rn 1 rfl ?_
  refine wl (A := a1.g.Entries) 35 rfl (fun hA121 => ?_)
  refine lC (fun (p : Int × (List Bool) × (List Int)) => (⟨[(0, (V.iptr (encTreach_world a1) 0)), (1, (iV a2)), (5, (V.ptr 0 7 0 0)), (35, (V.lst 1 (a1.g.Entries.map encS))), (36, (iV ((a1.g.Entries.length : Nat) : Int))), (37, (iV (p.1)))], [(0, (Ob.arr 47 7 [[(V.iptr (encTreach_world a1) 0), (V.own 1 (p.2.1).length), (V.own 2 (List.replicate (((a1.g.Types.length : Nat) : Int)).toNat (false : Bool)).length), (V.map 3), (V.own 4 ([] : List Treach_slot).length), (V.own 5 ([] : List Int).length), (V.own 6 (p.2.2).length)]])), (1, (Ob.arr 4 1 ((p.2.1).map encB))), (2, (Ob.arr 4 1 ((List.replicate (((a1.g.Types.length : Nat) : Int)).toNat (false : Bool)).map encB))), (3, (Ob.map (([] : List (Treach_slot × Bool)).map encM84_4))), (4, (Ob.arr 84 2 (([] : List Treach_slot).map encTreach_slot))), (5, (Ob.arr 3 1 (([] : List Int).map encI_i64))), (6, (Ob.arr 3 1 ((p.2.2).map encI_i64)))], 7⟩ : St)) (fun n p => RG a1.g.Entries (fun tl nn => M13_L1 F a1 k107 tl p.2.1 p.2.2 = some r) n p.1) (fun p h => RG.zero h) (a1.g.Entries.length + 1) (0, (List.replicate (((a1.g.Funcs.length : Nat) : Int)).toNat (false : Bool)), ([] : List Int)) (RG.start h) (Ghost.trans (ghost_nilC 3 84 2 (Ob.arr 47 7 [[(V.iptr (encTreach_world a1) 0), (V.own 0 (List.replicate (((a1.g.Funcs.length : Nat) : Int)).toNat (false : Bool)).length), (V.own 1 (List.replicate (((a1.g.Types.length : Nat) : Int)).toNat (false : Bool)).length), (V.map 2), (V.own 4 0), nV, nV]]) (ObSub.box (.cons Sub.keepNil (.cons Sub.keepNil (.cons Sub.keepNil (.cons Sub.keepNil (.cons Sub.mkNil (.cons Sub.keepNil (.cons Sub.keepNil .nil))))))))) (Ghost.trans (ghost_nilC 3 3 1 (Ob.arr 47 7 [[(V.iptr (encTreach_world a1) 0), (V.own 0 (List.replicate (((a1.g.Funcs.length : Nat) : Int)).toNat (false : Bool)).length), (V.own 1 (List.replicate (((a1.g.Types.length : Nat) : Int)).toNat (false : Bool)).length), (V.map 2), (V.own 4 0), (V.own 5 0), nV]]) (ObSub.box (.cons Sub.keepNil (.cons Sub.keepNil (.cons Sub.keepNil (.cons Sub.keepNil (.cons Sub.keepNil (.cons Sub.mkNil (.cons Sub.keepNil .nil))))))))) (Ghost.trans (ghost_nilC 3 3 1 (Ob.arr 47 7 [[(V.iptr (encTreach_world a1) 0), (V.own 0 (List.replicate (((a1.g.Funcs.length : Nat) : Int)).toNat (false : Bool)).length), (V.own 1 (List.replicate (((a1.g.Types.length : Nat) : Int)).toNat (false : Bool)).length), (V.map 2), (V.own 4 0), (V.own 5 0), (V.own 6 0)]]) (ObSub.box (.cons Sub.keepNil (.cons Sub.keepNil (.cons Sub.keepNil (.cons Sub.keepNil (.cons Sub.keepNil (.cons Sub.keepNil (.cons Sub.mkNil .nil))))))))) (ghost_ren 7 (fun i => ([3, 0, 1, 2, 4, 5, 6] : List Nat).getD i 0) _ _ (by decide) (EnvSub.get (.cons (Sub.imm (Imm.iptr _ _)) (.cons (Sub.imm (Imm.con _)) (.cons (Sub.ptr rfl rfl) (.cons (Sub.imm (Imm.lst _ _)) (.cons (Sub.imm (Imm.con _)) (.cons (Sub.imm (Imm.con _)) .nil))))))) (HpSub.get (.cons rfl (ObSub.box (.cons (Sub.imm (Imm.iptr _ _)) (.cons (Sub.own rfl rfl) (.cons (Sub.own rfl rfl) (.cons (Sub.map rfl rfl) (.cons (Sub.ownE rfl rfl (by simp)) (.cons (Sub.ownE rfl rfl (by simp)) (.cons (Sub.ownE rfl rfl (by simp)) .nil)))))))) (.cons rfl (ObSub.rows (rows_imm imms_encB)) (.cons rfl (ObSub.rows (rows_imm imms_encB)) (.cons rfl (ObSub.maps encM84_4_imm) (.cons rfl (ObSub.rows (rows_imm imms_encTreach_slot)) (.cons rfl (ObSub.rows (rows_imm imms_encI_i64)) (.cons rfl (ObSub.rows (rows_imm imms_encI_i64)) .nil)))))))) rfl)))) (fun n p h => ?_)
  obtain ⟨n113, l114, l115⟩ := p
  refine rn 5 rfl ?_
  refine spL rfl (fun hb116 => ?_) (fun hb116 => ?_)
  ·obtain ⟨x117, tl, hx118, h, hk1⟩ := RG.t hA121 h hb116
   unfold M13_L1 at h
   refine rn 5 rfl ?_
   refine ixh hx118 rfl rfl ?_
   refine rn 10 rfl ?_
   refine aops_lookup _ (iV 0) (iV ((mget a1.funcs x117).getD 0)) tMap50 tKey9 tZo3 (irel_con _) wants_none rfl .imm (.con rfl) ⟨_, rfl⟩ encM9_3_good (encM9_3_look a1.funcs x117) (getD_map (encM9_3_val) (mget a1.funcs x117) 0) rfl ?_
   obtain ⟨y119, hx120, h⟩ := bind_some h
   refine aops_mcallS (V.tup []) [(V.ptr 0 7 0 0), (iV ((mget a1.funcs x117).getD 0))] (fun i => ([0, 1, 2, 3, 4, 5, 6] : List Nat).getD i 0) (fun i => ([0, 1, 2, 3, 4, 5, 6, 7] : List Nat).getD i 0) 7 8 [(0, (Ob.arr 47 7 [[(V.iptr (encTreach_world a1) 0), (V.own 1 (y119.1).length), (V.own 2 (List.replicate (((a1.g.Types.length : Nat) : Int)).toNat (false : Bool)).length), (V.map 3), (V.own 4 ([] : List Treach_slot).length), (V.own 5 ([] : List Int).length), (V.own 7 (y119.2).length)]])), (1, (Ob.arr 4 1 ((y119.1).map encB))), (2, (Ob.arr 4 1 ((List.replicate (((a1.g.Types.length : Nat) : Int)).toNat (false : Bool)).map encB))), (3, (Ob.map (([] : List (Treach_slot × Bool)).map encM84_4))), (4, (Ob.arr 84 2 (([] : List Treach_slot).map encTreach_slot))), (5, (Ob.arr 3 1 (([] : List Int).map encI_i64))), (6, Ob.dead), (7, (Ob.arr 3 1 ((y119.2).map encI_i64)))] fOk20 wants_none rfl (evm_cons rfl (evm_cons rfl evm_nil)) (.cons (Sub.ptr rfl rfl) (.cons (Sub.imm (Imm.con _)) .nil)) (.cons rfl (ObSub.box (.cons (Sub.imm (Imm.iptr _ _)) (.cons (Sub.own rfl rfl) (.cons (Sub.own rfl rfl) (.cons (Sub.map rfl rfl) (.cons (Sub.own rfl rfl) (.cons (Sub.own rfl rfl) (.cons (Sub.own rfl rfl) .nil)))))))) (.cons rfl (ObSub.rows (rows_imm imms_encB)) (.cons rfl (ObSub.rows (rows_imm imms_encB)) (.cons rfl (ObSub.maps encM84_4_imm) (.cons rfl (ObSub.rows (rows_imm imms_encTreach_slot)) (.cons rfl (ObSub.rows (rows_imm imms_encI_i64)) (.cons rfl (ObSub.rows (rows_imm imms_encI_i64)) .nil))))))) (W20 F ((mget a1.funcs x117).getD 0) a1 l114 (List.replicate (((a1.g.Types.length : Nat) : Int)).toNat (false : Bool)) ([] : List (Treach_slot × Bool)) ([] : List Treach_slot) ([] : List Int) l115 y119 hx120) rfl rfl rfl rfl (Sub.immT (Imm.tup .nil)) (.cons rfl (ObSub.box (.cons (Sub.immT (Imm.iptr _ _)) (.cons (Sub.ownT rfl rfl) (.cons (Sub.ownT rfl rfl) (.cons (Sub.mapT rfl rfl) (.cons (Sub.ownT rfl rfl) (.cons (Sub.ownT rfl rfl) (.cons (Sub.ownT rfl rfl) .nil)))))))) (.cons rfl (ObSub.rowsT (rows_imm imms_encB)) (.cons rfl (ObSub.rowsT (rows_imm imms_encB)) (.cons rfl (ObSub.mapsT encM84_4_imm) (.cons rfl (ObSub.rowsT (rows_imm imms_encTreach_slot)) (.cons rfl (ObSub.rowsT (rows_imm imms_encI_i64)) (.cons rfl ObSub.deadT (.cons rfl (ObSub.rowsT (rows_imm imms_encI_i64)) .nil)))))))) _ rfl ?_
   refine fo (rn 6 rfl ?_)
   exact jX ((w64 (n113 + 1)), (y119.1), (y119.2)) (hk1 _ h) (gr [0, 1, 2, 3, 4, 5, 7] rfl (hB rfl rfl rfl (hR rfl rfl (hR rfl rfl (hM rfl rfl (hR rfl rfl (hR rfl rfl (hR rfl rfl .nil))))))) rfl)
  replace h := RG.f h hb116
  unfold M13_L1 at h
  refine rn 1 rfl ?_
  exact jX (l114, l115) h (gr [0, 1, 2, 3, 4, 5, 6] rfl (hB rfl rfl rfl (hR rfl rfl (hR rfl rfl (hM rfl rfl (hR rfl rfl (hR rfl rfl (hR rfl rfl .nil))))))) rfl)
 rintro ⟨l108, l109⟩ h
 refine rn 3 rfl ?_
 refine jK h (fun (p : (List Bool) × (List Bool) × (List (Treach_slot × Bool)) × (List Treach_slot) × (List Int)) => (⟨[(5, (V.ptr 0 7 0 0))], [(0, (Ob.arr 47 7 [[(V.iptr (encTreach_world a1) 0), (V.own 1 (p.1).length), (V.own 2 (p.2.1).length), (V.map 3), (V.own 4 (p.2.2.2.1).length), (V.own 5 ([] : List Int).length), (V.own 6 (p.2.2.2.2).length)]])), (1, (Ob.arr 4 1 ((p.1).map encB))), (2, (Ob.arr 4 1 ((p.2.1).map encB))), (3, (Ob.map ((p.2.2.1).map encM84_4))), (4, (Ob.arr 84 2 ((p.2.2.2.1).map encTreach_slot))), (5, (Ob.arr 3 1 (([] : List Int).map encI_i64))), (6, (Ob.arr 3 1 ((p.2.2.2.2).map encI_i64)))], 7⟩ : St)) (fun k122 p => k122 p.1 p.2.1 p.2.2.1 p.2.2.2.1 p.2.2.2.2 = some r) (fun k122 h => ?_) ?_
 ·refine rn 1 rfl ?_
  refine lC (fun (p : (List Bool) × (List Bool) × (List (Treach_slot × Bool)) × (List Treach_slot) × (List Int)) => (⟨[(0, (V.iptr (encTreach_world a1) 0)), (1, (iV a2)), (5, (V.ptr 0 7 0 0))], [(0, (Ob.arr 47 7 [[(V.iptr (encTreach_world a1) 0), (V.own 1 (p.1).length), (V.own 2 (p.2.1).length), (V.map 3), (V.own 4 (p.2.2.2.1).length), (V.own 5 ([] : List Int).length), (V.own 6 (p.2.2.2.2).length)]])), (1, (Ob.arr 4 1 ((p.1).map encB))), (2, (Ob.arr 4 1 ((p.2.1).map encB))), (3, (Ob.map ((p.2.2.1).map encM84_4))), (4, (Ob.arr 84 2 ((p.2.2.2.1).map encTreach_slot))), (5, (Ob.arr 3 1 (([] : List Int).map encI_i64))), (6, (Ob.arr 3 1 ((p.2.2.2.2).map encI_i64)))], 7⟩ : St)) (fun n p => M13_L2 F a1 a2 k122 n p.1 p.2.1 p.2.2.1 p.2.2.2.1 p.2.2.2.2 = some r) (fun p h => by simp [M13_L2] at h) F (l108, (List.replicate (((a1.g.Types.length : Nat) : Int)).toNat (false : Bool)), ([] : List (Treach_slot × Bool)), ([] : List Treach_slot), l109) h (gr [0, 1, 2, 3, 4, 5, 6] rfl (hB rfl rfl rfl (hR rfl rfl (hR rfl rfl (hM rfl rfl (hR rfl rfl (hR rfl rfl (hR rfl rfl .nil))))))) rfl) (fun n p h => ?_)
  obtain ⟨l133, l134, m135, l136, l137⟩ := p
  unfold M13_L2 at h
  refine rn 10 rfl ?_
  refine spC h rfl (fun hb138 h => ?_) (fun hb138 h => ?_)
  ·refine rn 1 rfl ?_
   refine jK h (fun (p : (List Bool) × (List Bool) × (List (Treach_slot × Bool)) × (List Treach_slot) × (List Int)) => (⟨[(0, (V.iptr (encTreach_world a1) 0)), (1, (iV a2)), (5, (V.ptr 0 7 0 0))], [(0, (Ob.arr 47 7 [[(V.iptr (encTreach_world a1) 0), (V.own 1 (p.1).length), (V.own 2 (p.2.1).length), (V.map 3), (V.own 4 (p.2.2.2.1).length), (V.own 5 ([] : List Int).length), (V.own 6 (p.2.2.2.2).length)]])), (1, (Ob.arr 4 1 ((p.1).map encB))), (2, (Ob.arr 4 1 ((p.2.1).map encB))), (3, (Ob.map ((p.2.2.1).map encM84_4))), (4, (Ob.arr 84 2 ((p.2.2.2.1).map encTreach_slot))), (5, (Ob.arr 3 1 (([] : List Int).map encI_i64))), (6, (Ob.arr 3 1 ((p.2.2.2.2).map encI_i64)))], 7⟩ : St)) (fun k139 p => k139 p.1 p.2.1 p.2.2.1 p.2.2.2.1 p.2.2.2.2 = some r) (fun k139 h => ?_) ?_
   ·refine rn 7 rfl ?_
    refine ixo (a := l137) h rfl rfl rfl (fun x145 hx146 h => ?_)
    refine ldp hx146 rfl rfl rfl rfl ?_
    refine rn 9 rfl ?_
    refine ck h (fun hc147 h => ?_)
    refine aops_slice_ownN (nx := 7) (1) (l137.length) ((l137.drop 1).length) ((l137.drop 1).map encI_i64) tSl45 wants_none rfl rfl (by simp) rfl ⟨_, rfl⟩ rfl hc147 (Nat.le_refl _) (List.map_drop ..).symm (by simp) (ndB_rows (rows_imm imms_encI_i64)) rfl ?_
    refine fo (rn 11 rfl ?_)
    refine spC h rfl (fun hb148 h => ?_) (fun hb148 h => ?_)
    ·refine rn 1 rfl ?_
     exact jX (l133, l134, m135, l136, (l137.drop 1)) h (gr [0, 1, 2, 3, 4, 5, 7] rfl (hB rfl rfl rfl (hR rfl rfl (hR rfl rfl (hM rfl rfl (hR rfl rfl (hR rfl rfl (hR rfl rfl .nil))))))) rfl)
    refine rn 10 rfl ?_
    refine ixl h rfl rfl (fun x149 hx150 h => ?_)
    refine rn 2 rfl ?_
    refine ln rfl rfl ?_
    refine rn 2 rfl ?_
    refine jK h (fun (p : (List Bool) × (List Bool) × (List Int)) => (⟨[(0, (V.iptr (encTreach_world a1) 0)), (1, (iV a2)), (5, (V.ptr 0 7 0 0)), (8, (iV x145))], [(0, (Ob.arr 47 7 [[(V.iptr (encTreach_world a1) 0), (V.own 1 (p.1).length), (V.own 2 (p.2.1).length), (V.map 3), (V.own 4 l136.length), (V.own 5 ([] : List Int).length), (V.own 6 (p.2.2).length)]])), (1, (Ob.arr 4 1 ((p.1).map encB))), (2, (Ob.arr 4 1 ((p.2.1).map encB))), (3, (Ob.map (m135.map encM84_4))), (4, (Ob.arr 84 2 (l136.map encTreach_slot))), (5, (Ob.arr 3 1 (([] : List Int).map encI_i64))), (6, (Ob.arr 3 1 ((p.2.2).map encI_i64)))], 7⟩ : St)) (fun k151 p => k151 p.1 p.2.1 p.2.2 = some r) (fun k151 h => ?_) ?_
    ·refine rn 1 rfl ?_
     refine wl (A := x149.Makes) 81 rfl (fun hA168 => ?_)
     refine lC (fun (p : Int × (List Bool) × (List Bool) × (List Int)) => (⟨[(0, (V.iptr (encTreach_world a1) 0)), (1, (iV a2)), (5, (V.ptr 0 7 0 0)), (8, (iV x145)), (81, (V.lst 1 (x149.Makes.map encS))), (82, (iV ((x149.Makes.length : Nat) : Int))), (83, (iV (p.1)))], [(0, (Ob.arr 47 7 [[(V.iptr (encTreach_world a1) 0), (V.own 1 (p.2.1).length), (V.own 2 (p.2.2.1).length), (V.map 3), (V.own 4 l136.length), (V.own 5 ([] : List Int).length), (V.own 6 (p.2.2.2).length)]])), (1, (Ob.arr 4 1 ((p.2.1).map encB))), (2, (Ob.arr 4 1 ((p.2.2.1).map encB))), (3, (Ob.map (m135.map encM84_4))), (4, (Ob.arr 84 2 (l136.map encTreach_slot))), (5, (Ob.arr 3 1 (([] : List Int).map encI_i64))), (6, (Ob.arr 3 1 ((p.2.2.2).map encI_i64)))], 7⟩ : St)) (fun n p => RG x149.Makes (fun tl nn => M13_L3 F a1 m135 l136 k151 tl p.2.1 p.2.2.1 p.2.2.2 = some r) n p.1) (fun p h => RG.zero h) (x149.Makes.length + 1) (0, l133, l134, (l137.drop 1)) (RG.start h) (gr [0, 1, 2, 3, 4, 5, 7] rfl (hB rfl rfl rfl (hR rfl rfl (hR rfl rfl (hM rfl rfl (hR rfl rfl (hR rfl rfl (hR rfl rfl .nil))))))) rfl) (fun n p h => ?_)
     obtain ⟨n159, l160, l161, l162⟩ := p
     refine rn 5 rfl ?_
     refine spL rfl (fun hb163 => ?_) (fun hb163 => ?_)
     ·obtain ⟨x164, tl, hx165, h, hk3⟩ := RG.t hA168 h hb163
      unfold M13_L3 at h
      refine rn 5 rfl ?_
      refine ixh hx165 rfl rfl ?_
      refine rn 10 rfl ?_
      refine aops_lookup _ (iV 0) (iV ((mget a1.types x164).getD 0)) tMap50 tKey9 tZo3 (irel_con _) wants_none rfl .imm (.con rfl) ⟨_, rfl⟩ encM9_3_good (encM9_3_look a1.types x164) (getD_map (encM9_3_val) (mget a1.types x164) 0) rfl ?_
      obtain ⟨y166, hx167, h⟩ := bind_some h
      refine aops_mcallS (V.tup []) [(V.ptr 0 7 0 0), (iV ((mget a1.types x164).getD 0))] (fun i => ([0, 1, 2, 3, 4, 5, 6] : List Nat).getD i 0) (fun i => ([0, 1, 2, 3, 4, 5, 6, 7] : List Nat).getD i 0) 7 8 [(0, (Ob.arr 47 7 [[(V.iptr (encTreach_world a1) 0), (V.own 1 (y166.1).length), (V.own 2 (y166.2.1).length), (V.map 3), (V.own 4 l136.length), (V.own 5 ([] : List Int).length), (V.own 7 (y166.2.2).length)]])), (1, (Ob.arr 4 1 ((y166.1).map encB))), (2, (Ob.arr 4 1 ((y166.2.1).map encB))), (3, (Ob.map (m135.map encM84_4))), (4, (Ob.arr 84 2 (l136.map encTreach_slot))), (5, (Ob.arr 3 1 (([] : List Int).map encI_i64))), (6, Ob.dead), (7, (Ob.arr 3 1 ((y166.2.2).map encI_i64)))] fOk21 wants_none rfl (evm_cons rfl (evm_cons rfl evm_nil)) (.cons (Sub.ptr rfl rfl) (.cons (Sub.imm (Imm.con _)) .nil)) (.cons rfl (ObSub.box (.cons (Sub.imm (Imm.iptr _ _)) (.cons (Sub.own rfl rfl) (.cons (Sub.own rfl rfl) (.cons (Sub.map rfl rfl) (.cons (Sub.own rfl rfl) (.cons (Sub.own rfl rfl) (.cons (Sub.own rfl rfl) .nil)))))))) (.cons rfl (ObSub.rows (rows_imm imms_encB)) (.cons rfl (ObSub.rows (rows_imm imms_encB)) (.cons rfl (ObSub.maps encM84_4_imm) (.cons rfl (ObSub.rows (rows_imm imms_encTreach_slot)) (.cons rfl (ObSub.rows (rows_imm imms_encI_i64)) (.cons rfl (ObSub.rows (rows_imm imms_encI_i64)) .nil))))))) (W21 F ((mget a1.types x164).getD 0) a1 l160 l161 m135 l136 ([] : List Int) l162 y166 hx167) rfl rfl rfl rfl (Sub.immT (Imm.tup .nil)) (.cons rfl (ObSub.box (.cons (Sub.immT (Imm.iptr _ _)) (.cons (Sub.ownT rfl rfl) (.cons (Sub.ownT rfl rfl) (.cons (Sub.mapT rfl rfl) (.cons (Sub.ownT rfl rfl) (.cons (Sub.ownT rfl rfl) (.cons (Sub.ownT rfl rfl) .nil)))))))) (.cons rfl (ObSub.rowsT (rows_imm imms_encB)) (.cons rfl (ObSub.rowsT (rows_imm imms_encB)) (.cons rfl (ObSub.mapsT encM84_4_imm) (.cons rfl (ObSub.rowsT (rows_imm imms_encTreach_slot)) (.cons rfl (ObSub.rowsT (rows_imm imms_encI_i64)) (.cons rfl ObSub.deadT (.cons rfl (ObSub.rowsT (rows_imm imms_encI_i64)) .nil)))))))) _ rfl ?_
      refine fo (rn 6 rfl ?_)
      exact jX ((w64 (n159 + 1)), (y166.1), (y166.2.1), (y166.2.2)) (hk3 _ h) (gr [0, 1, 2, 3, 4, 5, 7] rfl (hB rfl rfl rfl (hR rfl rfl (hR rfl rfl (hM rfl rfl (hR rfl rfl (hR rfl rfl (hR rfl rfl .nil))))))) rfl)
     replace h := RG.f h hb163
     unfold M13_L3 at h
     refine rn 1 rfl ?_
     exact jX (l160, l161, l162) h (gr [0, 1, 2, 3, 4, 5, 6] rfl (hB rfl rfl rfl (hR rfl rfl (hR rfl rfl (hM rfl rfl (hR rfl rfl (hR rfl rfl (hR rfl rfl .nil))))))) rfl)
    rintro ⟨l152, l153, l154⟩ h
    refine rn 8 rfl ?_
    refine ixl h rfl rfl (fun x169 hx170 h => ?_)
    refine rn 2 rfl ?_
    refine ln rfl rfl ?_
    refine rn 2 rfl ?_
    refine jK h (fun (p : (List Bool) × (List (Treach_slot × Bool)) × (List Treach_slot) × (List Int)) => (⟨[(0, (V.iptr (encTreach_world a1) 0)), (1, (iV a2)), (5, (V.ptr 0 7 0 0))], [(0, (Ob.arr 47 7 [[(V.iptr (encTreach_world a1) 0), (V.own 1 (p.1).length), (V.own 2 l153.length), (V.map 3), (V.own 4 (p.2.2.1).length), (V.own 5 ([] : List Int).length), (V.own 6 (p.2.2.2).length)]])), (1, (Ob.arr 4 1 ((p.1).map encB))), (2, (Ob.arr 4 1 (l153.map encB))), (3, (Ob.map ((p.2.1).map encM84_4))), (4, (Ob.arr 84 2 ((p.2.2.1).map encTreach_slot))), (5, (Ob.arr 3 1 (([] : List Int).map encI_i64))), (6, (Ob.arr 3 1 ((p.2.2.2).map encI_i64)))], 7⟩ : St)) (fun k171 p => k171 p.1 p.2.1 p.2.2.1 p.2.2.2 = some r) (fun k171 h => ?_) ?_
    ·refine rn 1 rfl ?_
     refine wl (A := x169.Calls) 104 rfl (fun hA201 => ?_)
     refine lC (fun (p : Int × (List Bool) × (List (Treach_slot × Bool)) × (List Treach_slot) × (List Int)) => (⟨[(0, (V.iptr (encTreach_world a1) 0)), (1, (iV a2)), (5, (V.ptr 0 7 0 0)), (104, (V.lst 4 (x169.Calls.map encTCall))), (105, (iV ((x169.Calls.length : Nat) : Int))), (106, (iV (p.1)))], [(0, (Ob.arr 47 7 [[(V.iptr (encTreach_world a1) 0), (V.own 1 (p.2.1).length), (V.own 2 l153.length), (V.map 3), (V.own 4 (p.2.2.2.1).length), (V.own 5 ([] : List Int).length), (V.own 6 (p.2.2.2.2).length)]])), (1, (Ob.arr 4 1 ((p.2.1).map encB))), (2, (Ob.arr 4 1 (l153.map encB))), (3, (Ob.map ((p.2.2.1).map encM84_4))), (4, (Ob.arr 84 2 ((p.2.2.2.1).map encTreach_slot))), (5, (Ob.arr 3 1 (([] : List Int).map encI_i64))), (6, (Ob.arr 3 1 ((p.2.2.2.2).map encI_i64)))], 7⟩ : St)) (fun n p => RG x169.Calls (fun tl nn => M13_L4 F a1 a2 l153 k122 k171 tl p.2.1 p.2.2.1 p.2.2.2.1 p.2.2.2.2 = some r) n p.1) (fun p h => RG.zero h) (x169.Calls.length + 1) (0, l152, m135, l136, l154) (RG.start h) (gr [0, 1, 2, 3, 4, 5, 6] rfl (hB rfl rfl rfl (hR rfl rfl (hR rfl rfl (hM rfl rfl (hR rfl rfl (hR rfl rfl (hR rfl rfl .nil))))))) rfl) (fun n p h => ?_)
     obtain ⟨n181, l182, m183, l184, l185⟩ := p
     refine rn 5 rfl ?_
     refine spL rfl (fun hb186 => ?_) (fun hb186 => ?_)
     ·obtain ⟨x192, tl, hx193, h, hk4⟩ := RG.t hA201 h hb186
      unfold M13_L4 at h
      refine rn 2 rfl ?_
      refine jK h (fun (p : (List Bool) × (List (Treach_slot × Bool)) × (List Treach_slot) × (List Int)) => (⟨[(0, (V.iptr (encTreach_world a1) 0)), (1, (iV a2)), (5, (V.ptr 0 7 0 0)), (104, (V.lst 4 (x169.Calls.map encTCall))), (105, (iV ((x169.Calls.length : Nat) : Int))), (106, (iV n181))], [(0, (Ob.arr 47 7 [[(V.iptr (encTreach_world a1) 0), (V.own 1 (p.1).length), (V.own 2 l153.length), (V.map 3), (V.own 4 (p.2.2.1).length), (V.own 5 ([] : List Int).length), (V.own 6 (p.2.2.2).length)]])), (1, (Ob.arr 4 1 ((p.1).map encB))), (2, (Ob.arr 4 1 (l153.map encB))), (3, (Ob.map ((p.2.1).map encM84_4))), (4, (Ob.arr 84 2 ((p.2.2.1).map encTreach_slot))), (5, (Ob.arr 3 1 (([] : List Int).map encI_i64))), (6, (Ob.arr 3 1 ((p.2.2.2).map encI_i64)))], 7⟩ : St)) (fun k187 p => k187 p.1 p.2.1 p.2.2.1 p.2.2.2 = some r) (fun k187 h => ?_) ?_
      ·refine rn 3 rfl ?_
       refine ixh hx193 rfl rfl ?_
       refine rn 6 rfl ?_
       refine dr mixed (vs 6 rfl (xD (OD.mk [(113, (V.imap (a1.on.map encM9_4))), (115, (sV x192.Feature))] [] [(116, (bV ((mget a1.on x192.Feature).getD false)))] []) ⟨⟨rfl, rfl, trivial⟩, trivial⟩ (by exact fun S hn h hh => aops_lookup _ (bV false) (bV ((mget a1.on x192.Feature).getD false)) tMap52 tKey9 tZo4 (irel_con _) wants_none h.1 .imm (.con h.2.1) ⟨_, rfl⟩ encM9_4_good (encM9_4_look a1.on x192.Feature) (getD_map (encM9_4_val) (mget a1.on x192.Feature) false) rfl (aops_nil ⟨rfl, rfl⟩)) rfl (vs 1 rfl .nil))) (by kernel_rfl) ?_
       refine spC h rfl (fun hb194 h => ?_) (fun hb194 h => ?_)
       ·refine rn 1 rfl ?_
        exact jX (l182, m183, l184, l185) h (gr [0, 1, 2, 3, 4, 5, 6] rfl (hB rfl rfl rfl (hR rfl rfl (hR rfl rfl (hM rfl rfl (hR rfl rfl (hR rfl rfl (hR rfl rfl .nil))))))) rfl)
       obtain ⟨y195, hx196, h⟩ := bind_some h
       refine rn 5 rfl ?_
       refine aops_mcallS (V.tup []) [(V.ptr 0 7 0 0), (V.agg (encTCall x192))] (fun i => ([0, 1, 2, 3, 4, 5, 6] : List Nat).getD i 0) (fun i => ([0, 1, 2, 3, 4, 5, 6, 8, 9] : List Nat).getD i 0) 8 10 [(0, (Ob.arr 47 7 [[(V.iptr (encTreach_world a1) 0), (V.own 1 (y195.1).length), (V.own 2 l153.length), (V.map 3), (V.own 8 (y195.2.2.1).length), (V.own 5 ([] : List Int).length), (V.own 9 (y195.2.2.2).length)]])), (1, (Ob.arr 4 1 ((y195.1).map encB))), (2, (Ob.arr 4 1 (l153.map encB))), (3, (Ob.map ((y195.2.1).map encM84_4))), (4, Ob.dead), (5, (Ob.arr 3 1 (([] : List Int).map encI_i64))), (6, Ob.dead), (8, (Ob.arr 84 2 ((y195.2.2.1).map encTreach_slot))), (9, (Ob.arr 3 1 ((y195.2.2.2).map encI_i64)))] fOk22 wants_none rfl (evm_cons rfl (evm_cons rfl evm_nil)) (.cons (Sub.ptr rfl rfl) (.cons (Sub.imm (Imm.agg (imms_encTCall _))) .nil)) (.cons rfl (ObSub.box (.cons (Sub.imm (Imm.iptr _ _)) (.cons (Sub.own rfl rfl) (.cons (Sub.own rfl rfl) (.cons (Sub.map rfl rfl) (.cons (Sub.own rfl rfl) (.cons (Sub.own rfl rfl) (.cons (Sub.own rfl rfl) .nil)))))))) (.cons rfl (ObSub.rows (rows_imm imms_encB)) (.cons rfl (ObSub.rows (rows_imm imms_encB)) (.cons rfl (ObSub.maps encM84_4_imm) (.cons rfl (ObSub.rows (rows_imm imms_encTreach_slot)) (.cons rfl (ObSub.rows (rows_imm imms_encI_i64)) (.cons rfl (ObSub.rows (rows_imm imms_encI_i64)) .nil))))))) (W22 F x192 a1 l182 l153 m183 l184 ([] : List Int) l185 y195 hx196) rfl rfl rfl rfl (Sub.immT (Imm.tup .nil)) (.cons rfl (ObSub.box (.cons (Sub.immT (Imm.iptr _ _)) (.cons (Sub.ownT rfl rfl) (.cons (Sub.ownT rfl rfl) (.cons (Sub.mapT rfl rfl) (.cons (Sub.ownT rfl rfl) (.cons (Sub.ownT rfl rfl) (.cons (Sub.ownT rfl rfl) .nil)))))))) (.cons rfl (ObSub.rowsT (rows_imm imms_encB)) (.cons rfl (ObSub.rowsT (rows_imm imms_encB)) (.cons rfl (ObSub.mapsT encM84_4_imm) (.cons rfl ObSub.deadT (.cons rfl (ObSub.rowsT (rows_imm imms_encI_i64)) (.cons rfl ObSub.deadT (.cons rfl (ObSub.rowsT (rows_imm imms_encTreach_slot)) (.cons rfl (ObSub.rowsT (rows_imm imms_encI_i64)) .nil))))))))) _ rfl ?_
       refine fo (rn 6 rfl ?_)
       refine spO 123 h rfl (fun hb197 h => ?_) (fun hb197 h => ?_)
       ·refine rn 5 rfl ?_
        refine ixo (a := (y195.1)) h rfl rfl rfl (fun x198 hx199 h => ?_)
        refine ldp hx199 rfl rfl rfl rfl ?_
        refine rn 2 rfl ?_
        refine spC h rfl (fun hb200 h => ?_) (fun hb200 h => ?_)
        ·refine rn 1 rfl ?_
         exact jX ((y195.1), l153, (y195.2.1), (y195.2.2.1), (y195.2.2.2)) h (gr [0, 1, 2, 3, 8, 5, 9] rfl (hB rfl rfl rfl (hR rfl rfl (hR rfl rfl (hM rfl rfl (hR rfl rfl (hR rfl rfl (hR rfl rfl .nil))))))) rfl)
        refine rn 2 rfl ?_
        exact jX ((y195.1), (y195.2.1), (y195.2.2.1), (y195.2.2.2)) h (gr [0, 1, 2, 3, 8, 5, 9] rfl (hB rfl rfl rfl (hR rfl rfl (hR rfl rfl (hM rfl rfl (hR rfl rfl (hR rfl rfl (hR rfl rfl .nil))))))) rfl)
       refine rn 12 rfl ?_
       exact jX ((y195.1), (y195.2.1), (y195.2.2.1), (y195.2.2.2)) h (gr [0, 1, 2, 3, 8, 5, 9] rfl (hB rfl rfl rfl (hR rfl rfl (hR rfl rfl (hM rfl rfl (hR rfl rfl (hR rfl rfl (hR rfl rfl .nil))))))) rfl)
      rintro ⟨l188, m189, l190, l191⟩ h
      refine rn 4 rfl ?_
      exact jX ((w64 (n181 + 1)), l188, m189, l190, l191) (hk4 _ h) (gr [0, 1, 2, 3, 4, 5, 6] rfl (hB rfl rfl rfl (hR rfl rfl (hR rfl rfl (hM rfl rfl (hR rfl rfl (hR rfl rfl (hR rfl rfl .nil))))))) rfl)
     replace h := RG.f h hb186
     unfold M13_L4 at h
     refine rn 1 rfl ?_
     exact jX (l182, m183, l184, l185) h (gr [0, 1, 2, 3, 4, 5, 6] rfl (hB rfl rfl rfl (hR rfl rfl (hR rfl rfl (hM rfl rfl (hR rfl rfl (hR rfl rfl (hR rfl rfl .nil))))))) rfl)
    rintro ⟨l172, m173, l174, l175⟩ h
    refine rn 1 rfl ?_
    exact jX (l172, l153, m173, l174, l175) h (gr [0, 1, 2, 3, 4, 5, 6] rfl (hB rfl rfl rfl (hR rfl rfl (hR rfl rfl (hM rfl rfl (hR rfl rfl (hR rfl rfl (hR rfl rfl .nil))))))) rfl)
   rintro ⟨l140, l141, m142, l143, l144⟩ h
   exact jX (l140, l141, m142, l143, l144) h (gr [0, 1, 2, 3, 4, 5, 6] rfl (hB rfl rfl rfl (hR rfl rfl (hR rfl rfl (hM rfl rfl (hR rfl rfl (hR rfl rfl (hR rfl rfl .nil))))))) rfl)
  refine rn 1 rfl ?_
  exact jX (l133, l134, m135, l136, l137) h (gr [0, 1, 2, 3, 4, 5, 6] rfl (hB rfl rfl rfl (hR rfl rfl (hR rfl rfl (hM rfl rfl (hR rfl rfl (hR rfl rfl (hR rfl rfl .nil))))))) rfl)
 rintro ⟨l123, l124, m125, l126, l127⟩ h
 refine rn 5 rfl ?_
 replace h := Option.some.inj h
 subst h
 exact wR ⟨.inl rfl, [(4, (V.ptr 0 7 0 0))], (gr [0, 1, 2, 3, 4, 5, 6] rfl (hB rfl rfl rfl (hR rfl rfl (hR rfl rfl (hM rfl rfl (hR rfl rfl (hR rfl rfl (hR rfl rfl .nil))))))) rfl), (.cons (.tmp rfl) .nil)⟩
theorem W11 (F : Nat) (a1 : (List (List UInt8))) (r : (List (List UInt8))) (h : M11 F a1 = some r) : Mut Try.prog 11 [(V.lst 1 (a1.map encS))] 0 [] (resV [(V.own 0 r.length)]) 1 [(0, (Ob.arr 9 1 (r.map encS)))] := by
 refine mut_enter Try.func11 rfl rfl (l := [.tmp 2]) rfl rfl [(0, (V.lst 1 (a1.map encS)))] rfl (fun w0 m0 β0 hg => en ?_)
 unfold M11 at h
 refine rn 8 rfl ?_
 refine aops_isNil (n := a1.length) false tIsSl25 wants_none rfl rfl (congrArg some (List.length_map ..)) rfl (fun b7 hn8 => ?_)
 replace h := nilq_elim h hn8
 refine fo (rn 1 rfl ?_)
 refine spC h rfl (fun hb9 h => ?_) (fun hb9 h => ?_)
 ·refine rn 4 rfl ?_
  replace h := Option.some.inj h
  subst h
  exact wR ⟨.inl rfl, [(2, (V.own 0 ([] : List (List UInt8)).length))], (Ghost.trans (ghost_nilE 2 9 1 rfl) (ghost_ren 1 (fun i => ([0] : List Nat).getD i 0) _ _ (by decide) (EnvSub.get (.cons (Sub.ownE rfl rfl (by simp)) .nil)) (HpSub.get (.cons rfl (ObSub.rows (rows_imm imms_encS)) .nil)) rfl)), (.cons (.tmp rfl) .nil)⟩
 refine rn 3 rfl ?_
 refine aops_emptySlice tEl25 wants_none rfl ?_
 refine fo (rn 1 rfl ?_)
 refine apL encS h rfl rfl rfl (by simp) rfl (fun h => ?_)
 refine rn 2 rfl ?_
 replace h := Option.some.inj h
 subst h
 exact wR ⟨.inl rfl, [(2, (V.own 0 (([] : List (List UInt8)) ++ a1).length))], (gr [1] rfl (hR rfl rfl .nil) rfl), (.cons (.tmp rfl) .nil)⟩
theorem W14 (F : Nat) (a1 : List UInt8) (a2 : List (List UInt8)) (r : List (List UInt8)) (h : M14 F a1 a2 = some r) : Mut Try.prog 14 [(V.own 0 a2.length), (V.fn (.func 15) [] [(V.iptr [(sV a1)] 0)])] 1 [(0, (Ob.arr 9 1 (a2.map encS)))] (resV [(V.own 0 r.length)]) 1 [(0, (Ob.arr 9 1 (r.map encS)))] := by
 unfold M14 at h
 by_cases hc : a2 ≠ [] ∧ a2.length ≤ 140737488355328
 ·rw [if_pos hc] at h
  replace h := Option.some.inj h
  subst h
  exact (df14 a2 a1 hc).heap hget_one
 ·rw [if_neg hc] at h; simp at h
theorem W4 (F : Nat) (a1 : TGraph) (a2 : Int) (a3 : (List (List UInt8))) (a4 : (List UInt8)) (r : ((List (List UInt8)) × Bool × Int)) (h : M4 F a1 a2 a3 a4 = some r) : Pure Try.prog 4 [(V.agg (encTGraph a1)), (iV a2), (V.lst 1 (a3.map encS)), (sV a4)] (V.tup [(V.lst 1 ((r.1).map encS)), (bV (r.2.1)), (iV (r.2.2))]) := by
 refine pin (fun r => (V.tup [(V.lst 1 ((r.1).map encS)), (bV (r.2.1)), (iV (r.2.2))])) r rfl Try.func4 rfl rfl rfl rfl rfl (fun w0 m0 hg => ?_)
 unfold M4 at h
 refine rn 13 rfl ?_
 refine smB h (fun z5 hz7 h => ?_) (fun z6 hz8 h => ?_)
 ·refine aops_mcallS (V.tup [(V.ptr 1 9 0 0), (iV (z5.1)), (iV 0)]) [(V.agg (encTGraph a1)), (iV a2), (V.lst 1 (a3.map encS)), (sV a4)] (fun i => ([] : List Nat).getD i 0) (fun i => ([1, 2] : List Nat).getD i 0) 1 3 [(1, (Ob.arr 54 9 [[(V.lst 2 (a1.Ifaces.map encTIface)), (V.lst 2 (a1.Types.map encTType)), (V.lst 4 (a1.Funcs.map encTFunc)), (V.lst 1 (a1.Entries.map encS)), (V.imap ((z5.2.1).map encM9_3)), (V.imap ((z5.2.2.1).map encM9_3)), (V.imap ((z5.2.2.2.1).map encM9_45)), (V.map 2), (bV (a2 == 2))]])), (2, (Ob.map ((z5.2.2.2.2).map encM9_4)))] fOk12 wants_none rfl (evm_cons rfl (evm_cons rfl (evm_cons rfl (evm_cons rfl evm_nil)))) (.cons (Sub.imm (Imm.agg (imms_encTGraph _))) (.cons (Sub.imm (Imm.con _)) (.cons (Sub.imm (Imm.lst _ _)) (.cons (Sub.imm (Imm.con _)) .nil)))) .nil (W12l F a1 a2 a3 a4 _ z5 rfl hz7) rfl rfl rfl rfl (Sub.tupT (.cons (Sub.ptrT rfl rfl) (.cons (Sub.immT (Imm.con _)) (.cons (Sub.immT (Imm.con _)) .nil)))) (.cons rfl (ObSub.box (.cons (Sub.immT (Imm.lst _ _)) (.cons (Sub.immT (Imm.lst _ _)) (.cons (Sub.immT (Imm.lst _ _)) (.cons (Sub.immT (Imm.lst _ _)) (.cons (Sub.immT (Imm.imap _)) (.cons (Sub.immT (Imm.imap _)) (.cons (Sub.immT (Imm.imap _)) (.cons (Sub.mapT rfl rfl) (.cons (Sub.immT (Imm.con _)) .nil)))))))))) (.cons rfl (ObSub.mapsT encM9_4_imm) .nil)) _ rfl ?_
  refine fo (rn 14 rfl ?_)
  refine spC h rfl (fun hb9 h => ?_) (fun hb9 h => ?_)
  ·refine rn 7 rfl ?_
   exact rt h rfl
  obtain ⟨y10, hx11, h⟩ := bind_some h
  refine rn 6 rfl ?_
  refine aops_lendP_call [(V.iptr [(V.lst 2 (a1.Ifaces.map encTIface)), (V.lst 2 (a1.Types.map encTType)), (V.lst 4 (a1.Funcs.map encTFunc)), (V.lst 1 (a1.Entries.map encS)), (V.imap ((z5.2.1).map encM9_3)), (V.imap ((z5.2.2.1).map encM9_3)), (V.imap ((z5.2.2.2.1).map encM9_45)), (V.imap ((z5.2.2.2.2).map encM9_4)), (bV (a2 == 2))] 0), (iV (z5.1))] 3 1 1 ((y10.1).length) [V.any, (V.own 3 (y10.1).length), V.any, V.any, V.any, V.any, V.any] rfl fOk13 (Ghost.trans (ghost_frzMC 2 1 (Ob.arr 54 9 [[(V.lst 2 (a1.Ifaces.map encTIface)), (V.lst 2 (a1.Types.map encTType)), (V.lst 4 (a1.Funcs.map encTFunc)), (V.lst 1 (a1.Entries.map encS)), (V.imap ((z5.2.1).map encM9_3)), (V.imap ((z5.2.2.1).map encM9_3)), (V.imap ((z5.2.2.2.1).map encM9_45)), (V.imap ((z5.2.2.2.2).map encM9_4)), (bV (a2 == 2))]]) rfl encM9_4_imm (ObSub.box (.cons Sub.keepM (.cons Sub.keepM (.cons Sub.keepM (.cons Sub.keepM (.cons Sub.keepM (.cons Sub.keepM (.cons Sub.keepM (.cons Sub.frzM (.cons Sub.keepM .nil))))))))))) (ghost_frzP 1 29 rfl (imms_rows (.cons (.cons (Imm.lst _ _) (.cons (Imm.lst _ _) (.cons (Imm.lst _ _) (.cons (Imm.lst _ _) (.cons (Imm.imap _) (.cons (Imm.imap _) (.cons (Imm.imap _) (.cons (Imm.imap _) (.cons (Imm.con _) .nil))))))))) .nil)) rfl rfl)) wants_none (evm_cons rfl (evm_cons rfl evm_nil)) (.cons (Imm.iptr _ _) (.cons (Imm.con _) .nil)) (W13 F (Treach_world.mk a1 (z5.2.1) (z5.2.2.1) (z5.2.2.2.1) (z5.2.2.2.2) (a2 == 2)) (z5.1) y10 hx11) rfl rfl rfl rfl rfl (rows_con (fun x => rfl)) rfl ?_
  refine fo (rn 4 rfl ?_)
  refine ixo (a := (y10.1)) h rfl rfl rfl (fun x12 hx13 h => ?_)
  refine ldp hx13 rfl rfl rfl rfl ?_
  refine rn 2 rfl ?_
  refine spC h rfl (fun hb14 h => ?_) (fun hb14 h => ?_)
  ·refine rn 6 rfl ?_
   exact rt h rfl
  obtain ⟨y15, hx16, h⟩ := bind_some h
  refine rn 4 rfl ?_
  refine aops_mcallS (V.own 5 y15.length) [(V.lst 1 (a3.map encS))] (fun i => ([] : List Nat).getD i 0) (fun i => ([5] : List Nat).getD i 0) 5 6 [(5, (Ob.arr 9 1 (y15.map encS)))] fOk11 wants_none rfl (evm_cons rfl evm_nil) (.cons (Sub.imm (Imm.lst _ _)) .nil) .nil (W11 F a3 y15 hx16) rfl rfl rfl rfl (Sub.ownT rfl rfl) (.cons rfl (ObSub.rowsT (rows_imm imms_encS)) .nil) _ rfl ?_
  refine fo (rn 6 rfl ?_)
  refine ln rfl rfl ?_
  refine rn 2 rfl ?_
  refine jK h (fun (p : (List (List UInt8))) => (⟨[(14, (V.own 0 p.length))], [(0, (Ob.arr 9 1 (p.map encS)))], 1⟩ : St)) (fun k17 p => k17 p = some r) (fun k17 h => ?_) ?_
  ·refine rn 1 rfl ?_
   refine wl (A := a3) 2 rfl (fun hA38 => ?_)
   refine lC (fun (p : Int × (List (List UInt8)) × (List ((List UInt8) × Bool))) => (⟨[(11, (V.ptr 0 9 0 0)), (12, (iV (z5.1))), (14, (V.own 1 (p.2.1).length)), (41, (V.lst 1 (a3.map encS))), (42, (iV ((a3.length : Nat) : Int))), (43, (iV (p.1)))], [(0, (Ob.arr 54 9 [[(V.lst 2 (a1.Ifaces.map encTIface)), (V.lst 2 (a1.Types.map encTType)), (V.lst 4 (a1.Funcs.map encTFunc)), (V.lst 1 (a1.Entries.map encS)), (V.imap ((z5.2.1).map encM9_3)), (V.imap ((z5.2.2.1).map encM9_3)), (V.imap ((z5.2.2.2.1).map encM9_45)), (V.map 2), (bV (a2 == 2))]])), (1, (Ob.arr 9 1 ((p.2.1).map encS))), (2, (Ob.map ((p.2.2).map encM9_4)))], 3⟩ : St)) (fun n p => RG a3 (fun tl nn => M4_L1 F a1 a2 z5 k17 tl p.2.1 p.2.2 = some r) n p.1) (fun p h => RG.zero h) (a3.length + 1) (0, y15, (z5.2.2.2.2)) (RG.start h) (gr [1, 5, 2] rfl (hB rfl rfl rfl (hR rfl rfl (hM rfl rfl .nil))) rfl) (fun n p h => ?_)
   obtain ⟨n22, l23, m24⟩ := p
   refine rn 5 rfl ?_
   refine spL rfl (fun hb25 => ?_) (fun hb25 => ?_)
   ·obtain ⟨x26, tl, hx27, h, hk1⟩ := RG.t hA38 h hb25
    unfold M4_L1 at h
    refine rn 5 rfl ?_
    refine ixh hx27 rfl rfl ?_
    refine rn 5 rfl ?_
    refine dr mixed (vs 5 rfl (xD (OD.mk [(50, (V.map 2)), (51, (sV x26))] [(2, (Ob.map (m24.map encM9_4)))] [] [(2, (Ob.map ((mdel m24 x26).map encM9_4)))]) ⟨⟨rfl, rfl, trivial⟩, ⟨rfl, trivial⟩⟩ (by exact fun S hn h hh => aops_mapDelete (es := m24.map encM9_4) ((mdel m24 x26).map encM9_4) tMap52 tKey9 wants_none h.1 hh.1 (.con h.2.1) ⟨_, rfl⟩ encM9_4_good (encM9_4_dels m24 x26) (aops_nil ⟨rfl, rfl⟩)) rfl .nil)) (by kernel_rfl) ?_
    obtain ⟨y28, hx29, h⟩ := bind_some h
    refine rn 4 rfl ?_
    refine aops_lendP_call [(V.iptr [(V.lst 2 (a1.Ifaces.map encTIface)), (V.lst 2 (a1.Types.map encTType)), (V.lst 4 (a1.Funcs.map encTFunc)), (V.lst 1 (a1.Entries.map encS)), (V.imap ((z5.2.1).map encM9_3)), (V.imap ((z5.2.2.1).map encM9_3)), (V.imap ((z5.2.2.2.1).map encM9_45)), (V.imap ((mdel m24 x26).map encM9_4)), (bV (a2 == 2))] 0), (iV (z5.1))] 4 1 1 ((y28.1).length) [V.any, (V.own 4 (y28.1).length), V.any, V.any, V.any, V.any, V.any] rfl fOk13 (Ghost.trans (ghost_frzMC 2 0 (Ob.arr 54 9 [[(V.lst 2 (a1.Ifaces.map encTIface)), (V.lst 2 (a1.Types.map encTType)), (V.lst 4 (a1.Funcs.map encTFunc)), (V.lst 1 (a1.Entries.map encS)), (V.imap ((z5.2.1).map encM9_3)), (V.imap ((z5.2.2.1).map encM9_3)), (V.imap ((z5.2.2.2.1).map encM9_45)), (V.imap ((mdel m24 x26).map encM9_4)), (bV (a2 == 2))]]) rfl encM9_4_imm (ObSub.box (.cons Sub.keepM (.cons Sub.keepM (.cons Sub.keepM (.cons Sub.keepM (.cons Sub.keepM (.cons Sub.keepM (.cons Sub.keepM (.cons Sub.frzM (.cons Sub.keepM .nil))))))))))) (ghost_frzP 0 52 rfl (imms_rows (.cons (.cons (Imm.lst _ _) (.cons (Imm.lst _ _) (.cons (Imm.lst _ _) (.cons (Imm.lst _ _) (.cons (Imm.imap _) (.cons (Imm.imap _) (.cons (Imm.imap _) (.cons (Imm.imap _) (.cons (Imm.con _) .nil))))))))) .nil)) rfl rfl)) wants_none (evm_cons rfl (evm_cons rfl evm_nil)) (.cons (Imm.iptr _ _) (.cons (Imm.con _) .nil)) (W13 F (Treach_world.mk a1 (z5.2.1) (z5.2.2.1) (z5.2.2.2.1) (mdel m24 x26) (a2 == 2)) (z5.1) y28 hx29) rfl rfl rfl rfl rfl (rows_con (fun x => rfl)) rfl ?_
    refine fo (rn 4 rfl ?_)
    refine ixo (a := (y28.1)) h rfl rfl rfl (fun x30 hx31 h => ?_)
    refine ldp hx31 rfl rfl rfl rfl ?_
    refine rn 1 rfl ?_
    refine jK h (fun (p : (List (List UInt8)) × (List ((List UInt8) × Bool))) => (⟨[(11, (V.ptr 0 9 0 0)), (12, (iV (z5.1))), (14, (V.own 1 (p.1).length)), (41, (V.lst 1 (a3.map encS))), (42, (iV ((a3.length : Nat) : Int))), (43, (iV n22))], [(0, (Ob.arr 54 9 [[(V.lst 2 (a1.Ifaces.map encTIface)), (V.lst 2 (a1.Types.map encTType)), (V.lst 4 (a1.Funcs.map encTFunc)), (V.lst 1 (a1.Entries.map encS)), (V.imap ((z5.2.1).map encM9_3)), (V.imap ((z5.2.2.1).map encM9_3)), (V.imap ((z5.2.2.2.1).map encM9_45)), (V.map 2), (bV (a2 == 2))]])), (1, (Ob.arr 9 1 ((p.1).map encS))), (2, (Ob.map ((p.2).map encM9_4)))], 3⟩ : St)) (fun k32 p => k32 p.1 p.2 = some r) (fun k32 h => ?_) ?_
    ·refine spC h rfl (fun hb35 h => ?_) (fun hb35 h => ?_)
     ·obtain ⟨y36, hx37, h⟩ := bind_some h
      refine rn 3 rfl ?_
      refine aops_ghost (ghost_frzV 3 62 (V.fn (.func 15) [] [(V.iptr [(sV x26)] 0)]) rfl (imms_rows (.cons (.cons (Imm.con _) .nil) .nil)) rfl (Sub.fnc (.cons (Sub.frzptr rfl) .nil))) ?_
      refine aops_mcallS (V.own 1 y36.length) [(V.own 1 l23.length), (V.fn (.func 15) [] [(V.iptr [(sV x26)] 0)])] (fun i => ([1] : List Nat).getD i 0) (fun i => ([1] : List Nat).getD i 0) 6 6 [(1, (Ob.arr 9 1 (y36.map encS)))] fOk14 wants_none rfl (evm_cons rfl (evm_cons rfl evm_nil)) (.cons (Sub.own rfl rfl) (.cons (Sub.imm (Imm.fn .nil (.cons (Imm.iptr _ _) .nil))) .nil)) (.cons rfl (ObSub.rows (rows_imm imms_encS)) .nil) (W14 F x26 l23 y36 hx37) rfl rfl rfl rfl (Sub.ownT rfl rfl) (.cons rfl (ObSub.rowsT (rows_imm imms_encS)) .nil) _ rfl ?_
      refine fo (rn 2 rfl ?_)
      exact jX (y36, (mdel m24 x26)) h (gr [0, 1, 2] rfl (hB rfl rfl rfl (hR rfl rfl (hM rfl rfl .nil))) rfl)
     refine dr mixed (vs 5 rfl (xD (OD.mk [(67, (V.map 2)), (68, (sV x26))] [(2, (Ob.map ((mdel m24 x26).map encM9_4)))] [] [(2, (Ob.map ((mput (mdel m24 x26) x26 true).map encM9_4)))]) ⟨⟨rfl, rfl, trivial⟩, ⟨rfl, trivial⟩⟩ (by exact fun S hn h hh => aops_mapUpdate (es := (mdel m24 x26).map encM9_4) ((mput (mdel m24 x26) x26 true).map encM9_4) tMap52 tKey9 wants_none h.1 hh.1 (.con h.2.1) ⟨_, rfl⟩ encM9_4_good rfl (encM9_4_puts (mdel m24 x26) x26 true) (aops_nil ⟨rfl, rfl⟩)) rfl .nil)) (by kernel_rfl) ?_
     exact jX (l23, (mput (mdel m24 x26) x26 true)) h (gr [0, 1, 2] rfl (hB rfl rfl rfl (hR rfl rfl (hM rfl rfl .nil))) rfl)
    rintro ⟨l33, m34⟩ h
    refine rn 5 rfl ?_
    exact jX ((w64 (n22 + 1)), l33, m34) (hk1 _ h) (gr [0, 1, 2] rfl (hB rfl rfl rfl (hR rfl rfl (hM rfl rfl .nil))) rfl)
   replace h := RG.f h hb25
   unfold M4_L1 at h
   refine rn 1 rfl ?_
   exact jX l23 h (gr [1] rfl (hR rfl rfl .nil) rfl)
  intro l18 h
  refine rn 7 rfl ?_
  refine awp_ghost (ghost_frzEs 0 [8, 14, 70] rfl (rows_imm imms_encS) (List.forall_mem_cons.2 ⟨rfl, (List.forall_mem_cons.2 ⟨rfl, (List.forall_mem_cons.2 ⟨rfl, (fun _ hx => nomatch hx)⟩)⟩)⟩) (List.length_map ..).symm) ?_
  refine fa ?_
  exact rt h rfl
 refine aops_mcallS (V.tup [(V.con (.pointer none)), (iV 0), (iV z6)]) [(V.agg (encTGraph a1)), (iV a2), (V.lst 1 (a3.map encS)), (sV a4)] (fun i => ([] : List Nat).getD i 0) (fun i => ([] : List Nat).getD i 0) 1 1 [] fOk12 wants_none rfl (evm_cons rfl (evm_cons rfl (evm_cons rfl (evm_cons rfl evm_nil)))) (.cons (Sub.imm (Imm.agg (imms_encTGraph _))) (.cons (Sub.imm (Imm.con _)) (.cons (Sub.imm (Imm.lst _ _)) (.cons (Sub.imm (Imm.con _)) .nil)))) .nil (W12r F a1 a2 a3 a4 _ z6 rfl hz8) rfl rfl rfl rfl (Sub.immT (Imm.tup (.cons (Imm.con _) (.cons (Imm.con _) (.cons (Imm.con _) .nil))))) .nil _ rfl ?_
 refine fo (rn 14 rfl ?_)
 refine spC h rfl (fun hb39 h => ?_) (fun hb39 h => ?_)
 ·refine rn 7 rfl ?_
  exact rt h rfl
 exact absurd h (by simp)
theorem W34 (F : Nat) (a1 : TGraph) (r : Tprovenderref6_names) (h : M34 F a1 = some r) : Pure Try.prog 34 [(V.agg (encTGraph a1))] (V.agg (encTprovenderref6_names r)) := by
 refine pin (fun r => (V.agg (encTprovenderref6_names r))) r rfl Try.func34 rfl rfl rfl rfl rfl (fun w0 m0 hg => ?_)
 unfold M34 at h
 refine rn 19 rfl ?_
 refine ln rfl rfl ?_
 refine rn 2 rfl ?_
 refine jK h (fun (p : (List ((List UInt8) × (List ((List UInt8) × Bool))))) => (⟨[(1, (V.ptr 0 4 0 0)), (2, (V.ptr 1 3 0 0)), (3, (V.ptr 2 3 0 0))], [(0, (Ob.arr 27 4 [(encTGraph a1)])), (1, (Ob.arr 89 3 [[(V.con (.map none)), (V.con (.map none)), (V.con (.map none))]])), (2, (Ob.arr 89 3 [[(V.map 3), (V.map 4), (V.map 5)]])), (3, (Ob.map (p.map encM9_154))), (4, (Ob.map (([] : List ((List UInt8) × Bool)).map encM9_4))), (5, (Ob.map (([] : List ((List UInt8) × Bool)).map encM9_4)))], 6⟩ : St)) (fun k2 p => k2 p = some r) (fun k2 h => ?_) ?_
 ·refine rn 1 rfl ?_
  refine wl (A := a1.Ifaces) 17 rfl (fun hA24 => ?_)
  refine lC (fun (p : Int × (List ((List UInt8) × (List ((List UInt8) × Bool))))) => (⟨[(1, (V.ptr 0 4 0 0)), (2, (V.ptr 1 3 0 0)), (3, (V.ptr 2 3 0 0)), (17, (V.lst 2 (a1.Ifaces.map encTIface))), (18, (iV ((a1.Ifaces.length : Nat) : Int))), (19, (iV (p.1)))], [(0, (Ob.arr 27 4 [(encTGraph a1)])), (1, (Ob.arr 89 3 [[(V.con (.map none)), (V.con (.map none)), (V.con (.map none))]])), (2, (Ob.arr 89 3 [[(V.map 3), (V.map 4), (V.map 5)]])), (3, (Ob.map ((p.2).map encM9_154))), (4, (Ob.map (([] : List ((List UInt8) × Bool)).map encM9_4))), (5, (Ob.map (([] : List ((List UInt8) × Bool)).map encM9_4)))], 6⟩ : St)) (fun n p => RG a1.Ifaces (fun tl nn => M34_L1 F k2 tl p.2 = some r) n p.1) (fun p h => RG.zero h) (a1.Ifaces.length + 1) (0, ([] : List ((List UInt8) × (List ((List UInt8) × Bool))))) (RG.start h) (gr [0, 1, 5, 2, 3, 4] rfl (hB rfl rfl rfl (hB rfl rfl rfl (hB rfl rfl rfl (hM rfl rfl (hM rfl rfl (hM rfl rfl .nil)))))) rfl) (fun n p h => ?_)
  obtain ⟨n6, m7⟩ := p
  refine rn 5 rfl ?_
  refine spL rfl (fun hb8 => ?_) (fun hb8 => ?_)
  ·obtain ⟨x11, tl, hx12, h, hk1⟩ := RG.t hA24 h hb8
   unfold M34_L1 at h
   refine rn 2 rfl ?_
   refine jK h (fun (p : (List ((List UInt8) × (List ((List UInt8) × Bool))))) => (⟨[(1, (V.ptr 0 4 0 0)), (2, (V.ptr 1 3 0 0)), (3, (V.ptr 2 3 0 0)), (17, (V.lst 2 (a1.Ifaces.map encTIface))), (18, (iV ((a1.Ifaces.length : Nat) : Int))), (19, (iV n6))], [(0, (Ob.arr 27 4 [(encTGraph a1)])), (1, (Ob.arr 89 3 [[(V.con (.map none)), (V.con (.map none)), (V.con (.map none))]])), (2, (Ob.arr 89 3 [[(V.map 3), (V.map 4), (V.map 5)]])), (3, (Ob.map (p.map encM9_154))), (4, (Ob.map (([] : List ((List UInt8) × Bool)).map encM9_4))), (5, (Ob.map (([] : List ((List UInt8) × Bool)).map encM9_4)))], 6⟩ : St)) (fun k9 p => k9 p = some r) (fun k9 h => ?_) ?_
   ·refine rn 3 rfl ?_
    refine ixh hx12 rfl rfl ?_
    refine rn 11 rfl ?_
    refine aops_mapUpdate_deepG (id2 := 7) (o := (V.map 7)) (dv := (.dmp (([] : List ((List UInt8) × Bool)).map encM9_4))) (ob := (.map (([] : List ((List UInt8) × Bool)).map encM9_4))) ((mput m7 x11.Name ([] : List ((List UInt8) × Bool))).map encM9_154) tMap87 tKey9 wants_none rfl rfl (.con rfl) ⟨_, rfl⟩ encM9_154_good rfl (by simp [ovl]) rfl rfl (okeep_ents encM9_4_im ([] : List ((List UInt8) × Bool))) (puts_new encM9_154 (fun k => str k) encM9_4 (fun _ => rfl) inj_str x11.Name ([] : List ((List UInt8) × Bool)) m7) ?_
    refine fo (rn 5 rfl ?_)
    refine ln rfl rfl ?_
    refine rn 2 rfl ?_
    refine jK h (fun (p : (List ((List UInt8) × (List ((List UInt8) × Bool))))) => (⟨[(1, (V.ptr 0 4 0 0)), (2, (V.ptr 1 3 0 0)), (3, (V.ptr 2 3 0 0)), (17, (V.lst 2 (a1.Ifaces.map encTIface))), (18, (iV ((a1.Ifaces.length : Nat) : Int))), (19, (iV n6))], [(0, (Ob.arr 27 4 [(encTGraph a1)])), (1, (Ob.arr 89 3 [[(V.con (.map none)), (V.con (.map none)), (V.con (.map none))]])), (2, (Ob.arr 89 3 [[(V.map 3), (V.map 4), (V.map 5)]])), (3, (Ob.map (p.map encM9_154))), (4, (Ob.map (([] : List ((List UInt8) × Bool)).map encM9_4))), (5, (Ob.map (([] : List ((List UInt8) × Bool)).map encM9_4)))], 6⟩ : St)) (fun k13 p => k13 p = some r) (fun k13 h => ?_) ?_
    ·refine rn 1 rfl ?_
     refine wl (A := x11.Methods) 29 rfl (fun hA23 => ?_)
     refine lC (fun (p : Int × (List ((List UInt8) × (List ((List UInt8) × Bool))))) => (⟨[(1, (V.ptr 0 4 0 0)), (2, (V.ptr 1 3 0 0)), (3, (V.ptr 2 3 0 0)), (5, (V.ptr 3 2 0 0)), (17, (V.lst 2 (a1.Ifaces.map encTIface))), (18, (iV ((a1.Ifaces.length : Nat) : Int))), (19, (iV n6)), (29, (V.lst 1 (x11.Methods.map encS))), (30, (iV ((x11.Methods.length : Nat) : Int))), (31, (iV (p.1)))], [(0, (Ob.arr 27 4 [(encTGraph a1)])), (1, (Ob.arr 89 3 [[(V.con (.map none)), (V.con (.map none)), (V.con (.map none))]])), (2, (Ob.arr 89 3 [[(V.map 4), (V.map 5), (V.map 6)]])), (3, (Ob.arr 114 2 [(encTIface x11)])), (4, (Ob.map ((p.2).map encM9_154))), (5, (Ob.map (([] : List ((List UInt8) × Bool)).map encM9_4))), (6, (Ob.map (([] : List ((List UInt8) × Bool)).map encM9_4)))], 7⟩ : St)) (fun n p => RG x11.Methods (fun tl nn => M34_L2 F x11 k13 tl p.2 = some r) n p.1) (fun p h => RG.zero h) (x11.Methods.length + 1) (0, (mput m7 x11.Name ([] : List ((List UInt8) × Bool)))) (RG.start h) (gr [0, 1, 2, 6, 3, 4, 5] rfl (hB rfl rfl rfl (hB rfl rfl rfl (hB rfl rfl rfl (hB rfl rfl rfl (hM rfl rfl (hM rfl rfl (hM rfl rfl .nil))))))) rfl) (fun n p h => ?_)
     obtain ⟨n17, m18⟩ := p
     refine rn 5 rfl ?_
     refine spL rfl (fun hb19 => ?_) (fun hb19 => ?_)
     ·obtain ⟨x20, tl, hx21, h, hk2⟩ := RG.t hA23 h hb19
      unfold M34_L2 at h
      refine rn 5 rfl ?_
      refine ixh hx21 rfl rfl ?_
      refine rn 8 rfl ?_
      refine ck h (fun hc22 h => ?_)
      refine aops_lookup_tkP tMap87 tKey9 wants_none rfl rfl (.con rfl) ⟨_, rfl⟩ encM9_154_good (lookD_enc encM9_154 (fun k => str k) encM9_4 7 (fun _ => rfl) inj_str x11.Name m18 hc22) rfl rfl ?_
      refine fo (rn 1 rfl ?_)
      refine aops_mapUpdate (es := ((mget m18 x11.Name).getD []).map encM9_4) ((mput ((mget m18 x11.Name).getD []) x20 true).map encM9_4) tMap52 tKey9 wants_none rfl rfl (.con rfl) ⟨_, rfl⟩ encM9_4_good rfl (encM9_4_puts ((mget m18 x11.Name).getD []) x20 true) ?_
      refine aops_ghost (ghost_putN 4 7 encM9_154 (fun k => str k) encM9_4 (fun _ => rfl) hc22 rfl rfl rfl encM9_4_im) ?_
      refine fo (rn 6 rfl ?_)
      exact jX ((w64 (n17 + 1)), (mput m18 x11.Name (mput ((mget m18 x11.Name).getD []) x20 true))) (hk2 _ h) (gr [0, 1, 2, 3, 4, 5, 6] rfl (hB rfl rfl rfl (hB rfl rfl rfl (hB rfl rfl rfl (hB rfl rfl rfl (hM rfl rfl (hM rfl rfl (hM rfl rfl .nil))))))) rfl)
     replace h := RG.f h hb19
     unfold M34_L2 at h
     refine rn 1 rfl ?_
     exact jX m18 h (gr [0, 1, 2, 4, 5, 6] rfl (hB rfl rfl rfl (hB rfl rfl rfl (hB rfl rfl rfl (hM rfl rfl (hM rfl rfl (hM rfl rfl .nil)))))) rfl)
    intro m14 h
    refine rn 1 rfl ?_
    exact jX m14 h (gr [0, 1, 2, 3, 4, 5] rfl (hB rfl rfl rfl (hB rfl rfl rfl (hB rfl rfl rfl (hM rfl rfl (hM rfl rfl (hM rfl rfl .nil)))))) rfl)
   intro m10 h
   refine rn 4 rfl ?_
   exact jX ((w64 (n6 + 1)), m10) (hk1 _ h) (gr [0, 1, 2, 3, 4, 5] rfl (hB rfl rfl rfl (hB rfl rfl rfl (hB rfl rfl rfl (hM rfl rfl (hM rfl rfl (hM rfl rfl .nil)))))) rfl)
  replace h := RG.f h hb8
  unfold M34_L1 at h
  refine rn 1 rfl ?_
  exact jX m7 h (gr [0, 1, 2, 3, 4, 5] rfl (hB rfl rfl rfl (hB rfl rfl rfl (hB rfl rfl rfl (hM rfl rfl (hM rfl rfl (hM rfl rfl .nil)))))) rfl)
 intro m3 h
 refine rn 5 rfl ?_
 refine ln rfl rfl ?_
 refine rn 2 rfl ?_
 refine jK h (fun (p : (List ((List UInt8) × Bool))) => (⟨[(1, (V.ptr 0 4 0 0)), (2, (V.ptr 1 3 0 0)), (3, (V.ptr 2 3 0 0))], [(0, (Ob.arr 27 4 [(encTGraph a1)])), (1, (Ob.arr 89 3 [[(V.con (.map none)), (V.con (.map none)), (V.con (.map none))]])), (2, (Ob.arr 89 3 [[(V.map 3), (V.map 4), (V.map 5)]])), (3, (Ob.map (m3.map encM9_154))), (4, (Ob.map (p.map encM9_4))), (5, (Ob.map (([] : List ((List UInt8) × Bool)).map encM9_4)))], 6⟩ : St)) (fun k25 p => k25 p = some r) (fun k25 h => ?_) ?_
 ·refine rn 1 rfl ?_
  refine wl (A := a1.Types) 44 rfl (fun hA34 => ?_)
  refine lC (fun (p : Int × (List ((List UInt8) × Bool))) => (⟨[(1, (V.ptr 0 4 0 0)), (2, (V.ptr 1 3 0 0)), (3, (V.ptr 2 3 0 0)), (44, (V.lst 2 (a1.Types.map encTType))), (45, (iV ((a1.Types.length : Nat) : Int))), (46, (iV (p.1)))], [(0, (Ob.arr 27 4 [(encTGraph a1)])), (1, (Ob.arr 89 3 [[(V.con (.map none)), (V.con (.map none)), (V.con (.map none))]])), (2, (Ob.arr 89 3 [[(V.map 3), (V.map 4), (V.map 5)]])), (3, (Ob.map (m3.map encM9_154))), (4, (Ob.map ((p.2).map encM9_4))), (5, (Ob.map (([] : List ((List UInt8) × Bool)).map encM9_4)))], 6⟩ : St)) (fun n p => RG a1.Types (fun tl nn => M34_L3 F k25 tl p.2 = some r) n p.1) (fun p h => RG.zero h) (a1.Types.length + 1) (0, ([] : List ((List UInt8) × Bool))) (RG.start h) (gr [0, 1, 2, 3, 4, 5] rfl (hB rfl rfl rfl (hB rfl rfl rfl (hB rfl rfl rfl (hM rfl rfl (hM rfl rfl (hM rfl rfl .nil)))))) rfl) (fun n p h => ?_)
  obtain ⟨n29, m30⟩ := p
  refine rn 5 rfl ?_
  refine spL rfl (fun hb31 => ?_) (fun hb31 => ?_)
  ·obtain ⟨x32, tl, hx33, h, hk3⟩ := RG.t hA34 h hb31
   unfold M34_L3 at h
   refine rn 5 rfl ?_
   refine ixh hx33 rfl rfl ?_
   refine rn 9 rfl ?_
   refine aops_mapUpdate (es := m30.map encM9_4) ((mput m30 x32.Name true).map encM9_4) tMap52 tKey9 wants_none rfl rfl (.con rfl) ⟨_, rfl⟩ encM9_4_good rfl (encM9_4_puts m30 x32.Name true) ?_
   refine fo (rn 6 rfl ?_)
   exact jX ((w64 (n29 + 1)), (mput m30 x32.Name true)) (hk3 _ h) (gr [0, 1, 2, 3, 4, 5] rfl (hB rfl rfl rfl (hB rfl rfl rfl (hB rfl rfl rfl (hM rfl rfl (hM rfl rfl (hM rfl rfl .nil)))))) rfl)
  replace h := RG.f h hb31
  unfold M34_L3 at h
  refine rn 1 rfl ?_
  exact jX m30 h (gr [0, 1, 2, 3, 4, 5] rfl (hB rfl rfl rfl (hB rfl rfl rfl (hB rfl rfl rfl (hM rfl rfl (hM rfl rfl (hM rfl rfl .nil)))))) rfl)
 intro m26 h
 refine rn 5 rfl ?_
 refine ln rfl rfl ?_
 refine rn 2 rfl ?_
 refine jK h (fun (p : (List ((List UInt8) × Bool))) => (⟨[(2, (V.ptr 0 3 0 0)), (3, (V.ptr 1 3 0 0))], [(0, (Ob.arr 89 3 [[(V.con (.map none)), (V.con (.map none)), (V.con (.map none))]])), (1, (Ob.arr 89 3 [[(V.map 2), (V.map 3), (V.map 4)]])), (2, (Ob.map (m3.map encM9_154))), (3, (Ob.map (m26.map encM9_4))), (4, (Ob.map (p.map encM9_4)))], 5⟩ : St)) (fun k35 p => k35 p = some r) (fun k35 h => ?_) ?_
 ·refine rn 1 rfl ?_
  refine wl (A := a1.Funcs) 56 rfl (fun hA44 => ?_)
  refine lC (fun (p : Int × (List ((List UInt8) × Bool))) => (⟨[(2, (V.ptr 0 3 0 0)), (3, (V.ptr 1 3 0 0)), (56, (V.lst 4 (a1.Funcs.map encTFunc))), (57, (iV ((a1.Funcs.length : Nat) : Int))), (58, (iV (p.1)))], [(0, (Ob.arr 89 3 [[(V.con (.map none)), (V.con (.map none)), (V.con (.map none))]])), (1, (Ob.arr 89 3 [[(V.map 2), (V.map 3), (V.map 4)]])), (2, (Ob.map (m3.map encM9_154))), (3, (Ob.map (m26.map encM9_4))), (4, (Ob.map ((p.2).map encM9_4)))], 5⟩ : St)) (fun n p => RG a1.Funcs (fun tl nn => M34_L4 F k35 tl p.2 = some r) n p.1) (fun p h => RG.zero h) (a1.Funcs.length + 1) (0, ([] : List ((List UInt8) × Bool))) (RG.start h) (gr [1, 2, 3, 4, 5] rfl (hB rfl rfl rfl (hB rfl rfl rfl (hM rfl rfl (hM rfl rfl (hM rfl rfl .nil))))) rfl) (fun n p h => ?_)
  obtain ⟨n39, m40⟩ := p
  refine rn 5 rfl ?_
  refine spL rfl (fun hb41 => ?_) (fun hb41 => ?_)
  ·obtain ⟨x42, tl, hx43, h, hk4⟩ := RG.t hA44 h hb41
   unfold M34_L4 at h
   refine rn 5 rfl ?_
   refine ixh hx43 rfl rfl ?_
   refine rn 9 rfl ?_
   refine aops_mapUpdate (es := m40.map encM9_4) ((mput m40 x42.Name true).map encM9_4) tMap52 tKey9 wants_none rfl rfl (.con rfl) ⟨_, rfl⟩ encM9_4_good rfl (encM9_4_puts m40 x42.Name true) ?_
   refine fo (rn 6 rfl ?_)
   exact jX ((w64 (n39 + 1)), (mput m40 x42.Name true)) (hk4 _ h) (gr [0, 1, 2, 3, 4] rfl (hB rfl rfl rfl (hB rfl rfl rfl (hM rfl rfl (hM rfl rfl (hM rfl rfl .nil))))) rfl)
  replace h := RG.f h hb41
  unfold M34_L4 at h
  refine rn 1 rfl ?_
  exact jX m40 h (gr [0, 1, 2, 3, 4] rfl (hB rfl rfl rfl (hB rfl rfl rfl (hM rfl rfl (hM rfl rfl (hM rfl rfl .nil))))) rfl)
 intro m36 h
 refine rn 5 rfl ?_
 refine awp_ghost (ghost_frzDMC 2 0 (m3.map encM9_52) (Ob.arr 89 3 [[(V.imap (m3.map encM9_52)), (V.map 3), (V.map 4)]]) rfl (by simp) (und_map encM9_154_und _) (ObSub.box (.cons Sub.frzM (.cons Sub.keepM (.cons Sub.keepM .nil))))) ?_
 refine awp_ghost (ghost_frzMC 3 0 (Ob.arr 89 3 [[(V.imap (m3.map encM9_52)), (V.imap (m26.map encM9_4)), (V.map 4)]]) rfl encM9_4_imm (ObSub.box (.cons Sub.keepM (.cons Sub.frzM (.cons Sub.keepM .nil))))) ?_
 refine awp_ghost (ghost_frzMC 4 0 (Ob.arr 89 3 [[(V.imap (m3.map encM9_52)), (V.imap (m26.map encM9_4)), (V.imap (m36.map encM9_4))]]) rfl encM9_4_imm (ObSub.box (.cons Sub.keepM (.cons Sub.keepM (.cons Sub.frzM .nil))))) ?_
 refine fa ?_
 exact rt h rfl
theorem W36 (F : Nat) (a1 : (List UInt8)) (r : Bool) (h : M36 F a1 = some r) : Pure Try.prog 36 [(sV a1)] (bV r) := by
 refine pin (fun r => (bV r)) r rfl Try.func36 rfl rfl rfl rfl rfl (fun w0 m0 hg => ?_)
 unfold M36 at h
 refine rn 9 rfl ?_
 refine jK h (fun _ : Unit => (⟨[(0, (sV a1))], [], 0⟩ : St)) (fun k2 (_ : Unit) => k2 = some r) (fun k2 h => ?_) ?_
 ·refine rn 1 rfl ?_
  refine ck h (fun hA15 h => ?_)
  refine lC (fun (p : Int) => (⟨[(0, (sV a1)), (3, (iV p))], [], 0⟩ : St)) (fun n p => RC (a1.length : Int) (fun tl nn => M36_L1 F a1 k2 tl nn = some r) n p) (fun p h => RC.zero h) (Int.toNat (a1.length : Int) + 1) 0 (RC.start h) (g0 rfl rfl) (fun n n4 h => ?_)
  refine rn 8 rfl ?_
  refine spL rfl (fun hb5 => ?_) (fun hb5 => ?_)
  ·obtain ⟨tl, h, hk1⟩ := RC.t hA15 h hb5
   unfold M36_L1 at h
   refine rn 7 rfl ?_
   refine ixs h rfl rfl (fun c6 hx7 h => ?_)
   refine rn 2 rfl ?_
   refine spO 14 h rfl (fun hb8 h => ?_) (fun hb8 h => ?_)
   ·refine rn 17 rfl ?_
    exact rt h rfl
   refine rn 2 rfl ?_
   refine ixs h rfl rfl (fun c9 hx10 h => ?_)
   refine rn 3 rfl ?_
   refine spO 20 h rfl (fun hb11 h => ?_) (fun hb11 h => ?_)
   ·refine rn 11 rfl ?_
    exact rt h rfl
   refine rn 2 rfl ?_
   refine ixs h rfl rfl (fun c12 hx13 h => ?_)
   refine rn 3 rfl ?_
   refine spC h rfl (fun hb14 h => ?_) (fun hb14 h => ?_)
   ·refine rn 4 rfl ?_
    exact rt h rfl
   refine rn 7 rfl ?_
   exact jX (w64 (n4 + 1)) (hk1 _ h) (g0 rfl rfl)
  replace h := RC.f h hb5
  unfold M36_L1 at h
  refine rn 1 rfl ?_
  exact jX () h (g0 rfl rfl)
 intro _ h
 refine rn 6 rfl ?_
 refine spO 29 h rfl (fun hb16 h => ?_) (fun hb16 h => ?_)
 ·refine rn 6 rfl ?_
  exact rt h rfl
 refine rn 6 rfl ?_
 exact rt h rfl
theorem W37 (F : Nat) (a1 : (List (List UInt8))) (a2 : Int) (r : Int) (h : M37 F a1 a2 = some r) : Pure Try.prog 37 [(V.lst 1 (a1.map encS)), (iV a2)] (iV r) := by
 refine pin (fun r => (iV r)) r rfl Try.func37 rfl rfl rfl rfl rfl (fun w0 m0 hg => ?_)
 unfold M37 at h
 refine rn 6 rfl ?_
 refine bs h (fun hb3 h => ?_) (fun hb3 h => ?_)
 ·obtain ⟨x4, hx5, h⟩ := bind_some h
  obtain ⟨x6, hx7, h⟩ := bind_some h
  refine dr mixed (vs 2 rfl (vb hb3 rfl (vs 2 rfl (iD hx5 rfl rfl rfl (vs 4 rfl (iD hx7 rfl rfl rfl (vs 3 rfl .nil))))))) (by kernel_rfl) ?_
  refine spC h rfl (fun hb8 h => ?_) (fun hb8 h => ?_)
  ·refine rn 4 rfl ?_
   exact rt h rfl
  refine rn 5 rfl ?_
  exact rt h rfl
 refine dr mixed (vs 2 rfl (vb hb3 rfl (vs 11 rfl .nil))) (by kernel_rfl) ?_
 refine rn 6 rfl ?_
 exact rt h rfl
theorem W46 (F : Nat) (a1 : Tprovenderref6_checker) (r : Int) (h : M46 F a1 = some r) : Pure Try.prog 46 [(V.agg (encTprovenderref6_checker a1))] (iV r) := by
 refine pin (fun r => (iV r)) r rfl Try.func46 rfl rfl rfl rfl rfl (fun w0 m0 hg => ?_)
 unfold M46 at h
 refine rn 15 rfl ?_
 refine ln rfl rfl ?_
 refine rn 2 rfl ?_
 refine jK h (fun _ : Unit => (⟨[], [], 0⟩ : St)) (fun k2 (_ : Unit) => k2 = some r) (fun k2 h => ?_) ?_
 ·refine rn 1 rfl ?_
  refine wl (A := a1.g.Ifaces) 11 rfl (fun hA31 => ?_)
  refine lC (fun (p : (List UInt8) × Int) => (⟨[(3, (sV (p.1))), (11, (V.lst 2 (a1.g.Ifaces.map encTIface))), (12, (iV ((a1.g.Ifaces.length : Nat) : Int))), (13, (iV (p.2)))], [], 0⟩ : St)) (fun n p => RG a1.g.Ifaces (fun tl nn => M46_L1 F k2 tl p.1 = some r) n p.2) (fun p h => RG.zero h) (a1.g.Ifaces.length + 1) (([] : List UInt8), 0) (RG.start h) (g0 rfl rfl) (fun n p h => ?_)
  obtain ⟨s5, n6⟩ := p
  refine rn 5 rfl ?_
  refine spL rfl (fun hb7 => ?_) (fun hb7 => ?_)
  ·obtain ⟨x10, tl, hx11, h, hk1⟩ := RG.t hA31 h hb7
   unfold M46_L1 at h
   refine rn 2 rfl ?_
   refine jK h (fun (p : (List UInt8)) => (⟨[(3, (sV p)), (11, (V.lst 2 (a1.g.Ifaces.map encTIface))), (12, (iV ((a1.g.Ifaces.length : Nat) : Int))), (13, (iV n6))], [], 0⟩ : St)) (fun k8 p => k8 p = some r) (fun k8 h => ?_) ?_
   ·refine rn 3 rfl ?_
    refine ixh hx11 rfl rfl ?_
    refine rn 10 rfl ?_
    refine cl h rfl rfl rfl (W36 _ _) rfl (fun y12 hx13 h => ?_)
    refine rn 3 rfl ?_
    refine spC h rfl (fun hb14 h => ?_) (fun hb14 h => ?_)
    ·refine rn 4 rfl ?_
     exact rt h rfl
    refine rn 8 rfl ?_
    refine spC h rfl (fun hb15 h => ?_) (fun hb15 h => ?_)
    ·refine rn 4 rfl ?_
     exact rt h rfl
    refine rn 4 rfl ?_
    refine ln rfl rfl ?_
    refine rn 3 rfl ?_
    refine spC h rfl (fun hb16 h => ?_) (fun hb16 h => ?_)
    ·refine rn 4 rfl ?_
     exact rt h rfl
    refine rn 4 rfl ?_
    refine ln rfl rfl ?_
    refine rn 3 rfl ?_
    refine spC h rfl (fun hb17 h => ?_) (fun hb17 h => ?_)
    ·refine rn 4 rfl ?_
     exact rt h rfl
    refine rn 12 rfl ?_
    refine ln rfl rfl ?_
    refine rn 2 rfl ?_
    refine jK h (fun _ : Unit => (⟨[(3, (sV x10.Name)), (11, (V.lst 2 (a1.g.Ifaces.map encTIface))), (12, (iV ((a1.g.Ifaces.length : Nat) : Int))), (13, (iV n6))], [], 0⟩ : St)) (fun k18 (_ : Unit) => k18 = some r) (fun k18 h => ?_) ?_
    ·refine rn 1 rfl ?_
     refine wl (A := x10.Methods) 29 rfl (fun hA30 => ?_)
     refine lC (fun (p : Int) => (⟨[(3, (sV x10.Name)), (5, (V.ptr 0 2 0 0)), (11, (V.lst 2 (a1.g.Ifaces.map encTIface))), (12, (iV ((a1.g.Ifaces.length : Nat) : Int))), (13, (iV n6)), (40, (V.lst 1 (x10.Methods.map encS))), (41, (iV ((x10.Methods.length : Nat) : Int))), (42, (iV p))], [(0, (Ob.arr 114 2 [(encTIface x10)]))], 1⟩ : St)) (fun n p => RG x10.Methods (fun tl nn => M46_L2 F x10 k18 tl nn = some r) n p) (fun p h => RG.zero h) (x10.Methods.length + 1) 0 (RG.start h) (gr [0] rfl (hB rfl rfl rfl .nil) rfl) (fun n n20 h => ?_)
     refine rn 5 rfl ?_
     refine spL rfl (fun hb21 => ?_) (fun hb21 => ?_)
     ·obtain ⟨x22, tl, hx23, h, hk2⟩ := RG.t hA30 h hb21
      unfold M46_L2 at h
      refine rn 6 rfl ?_
      refine ixh hx23 rfl rfl ?_
      refine rn 8 rfl ?_
      refine cl h rfl rfl rfl (W36 _ _) rfl (fun y24 hx25 h => ?_)
      refine rn 2 rfl ?_
      refine spC h rfl (fun hb26 h => ?_) (fun hb26 h => ?_)
      ·refine rn 4 rfl ?_
       exact rt h rfl
      refine rn 6 rfl ?_
      refine cl h rfl rfl rfl (W37 _ _ _) rfl (fun y27 hx28 h => ?_)
      refine rn 7 rfl ?_
      refine spC h rfl (fun hb29 h => ?_) (fun hb29 h => ?_)
      ·refine rn 5 rfl ?_
       exact rt h rfl
      refine rn 6 rfl ?_
      exact jX (w64 (n20 + 1)) (hk2 _ h) (gr [0] rfl (hB rfl rfl rfl .nil) rfl)
     replace h := RG.f h hb21
     unfold M46_L2 at h
     refine rn 1 rfl ?_
     exact jX () h (g0 rfl rfl)
    intro _ h
    refine rn 1 rfl ?_
    exact jX x10.Name h (g0 rfl rfl)
   intro s9 h
   refine rn 4 rfl ?_
   exact jX (s9, (w64 (n6 + 1))) (hk1 _ h) (g0 rfl rfl)
  replace h := RG.f h hb7
  unfold M46_L1 at h
  refine rn 1 rfl ?_
  exact jX () h (g0 rfl rfl)
 intro _ h
 refine rn 4 rfl ?_
 exact rt h rfl
theorem W47 (F : Nat) (a1 : Tprovenderref6_checker) (r : Int) (h : M47 F a1 = some r) : Pure Try.prog 47 [(V.agg (encTprovenderref6_checker a1))] (iV r) := by
 refine pin (fun r => (iV r)) r rfl Try.func47 rfl rfl rfl rfl rfl (fun w0 m0 hg => ?_)
 unfold M47 at h
 refine rn 15 rfl ?_
 refine ln rfl rfl ?_
 refine rn 2 rfl ?_
 refine jK h (fun _ : Unit => (⟨[], [], 0⟩ : St)) (fun k2 (_ : Unit) => k2 = some r) (fun k2 h => ?_) ?_
 ·refine rn 1 rfl ?_
  refine wl (A := a1.g.Types) 11 rfl (fun hA33 => ?_)
  refine lC (fun (p : (List UInt8) × Int) => (⟨[(1, (V.ptr 0 8 0 0)), (3, (sV (p.1))), (11, (V.lst 2 (a1.g.Types.map encTType))), (12, (iV ((a1.g.Types.length : Nat) : Int))), (13, (iV (p.2)))], [(0, (Ob.arr 92 8 [(encTprovenderref6_checker a1)]))], 1⟩ : St)) (fun n p => RG a1.g.Types (fun tl nn => M47_L1 F a1 k2 tl p.1 = some r) n p.2) (fun p h => RG.zero h) (a1.g.Types.length + 1) (([] : List UInt8), 0) (RG.start h) (gr [0] rfl (hB rfl rfl rfl .nil) rfl) (fun n p h => ?_)
  obtain ⟨s5, n6⟩ := p
  refine rn 5 rfl ?_
  refine spL rfl (fun hb7 => ?_) (fun hb7 => ?_)
  ·obtain ⟨x10, tl, hx11, h, hk1⟩ := RG.t hA33 h hb7
   unfold M47_L1 at h
   refine rn 2 rfl ?_
   refine jK h (fun (p : (List UInt8)) => (⟨[(1, (V.ptr 0 8 0 0)), (3, (sV p)), (11, (V.lst 2 (a1.g.Types.map encTType))), (12, (iV ((a1.g.Types.length : Nat) : Int))), (13, (iV n6))], [(0, (Ob.arr 92 8 [(encTprovenderref6_checker a1)]))], 1⟩ : St)) (fun k8 p => k8 p = some r) (fun k8 h => ?_) ?_
   ·refine rn 3 rfl ?_
    refine ixh hx11 rfl rfl ?_
    refine rn 10 rfl ?_
    refine cl h rfl rfl rfl (W36 _ _) rfl (fun y12 hx13 h => ?_)
    refine rn 3 rfl ?_
    refine spC h rfl (fun hb14 h => ?_) (fun hb14 h => ?_)
    ·refine rn 4 rfl ?_
     exact rt h rfl
    refine rn 8 rfl ?_
    refine spC h rfl (fun hb15 h => ?_) (fun hb15 h => ?_)
    ·refine rn 4 rfl ?_
     exact rt h rfl
    refine rn 4 rfl ?_
    refine ln rfl rfl ?_
    refine rn 3 rfl ?_
    refine spC h rfl (fun hb16 h => ?_) (fun hb16 h => ?_)
    ·refine rn 4 rfl ?_
     exact rt h rfl
    refine rn 16 rfl ?_
    refine ln rfl rfl ?_
    refine rn 2 rfl ?_
    refine jK h (fun _ : Unit => (⟨[(1, (V.ptr 0 8 0 0)), (3, (sV x10.Name)), (11, (V.lst 2 (a1.g.Types.map encTType))), (12, (iV ((a1.g.Types.length : Nat) : Int))), (13, (iV n6))], [(0, (Ob.arr 92 8 [(encTprovenderref6_checker a1)]))], 1⟩ : St)) (fun k17 (_ : Unit) => k17 = some r) (fun k17 h => ?_) ?_
    ·refine rn 1 rfl ?_
     refine wl (A := x10.Methods) 29 rfl (fun hA32 => ?_)
     refine lC (fun (p : (List UInt8) × Int) => (⟨[(1, (V.ptr 0 8 0 0)), (3, (sV x10.Name)), (6, (sV (p.1))), (11, (V.lst 2 (a1.g.Types.map encTType))), (12, (iV ((a1.g.Types.length : Nat) : Int))), (13, (iV n6)), (35, (V.lst 2 (x10.Methods.map encTMethod))), (36, (iV ((x10.Methods.length : Nat) : Int))), (37, (iV (p.2)))], [(0, (Ob.arr 92 8 [(encTprovenderref6_checker a1)]))], 1⟩ : St)) (fun n p => RG x10.Methods (fun tl nn => M47_L2 F a1 k17 tl p.1 = some r) n p.2) (fun p h => RG.zero h) (x10.Methods.length + 1) (([] : List UInt8), 0) (RG.start h) (gr [0] rfl (hB rfl rfl rfl .nil) rfl) (fun n p h => ?_)
     obtain ⟨s20, n21⟩ := p
     refine rn 5 rfl ?_
     refine spL rfl (fun hb22 => ?_) (fun hb22 => ?_)
     ·obtain ⟨x23, tl, hx24, h, hk2⟩ := RG.t hA32 h hb22
      unfold M47_L2 at h
      refine rn 5 rfl ?_
      refine ixh hx24 rfl rfl ?_
      refine rn 10 rfl ?_
      refine cl h rfl rfl rfl (W36 _ _) rfl (fun y25 hx26 h => ?_)
      refine rn 3 rfl ?_
      refine jK h (fun _ : Unit => (⟨[(1, (V.ptr 0 8 0 0)), (3, (sV x10.Name)), (8, (V.ptr 1 2 0 0)), (11, (V.lst 2 (a1.g.Types.map encTType))), (12, (iV ((a1.g.Types.length : Nat) : Int))), (13, (iV n6)), (35, (V.lst 2 (x10.Methods.map encTMethod))), (36, (iV ((x10.Methods.length : Nat) : Int))), (37, (iV n21))], [(0, (Ob.arr 92 8 [(encTprovenderref6_checker a1)])), (1, (Ob.arr 129 2 [(encTMethod x23)]))], 2⟩ : St)) (fun k27 (_ : Unit) => k27 = some r) (fun k27 h => ?_) ?_
      ·refine spC h rfl (fun hb28 h => ?_) (fun hb28 h => ?_)
       ·refine rn 4 rfl ?_
        exact rt h rfl
       refine rn 8 rfl ?_
       refine spC h rfl (fun hb29 h => ?_) (fun hb29 h => ?_)
       ·refine rn 4 rfl ?_
        exact rt h rfl
       refine rn 6 rfl ?_
       refine spO 55 h rfl (fun hb30 h => ?_) (fun hb30 h => ?_)
       ·refine rn 5 rfl ?_
        refine aops_lookup _ (bV false) (bV ((mget a1.n.funcs x23.Func).getD false)) tMap52 tKey9 tZo4 (irel_con _) (wants_some (c := true) (b := true) 55 rfl rfl rfl) rfl .imm (.con rfl) ⟨_, rfl⟩ encM9_4_good (encM9_4_look a1.n.funcs x23.Func) (getD_map (encM9_4_val) (mget a1.n.funcs x23.Func) false) rfl ?_
        refine fo (rn 4 rfl ?_)
        refine spC h rfl (fun hb31 h => ?_) (fun hb31 h => ?_)
        ·refine rn 4 rfl ?_
         exact rt h rfl
        refine rn 1 rfl ?_
        exact jX () h (gr [0, 1] rfl (hB rfl rfl rfl (hB rfl rfl rfl .nil)) rfl)
       refine rn 12 rfl ?_
       exact jX () h (gr [0, 1] rfl (hB rfl rfl rfl (hB rfl rfl rfl .nil)) rfl)
      intro _ h
      refine rn 11 rfl ?_
      exact jX (x23.Name, (w64 (n21 + 1))) (hk2 _ h) (gr [0] rfl (hB rfl rfl rfl .nil) rfl)
     replace h := RG.f h hb22
     unfold M47_L2 at h
     refine rn 1 rfl ?_
     exact jX () h (gr [0] rfl (hB rfl rfl rfl .nil) rfl)
    intro _ h
    refine rn 1 rfl ?_
    exact jX x10.Name h (gr [0] rfl (hB rfl rfl rfl .nil) rfl)
   intro s9 h
   refine rn 4 rfl ?_
   exact jX (s9, (w64 (n6 + 1))) (hk1 _ h) (gr [0] rfl (hB rfl rfl rfl .nil) rfl)
  replace h := RG.f h hb7
  unfold M47_L1 at h
  refine rn 1 rfl ?_
  exact jX () h (g0 rfl rfl)
 intro _ h
 refine rn 4 rfl ?_
 exact rt h rfl
theorem W60 (F : Nat) (a1 : Tprovenderref6_checker) (a2 : TCall) (r : Int) (h : M60 F a1 a2 = some r) : Pure Try.prog 60 [(V.agg (encTprovenderref6_checker a1)), (V.agg (encTCall a2))] (iV r) := by
 refine pin (fun r => (iV r)) r rfl Try.func60 rfl rfl rfl rfl rfl (fun w0 m0 hg => ?_)
 unfold M60 at h
 refine rn 18 rfl ?_
 refine jK h (fun _ : Unit => (⟨[(3, (V.ptr 0 4 0 0))], [(0, (Ob.arr 59 4 [(encTCall a2)]))], 1⟩ : St)) (fun k3 (_ : Unit) => k3 = some r) (fun k3 h => ?_) ?_
 ·refine spC h rfl (fun hb4 h => ?_) (fun hb4 h => ?_)
  ·refine rn 7 rfl ?_
   refine spO 14 h rfl (fun hb5 h => ?_) (fun hb5 h => ?_)
   ·refine rn 5 rfl ?_
    refine aops_lookup _ (bV false) (bV ((mget a1.n.funcs a2.Target).getD false)) tMap52 tKey9 tZo4 (irel_con _) (wants_some (c := true) (b := true) 14 rfl rfl rfl) rfl .imm (.con rfl) ⟨_, rfl⟩ encM9_4_good (encM9_4_look a1.n.funcs a2.Target) (getD_map (encM9_4_val) (mget a1.n.funcs a2.Target) false) rfl ?_
    refine fo (rn 3 rfl ?_)
    refine spC h rfl (fun hb6 h => ?_) (fun hb6 h => ?_)
    ·refine rn 4 rfl ?_
     exact rt h rfl
    refine rn 7 rfl ?_
    refine spC h rfl (fun hb7 h => ?_) (fun hb7 h => ?_)
    ·refine rn 4 rfl ?_
     exact rt h rfl
    refine rn 1 rfl ?_
    exact jX () h (gr [1] rfl (hB rfl rfl rfl .nil) rfl)
   refine rn 17 rfl ?_
   refine spC h rfl (fun hb8 h => ?_) (fun hb8 h => ?_)
   ·refine rn 4 rfl ?_
    exact rt h rfl
   refine rn 1 rfl ?_
   exact jX () h (gr [1] rfl (hB rfl rfl rfl .nil) rfl)
  refine rn 5 rfl ?_
  refine spC h rfl (fun hb9 h => ?_) (fun hb9 h => ?_)
  ·refine rn 7 rfl ?_
   refine bs h (fun hb10 h => ?_) (fun hb10 h => ?_)
   ·refine aops_lookup_okB _ (V.con (.map none)) (V.imap (((mget a1.n.ifaces a2.Target).getD []).map encM9_4)) tMap87 tKey9 tZo52 (irel_con _) wants_none rfl .imm (.con rfl) ⟨_, rfl⟩ encM9_52_good (encM9_52_look a1.n.ifaces a2.Target) (getD_mapT (y := []) hb10) (isSomeT hb10) rfl ?_
    refine fo (rn 12 rfl ?_)
    refine spO 40 h rfl (fun hb11 h => ?_) (fun hb11 h => ?_)
    ·refine rn 6 rfl ?_
     refine aops_lookup _ (bV false) (bV ((mget ((mget a1.n.ifaces a2.Target).getD []) a2.Method).getD false)) tMap52 tKey9 tZo4 (irel_con _) (wants_some (c := false) (b := false) 43 rfl rfl rfl) rfl .imm (.con rfl) ⟨_, rfl⟩ encM9_4_good (encM9_4_look ((mget a1.n.ifaces a2.Target).getD []) a2.Method) (getD_map (encM9_4_val) (mget ((mget a1.n.ifaces a2.Target).getD []) a2.Method) false) rfl ?_
     refine fo (rn 4 rfl ?_)
     refine spC h rfl (fun hb12 h => ?_) (fun hb12 h => ?_)
     ·refine rn 4 rfl ?_
      exact rt h rfl
     refine rn 1 rfl ?_
     exact jX () h (gr [1] rfl (hB rfl rfl rfl .nil) rfl)
    refine rn 13 rfl ?_
    exact jX () h (gr [1] rfl (hB rfl rfl rfl .nil) rfl)
   refine aops_lookup_okB _ (V.con (.map none)) (V.con (.map none)) tMap87 tKey9 tZo52 (irel_con _) wants_none rfl .imm (.con rfl) ⟨_, rfl⟩ encM9_52_good (encM9_52_look a1.n.ifaces a2.Target) (getD_mapF hb10) (isSomeT hb10) rfl ?_
   refine fo (rn 12 rfl ?_)
   refine spO 40 h rfl (fun hb13 h => ?_) (fun hb13 h => ?_)
   ·refine rn 16 rfl ?_
    exact rt h rfl
   refine rn 13 rfl ?_
   exact jX () h (gr [1] rfl (hB rfl rfl rfl .nil) rfl)
  refine rn 4 rfl ?_
  exact rt h rfl
 intro _ h
 refine rn 8 rfl ?_
 refine spO 54 h rfl (fun hb14 h => ?_) (fun hb14 h => ?_)
 ·refine rn 2 rfl ?_
  refine cl h rfl rfl rfl (W36 _ _) rfl (fun y15 hx16 h => ?_)
  refine rn 3 rfl ?_
  refine spC h rfl (fun hb17 h => ?_) (fun hb17 h => ?_)
  ·refine rn 4 rfl ?_
   exact rt h rfl
  refine rn 5 rfl ?_
  exact rt h rfl
 refine rn 12 rfl ?_
 exact rt h rfl
theorem W48 (F : Nat) (a1 : Tprovenderref6_checker) (r : Int) (h : M48 F a1 = some r) : Pure Try.prog 48 [(V.agg (encTprovenderref6_checker a1))] (iV r) := by
 refine pin (fun r => (iV r)) r rfl Try.func48 rfl rfl rfl rfl rfl (fun w0 m0 hg => ?_)
 unfold M48 at h
 refine rn 15 rfl ?_
 refine ln rfl rfl ?_
 refine rn 2 rfl ?_
 refine jK h (fun _ : Unit => (⟨[], [], 0⟩ : St)) (fun k2 (_ : Unit) => k2 = some r) (fun k2 h => ?_) ?_
 ·refine rn 1 rfl ?_
  refine wl (A := a1.g.Funcs) 14 rfl (fun hA46 => ?_)
  refine lC (fun (p : (List UInt8) × Int) => (⟨[(1, (V.ptr 0 8 0 0)), (3, (sV (p.1))), (14, (V.lst 4 (a1.g.Funcs.map encTFunc))), (15, (iV ((a1.g.Funcs.length : Nat) : Int))), (16, (iV (p.2)))], [(0, (Ob.arr 92 8 [(encTprovenderref6_checker a1)]))], 1⟩ : St)) (fun n p => RG a1.g.Funcs (fun tl nn => M48_L1 F a1 k2 tl p.1 = some r) n p.2) (fun p h => RG.zero h) (a1.g.Funcs.length + 1) (([] : List UInt8), 0) (RG.start h) (gr [0] rfl (hB rfl rfl rfl .nil) rfl) (fun n p h => ?_)
  obtain ⟨s5, n6⟩ := p
  refine rn 5 rfl ?_
  refine spL rfl (fun hb7 => ?_) (fun hb7 => ?_)
  ·obtain ⟨x10, tl, hx11, h, hk1⟩ := RG.t hA46 h hb7
   unfold M48_L1 at h
   refine rn 2 rfl ?_
   refine jK h (fun (p : (List UInt8)) => (⟨[(1, (V.ptr 0 8 0 0)), (3, (sV p)), (14, (V.lst 4 (a1.g.Funcs.map encTFunc))), (15, (iV ((a1.g.Funcs.length : Nat) : Int))), (16, (iV n6))], [(0, (Ob.arr 92 8 [(encTprovenderref6_checker a1)]))], 1⟩ : St)) (fun k8 p => k8 p = some r) (fun k8 h => ?_) ?_
   ·refine rn 3 rfl ?_
    refine ixh hx11 rfl rfl ?_
    refine rn 10 rfl ?_
    refine cl h rfl rfl rfl (W36 _ _) rfl (fun y12 hx13 h => ?_)
    refine rn 3 rfl ?_
    refine spC h rfl (fun hb14 h => ?_) (fun hb14 h => ?_)
    ·refine rn 4 rfl ?_
     exact rt h rfl
    refine rn 8 rfl ?_
    refine spC h rfl (fun hb15 h => ?_) (fun hb15 h => ?_)
    ·refine rn 4 rfl ?_
     exact rt h rfl
    refine rn 4 rfl ?_
    refine cl h rfl rfl rfl (W36 _ _) rfl (fun y16 hx17 h => ?_)
    refine rn 3 rfl ?_
    refine spC h rfl (fun hb18 h => ?_) (fun hb18 h => ?_)
    ·refine rn 4 rfl ?_
     exact rt h rfl
    refine rn 4 rfl ?_
    refine ln rfl rfl ?_
    refine rn 3 rfl ?_
    refine spC h rfl (fun hb19 h => ?_) (fun hb19 h => ?_)
    ·refine rn 4 rfl ?_
     exact rt h rfl
    refine rn 13 rfl ?_
    refine ln rfl rfl ?_
    refine rn 2 rfl ?_
    refine jK h (fun _ : Unit => (⟨[(1, (V.ptr 0 8 0 0)), (3, (sV x10.Name)), (5, (V.ptr 1 4 0 0)), (14, (V.lst 4 (a1.g.Funcs.map encTFunc))), (15, (iV ((a1.g.Funcs.length : Nat) : Int))), (16, (iV n6))], [(0, (Ob.arr 92 8 [(encTprovenderref6_checker a1)])), (1, (Ob.arr 62 4 [(encTFunc x10)]))], 2⟩ : St)) (fun k20 (_ : Unit) => k20 = some r) (fun k20 h => ?_) ?_
    ·refine rn 1 rfl ?_
     refine wl (A := x10.Calls) 37 rfl (fun hA29 => ?_)
     refine lC (fun (p : Int) => (⟨[(1, (V.ptr 0 8 0 0)), (3, (sV x10.Name)), (5, (V.ptr 1 4 0 0)), (14, (V.lst 4 (a1.g.Funcs.map encTFunc))), (15, (iV ((a1.g.Funcs.length : Nat) : Int))), (16, (iV n6)), (43, (V.lst 4 (x10.Calls.map encTCall))), (44, (iV ((x10.Calls.length : Nat) : Int))), (45, (iV p))], [(0, (Ob.arr 92 8 [(encTprovenderref6_checker a1)])), (1, (Ob.arr 62 4 [(encTFunc x10)]))], 2⟩ : St)) (fun n p => RG x10.Calls (fun tl nn => M48_L2 F a1 k20 tl = some r) n p) (fun p h => RG.zero h) (x10.Calls.length + 1) 0 (RG.start h) (gr [0, 1] rfl (hB rfl rfl rfl (hB rfl rfl rfl .nil)) rfl) (fun n n22 h => ?_)
     refine rn 5 rfl ?_
     refine spL rfl (fun hb23 => ?_) (fun hb23 => ?_)
     ·obtain ⟨x24, tl, hx25, h, hk2⟩ := RG.t hA29 h hb23
      unfold M48_L2 at h
      refine rn 5 rfl ?_
      refine ixh hx25 rfl rfl ?_
      refine rn 8 rfl ?_
      refine cl h rfl rfl rfl (W60 _ _ _) rfl (fun y26 hx27 h => ?_)
      refine rn 7 rfl ?_
      refine spC h rfl (fun hb28 h => ?_) (fun hb28 h => ?_)
      ·refine rn 5 rfl ?_
       exact rt h rfl
      refine rn 6 rfl ?_
      exact jX (w64 (n22 + 1)) (hk2 _ h) (gr [0, 1] rfl (hB rfl rfl rfl (hB rfl rfl rfl .nil)) rfl)
     replace h := RG.f h hb23
     unfold M48_L2 at h
     refine rn 1 rfl ?_
     exact jX () h (gr [0, 1] rfl (hB rfl rfl rfl (hB rfl rfl rfl .nil)) rfl)
    intro _ h
    refine rn 4 rfl ?_
    refine ln rfl rfl ?_
    refine rn 2 rfl ?_
    refine jK h (fun _ : Unit => (⟨[(1, (V.ptr 0 8 0 0)), (3, (sV x10.Name)), (14, (V.lst 4 (a1.g.Funcs.map encTFunc))), (15, (iV ((a1.g.Funcs.length : Nat) : Int))), (16, (iV n6))], [(0, (Ob.arr 92 8 [(encTprovenderref6_checker a1)]))], 1⟩ : St)) (fun k30 (_ : Unit) => k30 = some r) (fun k30 h => ?_) ?_
    ·refine rn 1 rfl ?_
     refine wl (A := x10.Makes) 57 rfl (fun hA45 => ?_)
     refine lC (fun (p : Int) => (⟨[(1, (V.ptr 0 8 0 0)), (3, (sV x10.Name)), (5, (V.ptr 1 4 0 0)), (14, (V.lst 4 (a1.g.Funcs.map encTFunc))), (15, (iV ((a1.g.Funcs.length : Nat) : Int))), (16, (iV n6)), (57, (V.lst 1 (x10.Makes.map encS))), (58, (iV ((x10.Makes.length : Nat) : Int))), (59, (iV p))], [(0, (Ob.arr 92 8 [(encTprovenderref6_checker a1)])), (1, (Ob.arr 62 4 [(encTFunc x10)]))], 2⟩ : St)) (fun n p => RG x10.Makes (fun tl nn => M48_L3 F a1 x10 k30 tl nn = some r) n p) (fun p h => RG.zero h) (x10.Makes.length + 1) 0 (RG.start h) (gr [0, 1] rfl (hB rfl rfl rfl (hB rfl rfl rfl .nil)) rfl) (fun n n32 h => ?_)
     refine rn 5 rfl ?_
     refine spL rfl (fun hb33 => ?_) (fun hb33 => ?_)
     ·obtain ⟨x35, tl, hx36, h, hk3⟩ := RG.t hA45 h hb33
      unfold M48_L3 at h
      refine rn 2 rfl ?_
      refine jK h (fun _ : Unit => (⟨[(1, (V.ptr 0 8 0 0)), (3, (sV x10.Name)), (5, (V.ptr 1 4 0 0)), (14, (V.lst 4 (a1.g.Funcs.map encTFunc))), (15, (iV ((a1.g.Funcs.length : Nat) : Int))), (16, (iV n6)), (57, (V.lst 1 (x10.Makes.map encS))), (58, (iV ((x10.Makes.length : Nat) : Int))), (59, (iV n32))], [(0, (Ob.arr 92 8 [(encTprovenderref6_checker a1)])), (1, (Ob.arr 62 4 [(encTFunc x10)]))], 2⟩ : St)) (fun k34 (_ : Unit) => k34 = some r) (fun k34 h => ?_) ?_
      ·refine rn 4 rfl ?_
       refine ixh hx36 rfl rfl ?_
       refine rn 11 rfl ?_
       refine spO 67 h rfl (fun hb37 h => ?_) (fun hb37 h => ?_)
       ·refine rn 4 rfl ?_
        refine aops_lookup _ (bV false) (bV ((mget a1.n.types x35).getD false)) tMap52 tKey9 tZo4 (irel_con _) (wants_some (c := true) (b := true) 67 rfl rfl rfl) rfl .imm (.con rfl) ⟨_, rfl⟩ encM9_4_good (encM9_4_look a1.n.types x35) (getD_map (encM9_4_val) (mget a1.n.types x35) false) rfl ?_
        refine fo (rn 3 rfl ?_)
        refine spC h rfl (fun hb38 h => ?_) (fun hb38 h => ?_)
        ·refine rn 4 rfl ?_
         exact rt h rfl
        refine rn 6 rfl ?_
        refine cl h rfl rfl rfl (W37 _ _ _) rfl (fun y39 hx40 h => ?_)
        refine rn 7 rfl ?_
        refine spC h rfl (fun hb41 h => ?_) (fun hb41 h => ?_)
        ·refine rn 5 rfl ?_
         exact rt h rfl
        refine rn 2 rfl ?_
        exact jX () h (gr [0, 1] rfl (hB rfl rfl rfl (hB rfl rfl rfl .nil)) rfl)
       refine rn 15 rfl ?_
       refine cl h rfl rfl rfl (W37 _ _ _) rfl (fun y42 hx43 h => ?_)
       refine rn 7 rfl ?_
       refine spC h rfl (fun hb44 h => ?_) (fun hb44 h => ?_)
       ·refine rn 5 rfl ?_
        exact rt h rfl
       refine rn 2 rfl ?_
       exact jX () h (gr [0, 1] rfl (hB rfl rfl rfl (hB rfl rfl rfl .nil)) rfl)
      intro _ h
      refine rn 4 rfl ?_
      exact jX (w64 (n32 + 1)) (hk3 _ h) (gr [0, 1] rfl (hB rfl rfl rfl (hB rfl rfl rfl .nil)) rfl)
     replace h := RG.f h hb33
     unfold M48_L3 at h
     refine rn 1 rfl ?_
     exact jX () h (gr [0] rfl (hB rfl rfl rfl .nil) rfl)
    intro _ h
    refine rn 1 rfl ?_
    exact jX x10.Name h (gr [0] rfl (hB rfl rfl rfl .nil) rfl)
   intro s9 h
   refine rn 4 rfl ?_
   exact jX (s9, (w64 (n6 + 1))) (hk1 _ h) (gr [0] rfl (hB rfl rfl rfl .nil) rfl)
  replace h := RG.f h hb7
  unfold M48_L1 at h
  refine rn 1 rfl ?_
  exact jX () h (g0 rfl rfl)
 intro _ h
 refine rn 4 rfl ?_
 exact rt h rfl
theorem W35 (F : Nat) (a1 : Tprovenderref6_checker) (r : Int) (h : M35 F a1 = some r) : Pure Try.prog 35 [(V.agg (encTprovenderref6_checker a1))] (iV r) := by
 refine pin (fun r => (iV r)) r rfl Try.func35 rfl rfl rfl rfl rfl (fun w0 m0 hg => ?_)
 unfold M35 at h
 refine rn 11 rfl ?_
 refine ln rfl rfl ?_
 refine rn 2 rfl ?_
 refine spO 14 h rfl (fun hb2 h => ?_) (fun hb2 h => ?_)
 ·refine rn 19 rfl ?_
  exact rt h rfl
 refine rn 3 rfl ?_
 refine ln rfl rfl ?_
 refine rn 3 rfl ?_
 refine spO 21 h rfl (fun hb3 h => ?_) (fun hb3 h => ?_)
 ·refine rn 12 rfl ?_
  exact rt h rfl
 refine rn 3 rfl ?_
 refine ln rfl rfl ?_
 refine rn 3 rfl ?_
 refine spC h rfl (fun hb4 h => ?_) (fun hb4 h => ?_)
 ·refine rn 4 rfl ?_
  exact rt h rfl
 refine rn 5 rfl ?_
 refine cl h rfl rfl rfl (W46 _ _) rfl (fun y5 hx6 h => ?_)
 refine rn 7 rfl ?_
 refine spC h rfl (fun hb7 h => ?_) (fun hb7 h => ?_)
 ·refine rn 5 rfl ?_
  exact rt h rfl
 refine rn 5 rfl ?_
 refine cl h rfl rfl rfl (W47 _ _) rfl (fun y8 hx9 h => ?_)
 refine rn 7 rfl ?_
 refine spC h rfl (fun hb10 h => ?_) (fun hb10 h => ?_)
 ·refine rn 5 rfl ?_
  exact rt h rfl
 refine rn 5 rfl ?_
 refine cl h rfl rfl rfl (W48 _ _) rfl (fun y11 hx12 h => ?_)
 refine rn 7 rfl ?_
 refine spC h rfl (fun hb13 h => ?_) (fun hb13 h => ?_)
 ·refine rn 5 rfl ?_
  exact rt h rfl
 refine rn 7 rfl ?_
 refine ln rfl rfl ?_
 refine rn 2 rfl ?_
 refine jK h (fun _ : Unit => (⟨[], [], 0⟩ : St)) (fun k14 (_ : Unit) => k14 = some r) (fun k14 h => ?_) ?_
 ·refine rn 1 rfl ?_
  refine wl (A := a1.g.Entries) 45 rfl (fun hA29 => ?_)
  refine lC (fun (p : Int) => (⟨[(1, (V.ptr 0 8 0 0)), (45, (V.lst 1 (a1.g.Entries.map encS))), (46, (iV ((a1.g.Entries.length : Nat) : Int))), (47, (iV p))], [(0, (Ob.arr 92 8 [(encTprovenderref6_checker a1)]))], 1⟩ : St)) (fun n p => RG a1.g.Entries (fun tl nn => M35_L1 F a1 k14 tl nn = some r) n p) (fun p h => RG.zero h) (a1.g.Entries.length + 1) 0 (RG.start h) (gr [0] rfl (hB rfl rfl rfl .nil) rfl) (fun n n16 h => ?_)
  refine rn 5 rfl ?_
  refine spL rfl (fun hb17 => ?_) (fun hb17 => ?_)
  ·obtain ⟨x19, tl, hx20, h, hk1⟩ := RG.t hA29 h hb17
   unfold M35_L1 at h
   refine rn 2 rfl ?_
   refine jK h (fun _ : Unit => (⟨[(1, (V.ptr 0 8 0 0)), (45, (V.lst 1 (a1.g.Entries.map encS))), (46, (iV ((a1.g.Entries.length : Nat) : Int))), (47, (iV n16))], [(0, (Ob.arr 92 8 [(encTprovenderref6_checker a1)]))], 1⟩ : St)) (fun k18 (_ : Unit) => k18 = some r) (fun k18 h => ?_) ?_
   ·refine rn 4 rfl ?_
    refine ixh hx20 rfl rfl ?_
    refine rn 11 rfl ?_
    refine spO 55 h rfl (fun hb21 h => ?_) (fun hb21 h => ?_)
    ·refine rn 4 rfl ?_
     refine aops_lookup _ (bV false) (bV ((mget a1.n.funcs x19).getD false)) tMap52 tKey9 tZo4 (irel_con _) (wants_some (c := true) (b := true) 55 rfl rfl rfl) rfl .imm (.con rfl) ⟨_, rfl⟩ encM9_4_good (encM9_4_look a1.n.funcs x19) (getD_map (encM9_4_val) (mget a1.n.funcs x19) false) rfl ?_
     refine fo (rn 3 rfl ?_)
     refine spC h rfl (fun hb22 h => ?_) (fun hb22 h => ?_)
     ·refine rn 4 rfl ?_
      exact rt h rfl
     refine rn 7 rfl ?_
     refine cl h rfl rfl rfl (W37 _ _ _) rfl (fun y23 hx24 h => ?_)
     refine rn 7 rfl ?_
     refine spC h rfl (fun hb25 h => ?_) (fun hb25 h => ?_)
     ·refine rn 5 rfl ?_
      exact rt h rfl
     refine rn 2 rfl ?_
     exact jX () h (gr [0] rfl (hB rfl rfl rfl .nil) rfl)
    refine rn 16 rfl ?_
    refine cl h rfl rfl rfl (W37 _ _ _) rfl (fun y26 hx27 h => ?_)
    refine rn 7 rfl ?_
    refine spC h rfl (fun hb28 h => ?_) (fun hb28 h => ?_)
    ·refine rn 5 rfl ?_
     exact rt h rfl
    refine rn 2 rfl ?_
    exact jX () h (gr [0] rfl (hB rfl rfl rfl .nil) rfl)
   intro _ h
   refine rn 4 rfl ?_
   exact jX (w64 (n16 + 1)) (hk1 _ h) (gr [0] rfl (hB rfl rfl rfl .nil) rfl)
  replace h := RG.f h hb17
  unfold M35_L1 at h
  refine rn 1 rfl ?_
  exact jX () h (g0 rfl rfl)
 intro _ h
 refine rn 4 rfl ?_
 exact rt h rfl
theorem W24 (F : Nat) (a1 : TGraph) (r : Int) (h : M24 F a1 = some r) : Pure Try.prog 24 [(V.agg (encTGraph a1))] (iV r) := by
 refine pin (fun r => (iV r)) r rfl Try.func24 rfl rfl rfl rfl rfl (fun w0 m0 hg => ?_)
 unfold M24 at h
 obtain ⟨y2, hx3, h⟩ := bind_some h
 obtain ⟨y4, hx5, h⟩ := bind_some h
 refine rn 6 rfl ?_
 refine dr mixed (vs 2 rfl (cD rfl rfl rfl rfl (W34 _ _ _ hx3) rfl (vs 1 rfl (cD rfl rfl rfl rfl (W35 _ _ _ hx5) rfl (vs 1 rfl .nil))))) (by kernel_rfl) ?_
 exact rt h rfl
theorem W25 (F : Nat) (a1 : (List (List UInt8))) (r : Int) (h : M25 F a1 = some r) : Pure Try.prog 25 [(V.lst 1 (a1.map encS))] (iV r) := by
 refine pin (fun r => (iV r)) r rfl Try.func25 rfl rfl rfl rfl rfl (fun w0 m0 hg => ?_)
 unfold M25 at h
 refine rn 8 rfl ?_
 refine ln rfl rfl ?_
 refine rn 2 rfl ?_
 refine spC h rfl (fun hb2 h => ?_) (fun hb2 h => ?_)
 ·refine rn 4 rfl ?_
  exact rt h rfl
 refine rn 5 rfl ?_
 refine ln rfl rfl ?_
 refine rn 2 rfl ?_
 refine jK h (fun _ : Unit => (⟨[], [], 0⟩ : St)) (fun k3 (_ : Unit) => k3 = some r) (fun k3 h => ?_) ?_
 ·refine rn 1 rfl ?_
  refine wl (A := a1) 0 rfl (fun hA15 => ?_)
  refine lC (fun (p : Int) => (⟨[(0, (V.lst 1 (a1.map encS))), (9, (V.lst 1 (a1.map encS))), (10, (iV ((a1.length : Nat) : Int))), (11, (iV p))], [], 0⟩ : St)) (fun n p => RG a1 (fun tl nn => M25_L1 F a1 k3 tl nn = some r) n p) (fun p h => RG.zero h) (a1.length + 1) 0 (RG.start h) (g0 rfl rfl) (fun n n5 h => ?_)
  refine rn 5 rfl ?_
  refine spL rfl (fun hb6 => ?_) (fun hb6 => ?_)
  ·obtain ⟨x7, tl, hx8, h, hk1⟩ := RG.t hA15 h hb6
   unfold M25_L1 at h
   refine rn 6 rfl ?_
   refine ixh hx8 rfl rfl ?_
   refine rn 8 rfl ?_
   refine cl h rfl rfl rfl (W36 _ _) rfl (fun y9 hx10 h => ?_)
   refine rn 2 rfl ?_
   refine spC h rfl (fun hb11 h => ?_) (fun hb11 h => ?_)
   ·refine rn 4 rfl ?_
    exact rt h rfl
   refine rn 5 rfl ?_
   refine cl h rfl rfl rfl (W37 _ _ _) rfl (fun y12 hx13 h => ?_)
   refine rn 7 rfl ?_
   refine spC h rfl (fun hb14 h => ?_) (fun hb14 h => ?_)
   ·refine rn 5 rfl ?_
    exact rt h rfl
   refine rn 6 rfl ?_
   exact jX (w64 (n5 + 1)) (hk1 _ h) (g0 rfl rfl)
  replace h := RG.f h hb6
  unfold M25_L1 at h
  refine rn 1 rfl ?_
  exact jX () h (g0 rfl rfl)
 intro _ h
 refine rn 4 rfl ?_
 exact rt h rfl
theorem W26 (F : Nat) (a1 : TGraph) (a2 : (List UInt8)) (r : (TFunc × Bool)) (h : M26 F a1 a2 = some r) : Pure Try.prog 26 [(V.agg (encTGraph a1)), (sV a2)] (V.tup [(V.agg (encTFunc (r.1))), (bV (r.2))]) := by
 refine pin (fun r => (V.tup [(V.agg (encTFunc (r.1))), (bV (r.2))])) r rfl Try.func26 rfl rfl rfl rfl rfl (fun w0 m0 hg => ?_)
 unfold M26 at h
 refine rn 11 rfl ?_
 refine ln rfl rfl ?_
 refine rn 2 rfl ?_
 refine jK h (fun _ : Unit => (⟨[(4, (V.ptr 0 4 0 0))], [(0, (Ob.arr 62 4 [[(sV ([] : List UInt8)), (sV ([] : List UInt8)), nV, nV]]))], 1⟩ : St)) (fun k3 (_ : Unit) => k3 = some r) (fun k3 h => ?_) ?_
 ·refine rn 1 rfl ?_
  refine wl (A := a1.Funcs) 9 rfl (fun hA10 => ?_)
  refine lC (fun (p : Int) => (⟨[(1, (sV a2)), (4, (V.ptr 0 4 0 0)), (9, (V.lst 4 (a1.Funcs.map encTFunc))), (10, (iV ((a1.Funcs.length : Nat) : Int))), (11, (iV p))], [(0, (Ob.arr 62 4 [[(sV ([] : List UInt8)), (sV ([] : List UInt8)), nV, nV]]))], 1⟩ : St)) (fun n p => RG a1.Funcs (fun tl nn => M26_L1 F a2 k3 tl = some r) n p) (fun p h => RG.zero h) (a1.Funcs.length + 1) 0 (RG.start h) (gr [1] rfl (hB rfl rfl rfl .nil) rfl) (fun n n5 h => ?_)
  refine rn 5 rfl ?_
  refine spL rfl (fun hb6 => ?_) (fun hb6 => ?_)
  ·obtain ⟨x7, tl, hx8, h, hk1⟩ := RG.t hA10 h hb6
   unfold M26_L1 at h
   refine rn 5 rfl ?_
   refine ixh hx8 rfl rfl ?_
   refine rn 11 rfl ?_
   refine spC h rfl (fun hb9 h => ?_) (fun hb9 h => ?_)
   ·refine rn 6 rfl ?_
    exact rt h rfl
   refine rn 6 rfl ?_
   exact jX (w64 (n5 + 1)) (hk1 _ h) (gr [0] rfl (hB rfl rfl rfl .nil) rfl)
  replace h := RG.f h hb6
  unfold M26_L1 at h
  refine rn 1 rfl ?_
  exact jX () h (gr [0] rfl (hB rfl rfl rfl .nil) rfl)
 intro _ h
 refine rn 6 rfl ?_
 exact rt h rfl
theorem W16 (F : Nat) (a1 : TGraph) (a2 : Int) (a3 : (List (List UInt8))) (a4 : (List (List UInt8))) (r : Int) (h : M16 F a1 a2 a3 a4 = some r) : Pure Try.prog 16 [(V.agg (encTGraph a1)), (iV a2), (V.lst 1 (a3.map encS)), (V.lst 1 (a4.map encS))] (iV r) := by
 refine pin (fun r => (iV r)) r rfl Try.func16 rfl rfl rfl rfl rfl (fun w0 m0 hg => ?_)
 unfold M16 at h
 refine rn 9 rfl ?_
 refine cl h rfl rfl rfl (W24 _ _) rfl (fun y5 hx6 h => ?_)
 refine rn 7 rfl ?_
 refine spC h rfl (fun hb7 h => ?_) (fun hb7 h => ?_)
 ·refine rn 5 rfl ?_
  exact rt h rfl
 refine rn 5 rfl ?_
 refine cl h rfl rfl rfl (W25 _ _) rfl (fun y8 hx9 h => ?_)
 refine rn 7 rfl ?_
 refine spC h rfl (fun hb10 h => ?_) (fun hb10 h => ?_)
 ·refine rn 5 rfl ?_
  exact rt h rfl
 refine rn 7 rfl ?_
 refine spO 27 h rfl (fun hb11 h => ?_) (fun hb11 h => ?_)
 ·refine rn 4 rfl ?_
  refine spC h rfl (fun hb12 h => ?_) (fun hb12 h => ?_)
  ·refine rn 4 rfl ?_
   exact rt h rfl
  refine rn 5 rfl ?_
  refine ln rfl rfl ?_
  refine rn 2 rfl ?_
  refine jK h (fun _ : Unit => (⟨[], [], 0⟩ : St)) (fun k13 (_ : Unit) => k13 = some r) (fun k13 h => ?_) ?_
  ·refine rn 1 rfl ?_
   refine wl (A := a4) 3 rfl (fun hA22 => ?_)
   refine lC (fun (p : Int) => (⟨[(4, (V.ptr 0 4 0 0)), (31, (V.lst 1 (a4.map encS))), (32, (iV ((a4.length : Nat) : Int))), (33, (iV p))], [(0, (Ob.arr 27 4 [(encTGraph a1)]))], 1⟩ : St)) (fun n p => RG a4 (fun tl nn => M16_L1 F a1 k13 tl = some r) n p) (fun p h => RG.zero h) (a4.length + 1) 0 (RG.start h) (gr [0] rfl (hB rfl rfl rfl .nil) rfl) (fun n n15 h => ?_)
   refine rn 5 rfl ?_
   refine spL rfl (fun hb16 => ?_) (fun hb16 => ?_)
   ·obtain ⟨x17, tl, hx18, h, hk1⟩ := RG.t hA22 h hb16
    unfold M16_L1 at h
    refine rn 5 rfl ?_
    refine ixh hx18 rfl rfl ?_
    refine rn 7 rfl ?_
    refine cl h rfl rfl rfl (W26 _ _ _) rfl (fun y19 hx20 h => ?_)
    refine rn 12 rfl ?_
    refine spC h rfl (fun hb21 h => ?_) (fun hb21 h => ?_)
    ·refine rn 4 rfl ?_
     exact rt h rfl
    refine rn 6 rfl ?_
    exact jX (w64 (n15 + 1)) (hk1 _ h) (gr [0] rfl (hB rfl rfl rfl .nil) rfl)
   replace h := RG.f h hb16
   unfold M16_L1 at h
   refine rn 1 rfl ?_
   exact jX () h (g0 rfl rfl)
  intro _ h
  refine rn 4 rfl ?_
  exact rt h rfl
 refine rn 10 rfl ?_
 refine ln rfl rfl ?_
 refine rn 2 rfl ?_
 refine jK h (fun _ : Unit => (⟨[], [], 0⟩ : St)) (fun k23 (_ : Unit) => k23 = some r) (fun k23 h => ?_) ?_
 ·refine rn 1 rfl ?_
  refine wl (A := a4) 3 rfl (fun hA32 => ?_)
  refine lC (fun (p : Int) => (⟨[(4, (V.ptr 0 4 0 0)), (31, (V.lst 1 (a4.map encS))), (32, (iV ((a4.length : Nat) : Int))), (33, (iV p))], [(0, (Ob.arr 27 4 [(encTGraph a1)]))], 1⟩ : St)) (fun n p => RG a4 (fun tl nn => M16_L2 F a1 k23 tl = some r) n p) (fun p h => RG.zero h) (a4.length + 1) 0 (RG.start h) (gr [0] rfl (hB rfl rfl rfl .nil) rfl) (fun n n25 h => ?_)
  refine rn 5 rfl ?_
  refine spL rfl (fun hb26 => ?_) (fun hb26 => ?_)
  ·obtain ⟨x27, tl, hx28, h, hk2⟩ := RG.t hA32 h hb26
   unfold M16_L2 at h
   refine rn 5 rfl ?_
   refine ixh hx28 rfl rfl ?_
   refine rn 7 rfl ?_
   refine cl h rfl rfl rfl (W26 _ _ _) rfl (fun y29 hx30 h => ?_)
   refine rn 12 rfl ?_
   refine spC h rfl (fun hb31 h => ?_) (fun hb31 h => ?_)
   ·refine rn 4 rfl ?_
    exact rt h rfl
   refine rn 6 rfl ?_
   exact jX (w64 (n25 + 1)) (hk2 _ h) (gr [0] rfl (hB rfl rfl rfl .nil) rfl)
  replace h := RG.f h hb26
  unfold M16_L2 at h
  refine rn 1 rfl ?_
  exact jX () h (g0 rfl rfl)
 intro _ h
 refine rn 4 rfl ?_
 exact rt h rfl
theorem W49 (F : Nat) (a1 : TGraph) (a2 : (List UInt8)) (r : (TIface × Bool)) (h : M49 F a1 a2 = some r) : Pure Try.prog 49 [(V.agg (encTGraph a1)), (sV a2)] (V.tup [(V.agg (encTIface (r.1))), (bV (r.2))]) := by
 refine pin (fun r => (V.tup [(V.agg (encTIface (r.1))), (bV (r.2))])) r rfl Try.func49 rfl rfl rfl rfl rfl (fun w0 m0 hg => ?_)
 unfold M49 at h
 refine rn 11 rfl ?_
 refine ln rfl rfl ?_
 refine rn 2 rfl ?_
 refine jK h (fun _ : Unit => (⟨[(4, (V.ptr 0 2 0 0))], [(0, (Ob.arr 114 2 [[(sV ([] : List UInt8)), nV]]))], 1⟩ : St)) (fun k3 (_ : Unit) => k3 = some r) (fun k3 h => ?_) ?_
 ·refine rn 1 rfl ?_
  refine wl (A := a1.Ifaces) 9 rfl (fun hA10 => ?_)
  refine lC (fun (p : Int) => (⟨[(1, (sV a2)), (4, (V.ptr 0 2 0 0)), (9, (V.lst 2 (a1.Ifaces.map encTIface))), (10, (iV ((a1.Ifaces.length : Nat) : Int))), (11, (iV p))], [(0, (Ob.arr 114 2 [[(sV ([] : List UInt8)), nV]]))], 1⟩ : St)) (fun n p => RG a1.Ifaces (fun tl nn => M49_L1 F a2 k3 tl = some r) n p) (fun p h => RG.zero h) (a1.Ifaces.length + 1) 0 (RG.start h) (gr [1] rfl (hB rfl rfl rfl .nil) rfl) (fun n n5 h => ?_)
  refine rn 5 rfl ?_
  refine spL rfl (fun hb6 => ?_) (fun hb6 => ?_)
  ·obtain ⟨x7, tl, hx8, h, hk1⟩ := RG.t hA10 h hb6
   unfold M49_L1 at h
   refine rn 5 rfl ?_
   refine ixh hx8 rfl rfl ?_
   refine rn 11 rfl ?_
   refine spC h rfl (fun hb9 h => ?_) (fun hb9 h => ?_)
   ·refine rn 6 rfl ?_
    exact rt h rfl
   refine rn 6 rfl ?_
   exact jX (w64 (n5 + 1)) (hk1 _ h) (gr [0] rfl (hB rfl rfl rfl .nil) rfl)
  replace h := RG.f h hb6
  unfold M49_L1 at h
  refine rn 1 rfl ?_
  exact jX () h (gr [0] rfl (hB rfl rfl rfl .nil) rfl)
 intro _ h
 refine rn 6 rfl ?_
 exact rt h rfl
theorem W50 (F : Nat) (a1 : TType) (a2 : (List UInt8)) (r : ((List UInt8) × Bool)) (h : M50 F a1 a2 = some r) : Pure Try.prog 50 [(V.agg (encTType a1)), (sV a2)] (V.tup [(sV (r.1)), (bV (r.2))]) := by
 refine pin (fun r => (V.tup [(sV (r.1)), (bV (r.2))])) r rfl Try.func50 rfl rfl rfl rfl rfl (fun w0 m0 hg => ?_)
 unfold M50 at h
 refine rn 11 rfl ?_
 refine ln rfl rfl ?_
 refine rn 2 rfl ?_
 refine jK h (fun _ : Unit => (⟨[], [], 0⟩ : St)) (fun k3 (_ : Unit) => k3 = some r) (fun k3 h => ?_) ?_
 ·refine rn 1 rfl ?_
  refine wl (A := a1.Methods) 9 rfl (fun hA10 => ?_)
  refine lC (fun (p : Int) => (⟨[(1, (sV a2)), (9, (V.lst 2 (a1.Methods.map encTMethod))), (10, (iV ((a1.Methods.length : Nat) : Int))), (11, (iV p))], [], 0⟩ : St)) (fun n p => RG a1.Methods (fun tl nn => M50_L1 F a2 k3 tl = some r) n p) (fun p h => RG.zero h) (a1.Methods.length + 1) 0 (RG.start h) (g0 rfl rfl) (fun n n5 h => ?_)
  refine rn 5 rfl ?_
  refine spL rfl (fun hb6 => ?_) (fun hb6 => ?_)
  ·obtain ⟨x7, tl, hx8, h, hk1⟩ := RG.t hA10 h hb6
   unfold M50_L1 at h
   refine rn 5 rfl ?_
   refine ixh hx8 rfl rfl ?_
   refine rn 11 rfl ?_
   refine spC h rfl (fun hb9 h => ?_) (fun hb9 h => ?_)
   ·refine rn 7 rfl ?_
    exact rt h rfl
   refine rn 6 rfl ?_
   exact jX (w64 (n5 + 1)) (hk1 _ h) (g0 rfl rfl)
  replace h := RG.f h hb6
  unfold M50_L1 at h
  refine rn 1 rfl ?_
  exact jX () h (g0 rfl rfl)
 intro _ h
 refine rn 5 rfl ?_
 exact rt h rfl
theorem W51 (F : Nat) (a1 : TType) (a2 : TIface) (r : Bool) (h : M51 F a1 a2 = some r) : Pure Try.prog 51 [(V.agg (encTType a1)), (V.agg (encTIface a2))] (bV r) := by
 refine pin (fun r => (bV r)) r rfl Try.func51 rfl rfl rfl rfl rfl (fun w0 m0 hg => ?_)
 unfold M51 at h
 refine rn 11 rfl ?_
 refine ln rfl rfl ?_
 refine rn 2 rfl ?_
 refine jK h (fun _ : Unit => (⟨[], [], 0⟩ : St)) (fun k3 (_ : Unit) => k3 = some r) (fun k3 h => ?_) ?_
 ·refine rn 1 rfl ?_
  refine wl (A := a2.Methods) 10 rfl (fun hA12 => ?_)
  refine lC (fun (p : Int) => (⟨[(2, (V.ptr 0 2 0 0)), (10, (V.lst 1 (a2.Methods.map encS))), (11, (iV ((a2.Methods.length : Nat) : Int))), (12, (iV p))], [(0, (Ob.arr 112 2 [(encTType a1)]))], 1⟩ : St)) (fun n p => RG a2.Methods (fun tl nn => M51_L1 F a1 k3 tl = some r) n p) (fun p h => RG.zero h) (a2.Methods.length + 1) 0 (RG.start h) (gr [0] rfl (hB rfl rfl rfl .nil) rfl) (fun n n5 h => ?_)
  refine rn 5 rfl ?_
  refine spL rfl (fun hb6 => ?_) (fun hb6 => ?_)
  ·obtain ⟨x7, tl, hx8, h, hk1⟩ := RG.t hA12 h hb6
   unfold M51_L1 at h
   refine rn 5 rfl ?_
   refine ixh hx8 rfl rfl ?_
   refine rn 7 rfl ?_
   refine cl h rfl rfl rfl (W50 _ _ _) rfl (fun y9 hx10 h => ?_)
   refine rn 11 rfl ?_
   refine spC h rfl (fun hb11 h => ?_) (fun hb11 h => ?_)
   ·refine rn 4 rfl ?_
    exact rt h rfl
   refine rn 6 rfl ?_
   exact jX (w64 (n5 + 1)) (hk1 _ h) (gr [0] rfl (hB rfl rfl rfl .nil) rfl)
  replace h := RG.f h hb6
  unfold M51_L1 at h
  refine rn 1 rfl ?_
  exact jX () h (g0 rfl rfl)
 intro _ h
 refine rn 4 rfl ?_
 exact rt h rfl
theorem W38 (F : Nat) (a1 : TGraph) (a2 : TCall) (r : (List Tprovenderref6_aim)) (h : M38 F a1 a2 = some r) : Pure Try.prog 38 [(V.agg (encTGraph a1)), (V.agg (encTCall a2))] (V.lst 2 (r.map encTprovenderref6_aim)) := by
 refine pin (fun r => (V.lst 2 (r.map encTprovenderref6_aim))) r rfl Try.func38 rfl rfl rfl rfl rfl (fun w0 m0 hg => ?_)
 unfold M38 at h
 refine rn 13 rfl ?_
 refine spC h rfl (fun hb3 h => ?_) (fun hb3 h => ?_)
 ·refine rn 5 rfl ?_
  refine aops_buildSlice [(0, (V.agg [(sV ([] : List UInt8)), (sV a2.Target)]))] [[(sV ([] : List UInt8)), (sV a2.Target)]] tEl96 tZ120 rfl rfl rfl rfl wants_none (evp_cons rfl evp_nil) rfl rfl (by simp) rfl ?_
  refine fo (rn 2 rfl ?_)
  refine awp_ghost (ghost_frzEs 2 [4, 18] rfl (imms_rows (.cons (.cons (Imm.con _) (.cons (Imm.con _) .nil)) .nil)) (List.forall_mem_cons.2 ⟨rfl, (List.forall_mem_cons.2 ⟨rfl, (fun _ hx => nomatch hx)⟩)⟩) rfl) ?_
  refine fa ?_
  exact rt h rfl
 refine rn 6 rfl ?_
 refine cl h rfl rfl rfl (W49 _ _ _) rfl (fun y4 hx5 h => ?_)
 refine rn 16 rfl ?_
 refine ln rfl rfl ?_
 refine rn 2 rfl ?_
 refine jK h (fun (p : (List Tprovenderref6_aim)) => (⟨[(7, (V.own 0 p.length))], [(0, (Ob.arr 120 2 (p.map encTprovenderref6_aim)))], 1⟩ : St)) (fun k6 p => k6 p = some r) (fun k6 h => ?_) ?_
 ·refine rn 1 rfl ?_
  refine wl (A := a1.Types) 27 rfl (fun hA26 => ?_)
  refine lC (fun (p : Int × (List Tprovenderref6_aim)) => (⟨[(3, (V.ptr 0 4 0 0)), (5, (V.ptr 1 2 0 0)), (7, (V.own 2 (p.2).length)), (27, (V.lst 2 (a1.Types.map encTType))), (28, (iV ((a1.Types.length : Nat) : Int))), (29, (iV (p.1)))], [(0, (Ob.arr 59 4 [(encTCall a2)])), (1, (Ob.arr 114 2 [(encTIface (y4.1))])), (2, (Ob.arr 120 2 ((p.2).map encTprovenderref6_aim)))], 3⟩ : St)) (fun n p => RG a1.Types (fun tl nn => M38_L1 F a2 y4 k6 tl p.2 = some r) n p.1) (fun p h => RG.zero h) (a1.Types.length + 1) (0, ([] : List Tprovenderref6_aim)) (RG.start h) (Ghost.trans (ghost_nilE 7 120 2 rfl) (ghost_ren 3 (fun i => ([1, 2, 3] : List Nat).getD i 0) _ _ (by decide) (EnvSub.get (.cons (Sub.ptr rfl rfl) (.cons (Sub.ptr rfl rfl) (.cons (Sub.ownE rfl rfl (by simp)) (.cons (Sub.imm (Imm.lst _ _)) (.cons (Sub.imm (Imm.con _)) (.cons (Sub.imm (Imm.con _)) .nil))))))) (HpSub.get (.cons rfl (ObSub.box (.cons (Sub.imm (Imm.con _)) (.cons (Sub.imm (Imm.con _)) (.cons (Sub.imm (Imm.con _)) (.cons (Sub.imm (Imm.con _)) .nil))))) (.cons rfl (ObSub.box (.cons (Sub.imm (Imm.con _)) (.cons (Sub.imm (Imm.lst _ _)) .nil))) (.cons rfl (ObSub.rows (rows_imm imms_encTprovenderref6_aim)) .nil)))) rfl)) (fun n p h => ?_)
  obtain ⟨n10, l11⟩ := p
  refine rn 5 rfl ?_
  refine spL rfl (fun hb12 => ?_) (fun hb12 => ?_)
  ·obtain ⟨x15, tl, hx16, h, hk1⟩ := RG.t hA26 h hb12
   unfold M38_L1 at h
   refine rn 2 rfl ?_
   refine jK h (fun (p : (List Tprovenderref6_aim)) => (⟨[(3, (V.ptr 0 4 0 0)), (5, (V.ptr 1 2 0 0)), (7, (V.own 2 p.length)), (27, (V.lst 2 (a1.Types.map encTType))), (28, (iV ((a1.Types.length : Nat) : Int))), (29, (iV n10))], [(0, (Ob.arr 59 4 [(encTCall a2)])), (1, (Ob.arr 114 2 [(encTIface (y4.1))])), (2, (Ob.arr 120 2 (p.map encTprovenderref6_aim)))], 3⟩ : St)) (fun k13 p => k13 p = some r) (fun k13 h => ?_) ?_
   ·refine rn 3 rfl ?_
    refine ixh hx16 rfl rfl ?_
    refine rn 9 rfl ?_
    refine cl h rfl rfl rfl (W50 _ _ _) rfl (fun y17 hx18 h => ?_)
    refine rn 10 rfl ?_
    refine spO 41 h rfl (fun hb19 h => ?_) (fun hb19 h => ?_)
    ·refine rn 2 rfl ?_
     refine cl h rfl rfl rfl (W51 _ _ _) rfl (fun y20 hx21 h => ?_)
     refine rn 2 rfl ?_
     refine jK h (fun (p : (List Tprovenderref6_aim)) => (⟨[(3, (V.ptr 0 4 0 0)), (5, (V.ptr 1 2 0 0)), (7, (V.own 2 p.length)), (27, (V.lst 2 (a1.Types.map encTType))), (28, (iV ((a1.Types.length : Nat) : Int))), (29, (iV n10)), (44, (bV y20))], [(0, (Ob.arr 59 4 [(encTCall a2)])), (1, (Ob.arr 114 2 [(encTIface (y4.1))])), (2, (Ob.arr 120 2 (p.map encTprovenderref6_aim)))], 3⟩ : St)) (fun k22 p => k22 p = some r) (fun k22 h => ?_) ?_
     ·refine spC h rfl (fun hb24 h => ?_) (fun hb24 h => ?_)
      ·refine rn 6 rfl ?_
       refine aops_buildSlice [(0, (V.agg [(sV x15.Name), (sV (y17.1))]))] [[(sV x15.Name), (sV (y17.1))]] tEl96 tZ120 rfl rfl rfl rfl wants_none (evp_cons rfl evp_nil) rfl rfl (by simp) rfl ?_
       refine fo ?_
       refine apO encTprovenderref6_aim h rfl rfl rfl rfl rfl rfl rfl rfl (fun h => ?_)
       refine rn 2 rfl ?_
       exact jX (l11 ++ ([(Tprovenderref6_aim.mk x15.Name (y17.1))] : List Tprovenderref6_aim)) h (gr [0, 1, 5] rfl (hB rfl rfl rfl (hB rfl rfl rfl (hR rfl rfl .nil))) rfl)
      refine rn 1 rfl ?_
      exact jX l11 h (gr [0, 1, 2] rfl (hB rfl rfl rfl (hB rfl rfl rfl (hR rfl rfl .nil))) rfl)
     intro l23 h
     refine rn 1 rfl ?_
     exact jX l23 h (gr [0, 1, 2] rfl (hB rfl rfl rfl (hB rfl rfl rfl (hR rfl rfl .nil))) rfl)
    refine rn 8 rfl ?_
    exact jX l11 h (gr [0, 1, 2] rfl (hB rfl rfl rfl (hB rfl rfl rfl (hR rfl rfl .nil))) rfl)
   intro l14 h
   refine rn 4 rfl ?_
   exact jX ((w64 (n10 + 1)), l14) (hk1 _ h) (gr [0, 1, 2] rfl (hB rfl rfl rfl (hB rfl rfl rfl (hR rfl rfl .nil))) rfl)
  replace h := RG.f h hb12
  unfold M38_L1 at h
  refine rn 1 rfl ?_
  exact jX l11 h (gr [2] rfl (hR rfl rfl .nil) rfl)
 intro l7 h
 refine rn 5 rfl ?_
 refine awp_ghost (ghost_frzEs 0 [4, 7, 54] rfl (rows_imm imms_encTprovenderref6_aim) (List.forall_mem_cons.2 ⟨rfl, (List.forall_mem_cons.2 ⟨rfl, (List.forall_mem_cons.2 ⟨rfl, (fun _ hx => nomatch hx)⟩)⟩)⟩) (List.length_map ..).symm) ?_
 refine fa ?_
 exact rt h rfl
end Go.Proofs.Ytcbkgdagiccfmaa
