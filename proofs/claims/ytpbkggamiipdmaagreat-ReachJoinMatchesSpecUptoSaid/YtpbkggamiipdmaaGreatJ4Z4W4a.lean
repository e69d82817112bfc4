/- Part of the proof: Z4W4a. -/
import Derived.Test.YtpbkggamiipdmaaGreatJ4ZP4a
import Derived.Test.YtpbkggamiipdmaaGreatJ4Z4Sh
import Derived.KernelRfl
namespace Go.Proofs.YtpbkggamiipdmaaGreat
open Go Go.Pv
set_option linter.unusedVariables false
set_option maxRecDepth 100000
theorem W59 (F : Nat) (a1 : TGraph) (a2 : Bool) (r : Treach_checker) (h : M59 F a1 a2 = some r) : Pure Tryz.prog 59 [(V.agg (encTGraph a1)), (bV a2)] (V.agg (encTreach_checker r)) := by
 refine pin (fun r => (V.agg (encTreach_checker r))) r rfl Tryz.func59 rfl rfl rfl rfl rfl (fun w0 m0 hg => ?_)
 unfold M59 at h
 refine rn 20 rfl ?_
 refine ln rfl rfl ?_
 refine rn 2 rfl ?_
 refine jK h (fun (p : (List ((List UInt8) × TIface))) => (⟨[(2, (V.ptr 0 4 0 0)), (4, (V.ptr 1 4 0 0)), (5, (V.ptr 2 4 0 0))], [(0, (Ob.arr 27 4 [(encTGraph a1)])), (1, (Ob.arr 124 4 [[(bV false), (V.con (.map none)), (V.con (.map none)), (V.con (.map none))]])), (2, (Ob.arr 124 4 [[(bV a2), (V.map 3), (V.map 4), (V.map 5)]])), (3, (Ob.map (p.map encM9_98))), (4, (Ob.map (([] : List ((List UInt8) × Bool)).map encM9_4))), (5, (Ob.map (([] : List ((List UInt8) × Bool)).map encM9_4)))], 6⟩ : St)) (fun k3 p => k3 p = some r) (fun k3 h => ?_) ?_
 ·refine rn 1 rfl ?_
  refine wl (A := a1.Ifaces) 18 rfl (fun hA12 => ?_)
  refine lC (fun (p : Int × (List ((List UInt8) × TIface))) => (⟨[(2, (V.ptr 0 4 0 0)), (4, (V.ptr 1 4 0 0)), (5, (V.ptr 2 4 0 0)), (18, (V.lst 2 (a1.Ifaces.map encTIface))), (19, (iV ((a1.Ifaces.length : Nat) : Int))), (20, (iV (p.1)))], [(0, (Ob.arr 27 4 [(encTGraph a1)])), (1, (Ob.arr 124 4 [[(bV false), (V.con (.map none)), (V.con (.map none)), (V.con (.map none))]])), (2, (Ob.arr 124 4 [[(bV a2), (V.map 3), (V.map 4), (V.map 5)]])), (3, (Ob.map ((p.2).map encM9_98))), (4, (Ob.map (([] : List ((List UInt8) × Bool)).map encM9_4))), (5, (Ob.map (([] : List ((List UInt8) × Bool)).map encM9_4)))], 6⟩ : St)) (fun n p => RG a1.Ifaces (fun tl nn => M59_L1 F k3 tl p.2 = some r) n p.1) (fun p h => RG.zero h) (a1.Ifaces.length + 1) (0, ([] : List ((List UInt8) × TIface))) (RG.start h) (gr [0, 1, 5, 2, 3, 4] rfl (hB rfl rfl rfl (hB rfl rfl rfl (hB rfl rfl rfl (hM rfl rfl (hM rfl rfl (hM rfl rfl .nil)))))) rfl) (fun n p h => ?_)
  obtain ⟨n7, m8⟩ := p
  refine rn 5 rfl ?_
  refine spL rfl (fun hb9 => ?_) (fun hb9 => ?_)
  ·obtain ⟨x10, tl, hx11, h, hk1⟩ := RG.t hA12 h hb9
   unfold M59_L1 at h
   refine rn 5 rfl ?_
   refine ixh hx11 rfl rfl ?_
   refine rn 10 rfl ?_
   refine aops_mapUpdate (es := m8.map encM9_98) ((mput m8 x10.Name x10).map encM9_98) tMap122 tKey9 wants_none rfl rfl (.con rfl) ⟨_, rfl⟩ encM9_98_good rfl (encM9_98_puts m8 x10.Name x10) ?_
   refine fo (rn 6 rfl ?_)
   exact jX ((w64 (n7 + 1)), (mput m8 x10.Name x10)) (hk1 _ h) (gr [0, 1, 2, 3, 4, 5] rfl (hB rfl rfl rfl (hB rfl rfl rfl (hB rfl rfl rfl (hM rfl rfl (hM rfl rfl (hM rfl rfl .nil)))))) rfl)
  replace h := RG.f h hb9
  unfold M59_L1 at h
  refine rn 1 rfl ?_
  exact jX m8 h (gr [0, 1, 2, 3, 4, 5] rfl (hB rfl rfl rfl (hB rfl rfl rfl (hB rfl rfl rfl (hM rfl rfl (hM rfl rfl (hM rfl rfl .nil)))))) rfl)
 intro m4 h
 refine rn 5 rfl ?_
 refine ln rfl rfl ?_
 refine rn 2 rfl ?_
 refine jK h (fun (p : (List ((List UInt8) × Bool))) => (⟨[(2, (V.ptr 0 4 0 0)), (4, (V.ptr 1 4 0 0)), (5, (V.ptr 2 4 0 0))], [(0, (Ob.arr 27 4 [(encTGraph a1)])), (1, (Ob.arr 124 4 [[(bV false), (V.con (.map none)), (V.con (.map none)), (V.con (.map none))]])), (2, (Ob.arr 124 4 [[(bV a2), (V.map 3), (V.map 4), (V.map 5)]])), (3, (Ob.map (m4.map encM9_98))), (4, (Ob.map (p.map encM9_4))), (5, (Ob.map (([] : List ((List UInt8) × Bool)).map encM9_4)))], 6⟩ : St)) (fun k13 p => k13 p = some r) (fun k13 h => ?_) ?_
 ·refine rn 1 rfl ?_
  refine wl (A := a1.Types) 31 rfl (fun hA22 => ?_)
  refine lC (fun (p : Int × (List ((List UInt8) × Bool))) => (⟨[(2, (V.ptr 0 4 0 0)), (4, (V.ptr 1 4 0 0)), (5, (V.ptr 2 4 0 0)), (31, (V.lst 2 (a1.Types.map encTType))), (32, (iV ((a1.Types.length : Nat) : Int))), (33, (iV (p.1)))], [(0, (Ob.arr 27 4 [(encTGraph a1)])), (1, (Ob.arr 124 4 [[(bV false), (V.con (.map none)), (V.con (.map none)), (V.con (.map none))]])), (2, (Ob.arr 124 4 [[(bV a2), (V.map 3), (V.map 4), (V.map 5)]])), (3, (Ob.map (m4.map encM9_98))), (4, (Ob.map ((p.2).map encM9_4))), (5, (Ob.map (([] : List ((List UInt8) × Bool)).map encM9_4)))], 6⟩ : St)) (fun n p => RG a1.Types (fun tl nn => M59_L2 F k13 tl p.2 = some r) n p.1) (fun p h => RG.zero h) (a1.Types.length + 1) (0, ([] : List ((List UInt8) × Bool))) (RG.start h) (gr [0, 1, 2, 3, 4, 5] rfl (hB rfl rfl rfl (hB rfl rfl rfl (hB rfl rfl rfl (hM rfl rfl (hM rfl rfl (hM rfl rfl .nil)))))) rfl) (fun n p h => ?_)
  obtain ⟨n17, m18⟩ := p
  refine rn 5 rfl ?_
  refine spL rfl (fun hb19 => ?_) (fun hb19 => ?_)
  ·obtain ⟨x20, tl, hx21, h, hk2⟩ := RG.t hA22 h hb19
   unfold M59_L2 at h
   refine rn 5 rfl ?_
   refine ixh hx21 rfl rfl ?_
   refine rn 9 rfl ?_
   refine aops_mapUpdate (es := m18.map encM9_4) ((mput m18 x20.Name true).map encM9_4) tMap89 tKey9 wants_none rfl rfl (.con rfl) ⟨_, rfl⟩ encM9_4_good rfl (encM9_4_puts m18 x20.Name true) ?_
   refine fo (rn 6 rfl ?_)
   exact jX ((w64 (n17 + 1)), (mput m18 x20.Name true)) (hk2 _ h) (gr [0, 1, 2, 3, 4, 5] rfl (hB rfl rfl rfl (hB rfl rfl rfl (hB rfl rfl rfl (hM rfl rfl (hM rfl rfl (hM rfl rfl .nil)))))) rfl)
  replace h := RG.f h hb19
  unfold M59_L2 at h
  refine rn 1 rfl ?_
  exact jX m18 h (gr [0, 1, 2, 3, 4, 5] rfl (hB rfl rfl rfl (hB rfl rfl rfl (hB rfl rfl rfl (hM rfl rfl (hM rfl rfl (hM rfl rfl .nil)))))) rfl)
 intro m14 h
 refine rn 5 rfl ?_
 refine ln rfl rfl ?_
 refine rn 2 rfl ?_
 refine jK h (fun (p : (List ((List UInt8) × Bool))) => (⟨[(4, (V.ptr 0 4 0 0)), (5, (V.ptr 1 4 0 0))], [(0, (Ob.arr 124 4 [[(bV false), (V.con (.map none)), (V.con (.map none)), (V.con (.map none))]])), (1, (Ob.arr 124 4 [[(bV a2), (V.map 2), (V.map 3), (V.map 4)]])), (2, (Ob.map (m4.map encM9_98))), (3, (Ob.map (m14.map encM9_4))), (4, (Ob.map (p.map encM9_4)))], 5⟩ : St)) (fun k23 p => k23 p = some r) (fun k23 h => ?_) ?_
 ·refine rn 1 rfl ?_
  refine wl (A := a1.Funcs) 43 rfl (fun hA32 => ?_)
  refine lC (fun (p : Int × (List ((List UInt8) × Bool))) => (⟨[(4, (V.ptr 0 4 0 0)), (5, (V.ptr 1 4 0 0)), (43, (V.lst 4 (a1.Funcs.map encTFunc))), (44, (iV ((a1.Funcs.length : Nat) : Int))), (45, (iV (p.1)))], [(0, (Ob.arr 124 4 [[(bV false), (V.con (.map none)), (V.con (.map none)), (V.con (.map none))]])), (1, (Ob.arr 124 4 [[(bV a2), (V.map 2), (V.map 3), (V.map 4)]])), (2, (Ob.map (m4.map encM9_98))), (3, (Ob.map (m14.map encM9_4))), (4, (Ob.map ((p.2).map encM9_4)))], 5⟩ : St)) (fun n p => RG a1.Funcs (fun tl nn => M59_L3 F k23 tl p.2 = some r) n p.1) (fun p h => RG.zero h) (a1.Funcs.length + 1) (0, ([] : List ((List UInt8) × Bool))) (RG.start h) (gr [1, 2, 3, 4, 5] rfl (hB rfl rfl rfl (hB rfl rfl rfl (hM rfl rfl (hM rfl rfl (hM rfl rfl .nil))))) rfl) (fun n p h => ?_)
  obtain ⟨n27, m28⟩ := p
  refine rn 5 rfl ?_
  refine spL rfl (fun hb29 => ?_) (fun hb29 => ?_)
  ·obtain ⟨x30, tl, hx31, h, hk3⟩ := RG.t hA32 h hb29
   unfold M59_L3 at h
   refine rn 5 rfl ?_
   refine ixh hx31 rfl rfl ?_
   refine rn 9 rfl ?_
   refine aops_mapUpdate (es := m28.map encM9_4) ((mput m28 x30.Name true).map encM9_4) tMap89 tKey9 wants_none rfl rfl (.con rfl) ⟨_, rfl⟩ encM9_4_good rfl (encM9_4_puts m28 x30.Name true) ?_
   refine fo (rn 6 rfl ?_)
   exact jX ((w64 (n27 + 1)), (mput m28 x30.Name true)) (hk3 _ h) (gr [0, 1, 2, 3, 4] rfl (hB rfl rfl rfl (hB rfl rfl rfl (hM rfl rfl (hM rfl rfl (hM rfl rfl .nil))))) rfl)
  replace h := RG.f h hb29
  unfold M59_L3 at h
  refine rn 1 rfl ?_
  exact jX m28 h (gr [0, 1, 2, 3, 4] rfl (hB rfl rfl rfl (hB rfl rfl rfl (hM rfl rfl (hM rfl rfl (hM rfl rfl .nil))))) rfl)
 intro m24 h
 refine rn 5 rfl ?_
 refine awp_ghost (ghost_frzMC 2 0 (Ob.arr 124 4 [[(bV a2), (V.imap (m4.map encM9_98)), (V.map 3), (V.map 4)]]) rfl encM9_98_imm (ObSub.box (.cons Sub.keepM (.cons Sub.frzM (.cons Sub.keepM (.cons Sub.keepM .nil)))))) ?_
 refine awp_ghost (ghost_frzMC 3 0 (Ob.arr 124 4 [[(bV a2), (V.imap (m4.map encM9_98)), (V.imap (m14.map encM9_4)), (V.map 4)]]) rfl encM9_4_imm (ObSub.box (.cons Sub.keepM (.cons Sub.keepM (.cons Sub.frzM (.cons Sub.keepM .nil)))))) ?_
 refine awp_ghost (ghost_frzMC 4 0 (Ob.arr 124 4 [[(bV a2), (V.imap (m4.map encM9_98)), (V.imap (m14.map encM9_4)), (V.imap (m24.map encM9_4))]]) rfl encM9_4_imm (ObSub.box (.cons Sub.keepM (.cons Sub.keepM (.cons Sub.keepM (.cons Sub.frzM .nil)))))) ?_
 refine fa ?_
 exact rt h rfl
theorem W79 (F : Nat) (a1 : (List UInt8)) (r : Bool) (h : M79 F a1 = some r) : Pure Tryz.prog 79 [(sV a1)] (bV r) := by
 refine pin (fun r => (bV r)) r rfl Tryz.func79 rfl rfl rfl rfl rfl (fun w0 m0 hg => ?_)
 unfold M79 at h
 refine rn 11 rfl ?_
 refine jK h (fun _ : Unit => (⟨[(0, (sV a1))], [], 0⟩ : St)) (fun k2 (_ : Unit) => k2 = some r) (fun k2 h => ?_) ?_
 ·refine rn 1 rfl ?_
  refine ck h (fun hA15 h => ?_)
  refine lC (fun (p : Int) => (⟨[(0, (sV a1)), (5, (iV (a1.length : Int))), (6, (iV p))], [], 0⟩ : St)) (fun n p => RC (a1.length : Int) (fun tl nn => M79_L1 F a1 k2 tl nn = some r) n p) (fun p h => RC.zero h) (Int.toNat (a1.length : Int) + 1) 0 (RC.start h) (g0 rfl rfl) (fun n n4 h => ?_)
  refine rn 5 rfl ?_
  refine spL rfl (fun hb5 => ?_) (fun hb5 => ?_)
  ·obtain ⟨tl, h, hk1⟩ := RC.t hA15 h hb5
   unfold M79_L1 at h
   refine rn 12 rfl ?_
   refine ixs h rfl rfl (fun c6 hx7 h => ?_)
   refine rn 2 rfl ?_
   refine spO 13 h rfl (fun hb8 h => ?_) (fun hb8 h => ?_)
   ·refine rn 17 rfl ?_
    exact rt h rfl
   refine rn 2 rfl ?_
   refine ixs h rfl rfl (fun c9 hx10 h => ?_)
   refine rn 3 rfl ?_
   refine spO 19 h rfl (fun hb11 h => ?_) (fun hb11 h => ?_)
   ·refine rn 11 rfl ?_
    exact rt h rfl
   refine rn 2 rfl ?_
   refine ixs h rfl rfl (fun c12 hx13 h => ?_)
   refine rn 3 rfl ?_
   refine spC h rfl (fun hb14 h => ?_) (fun hb14 h => ?_)
   ·refine rn 4 rfl ?_
    exact rt h rfl
   refine rn 6 rfl ?_
   exact jX (w64 (n4 + 1)) (hk1 _ h) (g0 rfl rfl)
  replace h := RC.f h hb5
  unfold M79_L1 at h
  refine rn 1 rfl ?_
  exact jX () h (g0 rfl rfl)
 intro _ h
 refine rn 5 rfl ?_
 refine spO 28 h rfl (fun hb16 h => ?_) (fun hb16 h => ?_)
 ·refine rn 6 rfl ?_
  exact rt h rfl
 refine rn 6 rfl ?_
 exact rt h rfl
theorem W173 (F : Nat) (a1 : (List UInt8)) (a2 : (List UInt8)) (a3 : Bool) (r : Int) (h : M173 F a1 a2 a3 = some r) : Pure Tryz.prog 173 [(sV a1), (sV a2), (bV a3)] (iV r) := by
 refine pin (fun r => (iV r)) r rfl Tryz.func173 rfl rfl rfl rfl rfl (fun w0 m0 hg => ?_)
 unfold M173 at h
 refine rn 9 rfl ?_
 refine cl h rfl rfl rfl (W79 _ _) rfl (fun y4 hx5 h => ?_)
 refine rn 3 rfl ?_
 refine jK h (fun _ : Unit => (⟨[], [], 0⟩ : St)) (fun k6 (_ : Unit) => k6 = some r) (fun k6 h => ?_) ?_
 ·refine spC h rfl (fun hb7 h => ?_) (fun hb7 h => ?_)
  ·refine rn 4 rfl ?_
   exact rt h rfl
  refine rn 5 rfl ?_
  refine spO 14 h rfl (fun hb8 h => ?_) (fun hb8 h => ?_)
  ·refine rn 6 rfl ?_
   refine spC h rfl (fun hb9 h => ?_) (fun hb9 h => ?_)
   ·refine rn 4 rfl ?_
    exact rt h rfl
   refine rn 1 rfl ?_
   exact jX () h (g0 rfl rfl)
  refine rn 8 rfl ?_
  exact jX () h (g0 rfl rfl)
 intro _ h
 refine rn 5 rfl ?_
 exact rt h rfl
theorem W127 (F : Nat) (a1 : Treach_checker) (a2 : (List TIface)) (r : Int) (h : M127 F a1 a2 = some r) : Pure Tryz.prog 127 [(V.agg (encTreach_checker a1)), (V.lst 2 (a2.map encTIface))] (iV r) := by
 refine pin (fun r => (iV r)) r rfl Tryz.func127 rfl rfl rfl rfl rfl (fun w0 m0 hg => ?_)
 unfold M127 at h
 refine rn 13 rfl ?_
 refine ln rfl rfl ?_
 refine rn 2 rfl ?_
 refine jK h (fun _ : Unit => (⟨[], [], 0⟩ : St)) (fun k3 (_ : Unit) => k3 = some r) (fun k3 h => ?_) ?_
 ·refine rn 1 rfl ?_
  refine wl (A := a2) 1 rfl (fun hA30 => ?_)
  refine lC (fun (p : (List UInt8) × Int) => (⟨[(5, (sV (p.1))), (13, (V.lst 2 (a2.map encTIface))), (14, (iV ((a2.length : Nat) : Int))), (15, (iV (p.2)))], [], 0⟩ : St)) (fun n p => RG a2 (fun tl nn => M127_L1 F k3 tl nn p.1 = some r) n p.2) (fun p h => RG.zero h) (a2.length + 1) (([] : List UInt8), 0) (RG.start h) (g0 rfl rfl) (fun n p h => ?_)
  obtain ⟨s6, n7⟩ := p
  refine rn 5 rfl ?_
  refine spL rfl (fun hb8 => ?_) (fun hb8 => ?_)
  ·obtain ⟨x11, tl, hx12, h, hk1⟩ := RG.t hA30 h hb8
   unfold M127_L1 at h
   refine rn 2 rfl ?_
   refine jK h (fun (p : (List UInt8)) => (⟨[(5, (sV p)), (13, (V.lst 2 (a2.map encTIface))), (14, (iV ((a2.length : Nat) : Int))), (15, (iV n7))], [], 0⟩ : St)) (fun k9 p => k9 p = some r) (fun k9 h => ?_) ?_
   ·refine rn 4 rfl ?_
    refine ixh hx12 rfl rfl ?_
    refine rn 13 rfl ?_
    refine cl h rfl rfl rfl (W173 _ _ _ _) rfl (fun y13 hx14 h => ?_)
    refine rn 7 rfl ?_
    refine spC h rfl (fun hb15 h => ?_) (fun hb15 h => ?_)
    ·refine rn 5 rfl ?_
     exact rt h rfl
    refine rn 13 rfl ?_
    refine ln rfl rfl ?_
    refine rn 3 rfl ?_
    refine spC h rfl (fun hb16 h => ?_) (fun hb16 h => ?_)
    ·refine rn 4 rfl ?_
     exact rt h rfl
    refine rn 4 rfl ?_
    refine ln rfl rfl ?_
    refine rn 3 rfl ?_
    refine spC h rfl (fun hb17 h => ?_) (fun hb17 h => ?_)
    ·refine rn 4 rfl ?_
     exact rt h rfl
    refine rn 10 rfl ?_
    refine ln rfl rfl ?_
    refine rn 2 rfl ?_
    refine jK h (fun _ : Unit => (⟨[(5, (sV x11.Name)), (13, (V.lst 2 (a2.map encTIface))), (14, (iV ((a2.length : Nat) : Int))), (15, (iV n7))], [], 0⟩ : St)) (fun k18 (_ : Unit) => k18 = some r) (fun k18 h => ?_) ?_
    ·refine rn 1 rfl ?_
     refine wl (A := x11.Methods) 33 rfl (fun hA29 => ?_)
     refine lC (fun (p : (List UInt8) × Int) => (⟨[(5, (sV x11.Name)), (9, (sV (p.1))), (13, (V.lst 2 (a2.map encTIface))), (14, (iV ((a2.length : Nat) : Int))), (15, (iV n7)), (42, (V.lst 1 (x11.Methods.map encS))), (43, (iV ((x11.Methods.length : Nat) : Int))), (44, (iV (p.2)))], [], 0⟩ : St)) (fun n p => RG x11.Methods (fun tl nn => M127_L2 F k18 tl nn p.1 = some r) n p.2) (fun p h => RG.zero h) (x11.Methods.length + 1) (([] : List UInt8), 0) (RG.start h) (g0 rfl rfl) (fun n p h => ?_)
     obtain ⟨s21, n22⟩ := p
     refine rn 5 rfl ?_
     refine spL rfl (fun hb23 => ?_) (fun hb23 => ?_)
     ·obtain ⟨x24, tl, hx25, h, hk2⟩ := RG.t hA29 h hb23
      unfold M127_L2 at h
      refine rn 6 rfl ?_
      refine ixh hx25 rfl rfl ?_
      refine rn 11 rfl ?_
      refine cl h rfl rfl rfl (W173 _ _ _ _) rfl (fun y26 hx27 h => ?_)
      refine rn 7 rfl ?_
      refine spC h rfl (fun hb28 h => ?_) (fun hb28 h => ?_)
      ·refine rn 5 rfl ?_
       exact rt h rfl
      refine rn 10 rfl ?_
      exact jX (x24, (w64 (n22 + 1))) (hk2 _ h) (g0 rfl rfl)
     replace h := RG.f h hb23
     unfold M127_L2 at h
     refine rn 1 rfl ?_
     exact jX () h (g0 rfl rfl)
    intro _ h
    refine rn 1 rfl ?_
    exact jX x11.Name h (g0 rfl rfl)
   intro s10 h
   refine rn 4 rfl ?_
   exact jX (s10, (w64 (n7 + 1))) (hk1 _ h) (g0 rfl rfl)
  replace h := RG.f h hb8
  unfold M127_L1 at h
  refine rn 1 rfl ?_
  exact jX () h (g0 rfl rfl)
 intro _ h
 refine rn 4 rfl ?_
 exact rt h rfl
theorem W128 (F : Nat) (a1 : Treach_checker) (a2 : (List TType)) (r : Int) (h : M128 F a1 a2 = some r) : Pure Tryz.prog 128 [(V.agg (encTreach_checker a1)), (V.lst 2 (a2.map encTType))] (iV r) := by
 refine pin (fun r => (iV r)) r rfl Tryz.func128 rfl rfl rfl rfl rfl (fun w0 m0 hg => ?_)
 unfold M128 at h
 refine rn 13 rfl ?_
 refine ln rfl rfl ?_
 refine rn 2 rfl ?_
 refine jK h (fun _ : Unit => (⟨[], [], 0⟩ : St)) (fun k3 (_ : Unit) => k3 = some r) (fun k3 h => ?_) ?_
 ·refine rn 1 rfl ?_
  refine wl (A := a2) 1 rfl (fun hA33 => ?_)
  refine lC (fun (p : (List UInt8) × Int) => (⟨[(2, (V.ptr 0 4 0 0)), (5, (sV (p.1))), (13, (V.lst 2 (a2.map encTType))), (14, (iV ((a2.length : Nat) : Int))), (15, (iV (p.2)))], [(0, (Ob.arr 124 4 [(encTreach_checker a1)]))], 1⟩ : St)) (fun n p => RG a2 (fun tl nn => M128_L1 F a1 k3 tl nn p.1 = some r) n p.2) (fun p h => RG.zero h) (a2.length + 1) (([] : List UInt8), 0) (RG.start h) (gr [0] rfl (hB rfl rfl rfl .nil) rfl) (fun n p h => ?_)
  obtain ⟨s6, n7⟩ := p
  refine rn 5 rfl ?_
  refine spL rfl (fun hb8 => ?_) (fun hb8 => ?_)
  ·obtain ⟨x11, tl, hx12, h, hk1⟩ := RG.t hA33 h hb8
   unfold M128_L1 at h
   refine rn 2 rfl ?_
   refine jK h (fun (p : (List UInt8)) => (⟨[(2, (V.ptr 0 4 0 0)), (5, (sV p)), (13, (V.lst 2 (a2.map encTType))), (14, (iV ((a2.length : Nat) : Int))), (15, (iV n7))], [(0, (Ob.arr 124 4 [(encTreach_checker a1)]))], 1⟩ : St)) (fun k9 p => k9 p = some r) (fun k9 h => ?_) ?_
   ·refine rn 4 rfl ?_
    refine ixh hx12 rfl rfl ?_
    refine rn 13 rfl ?_
    refine cl h rfl rfl rfl (W173 _ _ _ _) rfl (fun y13 hx14 h => ?_)
    refine rn 7 rfl ?_
    refine spC h rfl (fun hb15 h => ?_) (fun hb15 h => ?_)
    ·refine rn 5 rfl ?_
     exact rt h rfl
    refine rn 12 rfl ?_
    refine ln rfl rfl ?_
    refine rn 2 rfl ?_
    refine spC h rfl (fun hb16 h => ?_) (fun hb16 h => ?_)
    ·refine rn 4 rfl ?_
     exact rt h rfl
    refine rn 9 rfl ?_
    refine ln rfl rfl ?_
    refine rn 2 rfl ?_
    refine jK h (fun _ : Unit => (⟨[(2, (V.ptr 0 4 0 0)), (5, (sV x11.Name)), (13, (V.lst 2 (a2.map encTType))), (14, (iV ((a2.length : Nat) : Int))), (15, (iV n7))], [(0, (Ob.arr 124 4 [(encTreach_checker a1)]))], 1⟩ : St)) (fun k17 (_ : Unit) => k17 = some r) (fun k17 h => ?_) ?_
    ·refine rn 1 rfl ?_
     refine wl (A := x11.Methods) 32 rfl (fun hA32 => ?_)
     refine lC (fun (p : (List UInt8) × Int) => (⟨[(2, (V.ptr 0 4 0 0)), (5, (sV x11.Name)), (9, (sV (p.1))), (13, (V.lst 2 (a2.map encTType))), (14, (iV ((a2.length : Nat) : Int))), (15, (iV n7)), (36, (V.lst 2 (x11.Methods.map encTMethod))), (37, (iV ((x11.Methods.length : Nat) : Int))), (38, (iV (p.2)))], [(0, (Ob.arr 124 4 [(encTreach_checker a1)]))], 1⟩ : St)) (fun n p => RG x11.Methods (fun tl nn => M128_L2 F a1 k17 tl nn p.1 = some r) n p.2) (fun p h => RG.zero h) (x11.Methods.length + 1) (([] : List UInt8), 0) (RG.start h) (gr [0] rfl (hB rfl rfl rfl .nil) rfl) (fun n p h => ?_)
     obtain ⟨s20, n21⟩ := p
     refine rn 5 rfl ?_
     refine spL rfl (fun hb22 => ?_) (fun hb22 => ?_)
     ·obtain ⟨x25, tl, hx26, h, hk2⟩ := RG.t hA32 h hb22
      unfold M128_L2 at h
      refine rn 2 rfl ?_
      refine jK h (fun (p : (List UInt8)) => (⟨[(2, (V.ptr 0 4 0 0)), (5, (sV x11.Name)), (9, (sV p)), (13, (V.lst 2 (a2.map encTType))), (14, (iV ((a2.length : Nat) : Int))), (15, (iV n7)), (36, (V.lst 2 (x11.Methods.map encTMethod))), (37, (iV ((x11.Methods.length : Nat) : Int))), (38, (iV n21))], [(0, (Ob.arr 124 4 [(encTreach_checker a1)]))], 1⟩ : St)) (fun k23 p => k23 p = some r) (fun k23 h => ?_) ?_
      ·refine rn 4 rfl ?_
       refine ixh hx26 rfl rfl ?_
       refine rn 13 rfl ?_
       refine cl h rfl rfl rfl (W173 _ _ _ _) rfl (fun y27 hx28 h => ?_)
       refine rn 7 rfl ?_
       refine spC h rfl (fun hb29 h => ?_) (fun hb29 h => ?_)
       ·refine rn 5 rfl ?_
        exact rt h rfl
       refine rn 13 rfl ?_
       refine spO 57 h rfl (fun hb30 h => ?_) (fun hb30 h => ?_)
       ·refine rn 4 rfl ?_
        refine aops_lookup _ (bV false) (bV ((mget a1.funcs x25.Func).getD false)) tMap89 tKey9 tZo4 (irel_con _) (wants_some (c := true) (b := true) 57 rfl rfl rfl) rfl .imm (.con rfl) ⟨_, rfl⟩ encM9_4_good (encM9_4_look a1.funcs x25.Func) (getD_map (encM9_4_val) (mget a1.funcs x25.Func) false) rfl ?_
        refine fo (rn 3 rfl ?_)
        refine spC h rfl (fun hb31 h => ?_) (fun hb31 h => ?_)
        ·refine rn 4 rfl ?_
         exact rt h rfl
        refine rn 2 rfl ?_
        exact jX x25.Name h (gr [0] rfl (hB rfl rfl rfl .nil) rfl)
       refine rn 11 rfl ?_
       exact jX x25.Name h (gr [0] rfl (hB rfl rfl rfl .nil) rfl)
      intro s24 h
      refine rn 4 rfl ?_
      exact jX (s24, (w64 (n21 + 1))) (hk2 _ h) (gr [0] rfl (hB rfl rfl rfl .nil) rfl)
     replace h := RG.f h hb22
     unfold M128_L2 at h
     refine rn 1 rfl ?_
     exact jX () h (gr [0] rfl (hB rfl rfl rfl .nil) rfl)
    intro _ h
    refine rn 1 rfl ?_
    exact jX x11.Name h (gr [0] rfl (hB rfl rfl rfl .nil) rfl)
   intro s10 h
   refine rn 4 rfl ?_
   exact jX (s10, (w64 (n7 + 1))) (hk1 _ h) (gr [0] rfl (hB rfl rfl rfl .nil) rfl)
  replace h := RG.f h hb8
  unfold M128_L1 at h
  refine rn 1 rfl ?_
  exact jX () h (g0 rfl rfl)
 intro _ h
 refine rn 4 rfl ?_
 exact rt h rfl
theorem W86 (F : Nat) (a1 : (List (List UInt8))) (a2 : (List UInt8)) (r : Int) (h : M86 F a1 a2 = some r) : Pure Tryz.prog 86 [(V.lst 1 (a1.map encS)), (sV a2)] (iV r) := by
 refine pin (fun r => (iV r)) r rfl Tryz.func86 rfl rfl rfl rfl rfl (fun w0 m0 hg => ?_)
 unfold M86 at h
 refine rn 8 rfl ?_
 refine ln rfl rfl ?_
 refine rn 2 rfl ?_
 refine jK h (fun _ : Unit => (⟨[], [], 0⟩ : St)) (fun k3 (_ : Unit) => k3 = some r) (fun k3 h => ?_) ?_
 ·refine rn 1 rfl ?_
  refine wl (A := a1) 0 rfl (fun hA10 => ?_)
  refine lC (fun (p : Int) => (⟨[(0, (V.lst 1 (a1.map encS))), (1, (sV a2)), (7, (iV ((a1.length : Nat) : Int))), (8, (iV p))], [], 0⟩ : St)) (fun n p => RG a1 (fun tl nn => M86_L1 F a2 k3 tl nn = some r) n p) (fun p h => RG.zero h) (a1.length + 1) 0 (RG.start h) (g0 rfl rfl) (fun n n5 h => ?_)
  refine rn 5 rfl ?_
  refine spL rfl (fun hb6 => ?_) (fun hb6 => ?_)
  ·obtain ⟨x7, tl, hx8, h, hk1⟩ := RG.t hA10 h hb6
   unfold M86_L1 at h
   refine rn 13 rfl ?_
   refine ixh hx8 rfl rfl ?_
   refine rn 3 rfl ?_
   refine spC h rfl (fun hb9 h => ?_) (fun hb9 h => ?_)
   ·refine rn 5 rfl ?_
    exact rt h rfl
   refine rn 6 rfl ?_
   exact jX (w64 (n5 + 1)) (hk1 _ h) (g0 rfl rfl)
  replace h := RG.f h hb6
  unfold M86_L1 at h
  refine rn 1 rfl ?_
  exact jX () h (g0 rfl rfl)
 intro _ h
 refine rn 4 rfl ?_
 exact rt h rfl
theorem W23 (F : Nat) (a1 : (List (List UInt8))) (a2 : (List UInt8)) (r : Bool) (h : M23 F a1 a2 = some r) : Pure Tryz.prog 23 [(V.lst 1 (a1.map encS)), (sV a2)] (bV r) := by
 refine pin (fun r => (bV r)) r rfl Tryz.func23 rfl rfl rfl rfl rfl (fun w0 m0 hg => ?_)
 unfold M23 at h
 refine rn 8 rfl ?_
 refine cl h rfl rfl rfl (W86 _ _ _) rfl (fun y3 hx4 h => ?_)
 refine rn 3 rfl ?_
 exact rt h rfl
theorem W174 (F : Nat) (a1 : Treach_checker) (a2 : TCall) (r : Int) (h : M174 F a1 a2 = some r) : Pure Tryz.prog 174 [(V.agg (encTreach_checker a1)), (V.agg (encTCall a2))] (iV r) := by
 refine pin (fun r => (iV r)) r rfl Tryz.func174 rfl rfl rfl rfl rfl (fun w0 m0 hg => ?_)
 unfold M174 at h
 refine rn 18 rfl ?_
 refine jK h (fun _ : Unit => (⟨[(3, (V.ptr 0 4 0 0))], [(0, (Ob.arr 109 4 [(encTCall a2)]))], 1⟩ : St)) (fun k3 (_ : Unit) => k3 = some r) (fun k3 h => ?_) ?_
 ·refine spC h rfl (fun hb4 h => ?_) (fun hb4 h => ?_)
  ·refine rn 7 rfl ?_
   refine spO 14 h rfl (fun hb5 h => ?_) (fun hb5 h => ?_)
   ·refine rn 4 rfl ?_
    refine aops_lookup _ (bV false) (bV ((mget a1.funcs a2.Target).getD false)) tMap89 tKey9 tZo4 (irel_con _) (wants_some (c := true) (b := true) 14 rfl rfl rfl) rfl .imm (.con rfl) ⟨_, rfl⟩ encM9_4_good (encM9_4_look a1.funcs a2.Target) (getD_map (encM9_4_val) (mget a1.funcs a2.Target) false) rfl ?_
    refine fo (rn 3 rfl ?_)
    refine spC h rfl (fun hb6 h => ?_) (fun hb6 h => ?_)
    ·refine rn 4 rfl ?_
     exact rt h rfl
    refine rn 7 rfl ?_
    refine spC h rfl (fun hb7 h => ?_) (fun hb7 h => ?_)
    ·refine rn 4 rfl ?_
     exact rt h rfl
    refine rn 1 rfl ?_
    exact jX () h (gr [1] rfl (hB rfl rfl rfl .nil) rfl)
   refine rn 16 rfl ?_
   refine spC h rfl (fun hb8 h => ?_) (fun hb8 h => ?_)
   ·refine rn 4 rfl ?_
    exact rt h rfl
   refine rn 1 rfl ?_
   exact jX () h (gr [1] rfl (hB rfl rfl rfl .nil) rfl)
  refine rn 5 rfl ?_
  refine spC h rfl (fun hb9 h => ?_) (fun hb9 h => ?_)
  ·refine rn 6 rfl ?_
   refine aops_lookup_okB _ (V.agg [(sV ([] : List UInt8)), (V.lst 1 (([] : List (List UInt8)).map encS))]) (V.agg (encTIface ((mget a1.ifaces a2.Target).getD (TIface.mk ([] : List UInt8) ([] : (List (List UInt8))))))) tMap122 tKey9 tZo98 (irel_aggZ (.con (.sl .nil))) wants_none rfl .imm (.con rfl) ⟨_, rfl⟩ encM9_98_good (encM9_98_look a1.ifaces a2.Target) (getD_map (encM9_98_val) (mget a1.ifaces a2.Target) (TIface.mk ([] : List UInt8) ([] : (List (List UInt8))))) (isSome_map ..) rfl ?_
   refine fo (rn 13 rfl ?_)
   refine spO 38 h rfl (fun hb10 h => ?_) (fun hb10 h => ?_)
   ·refine rn 3 rfl ?_
    refine spO 41 h rfl (fun hb11 h => ?_) (fun hb11 h => ?_)
    ·refine rn 14 rfl ?_
     exact rt h rfl
    refine rn 4 rfl ?_
    refine cl h rfl rfl rfl (W23 _ _ _) rfl (fun y12 hx13 h => ?_)
    refine rn 4 rfl ?_
    refine spC h rfl (fun hb14 h => ?_) (fun hb14 h => ?_)
    ·refine rn 4 rfl ?_
     exact rt h rfl
    refine rn 1 rfl ?_
    exact jX () h (gr [1] rfl (hB rfl rfl rfl .nil) rfl)
   refine rn 14 rfl ?_
   exact jX () h (gr [1] rfl (hB rfl rfl rfl .nil) rfl)
  refine rn 4 rfl ?_
  exact rt h rfl
 intro _ h
 refine rn 8 rfl ?_
 refine spO 53 h rfl (fun hb15 h => ?_) (fun hb15 h => ?_)
 ·refine rn 2 rfl ?_
  refine cl h rfl rfl rfl (W79 _ _) rfl (fun y16 hx17 h => ?_)
  refine rn 3 rfl ?_
  refine spC h rfl (fun hb18 h => ?_) (fun hb18 h => ?_)
  ·refine rn 4 rfl ?_
   exact rt h rfl
  refine rn 5 rfl ?_
  exact rt h rfl
 refine rn 12 rfl ?_
 exact rt h rfl
theorem W130 (F : Nat) (a1 : Treach_checker) (a2 : (List (List UInt8))) (a3 : (List ((List UInt8) × Bool))) (r : Int) (h : M130 F a1 a2 a3 = some r) : Pure Tryz.prog 130 [(V.agg (encTreach_checker a1)), (V.lst 1 (a2.map encS)), (V.imap (a3.map encM9_4))] (iV r) := by
 refine pin (fun r => (iV r)) r rfl Tryz.func130 rfl rfl rfl rfl rfl (fun w0 m0 hg => ?_)
 unfold M130 at h
 refine rn 9 rfl ?_
 refine ln rfl rfl ?_
 refine rn 2 rfl ?_
 refine jK h (fun _ : Unit => (⟨[], [], 0⟩ : St)) (fun k4 (_ : Unit) => k4 = some r) (fun k4 h => ?_) ?_
 ·refine rn 1 rfl ?_
  refine wl (A := a2) 1 rfl (fun hA22 => ?_)
  refine lC (fun (p : Int) => (⟨[(1, (V.lst 1 (a2.map encS))), (2, (V.imap (a3.map encM9_4))), (3, (V.ptr 0 4 0 0)), (9, (V.lst 1 (a2.map encS))), (10, (iV ((a2.length : Nat) : Int))), (11, (iV p))], [(0, (Ob.arr 124 4 [(encTreach_checker a1)]))], 1⟩ : St)) (fun n p => RG a2 (fun tl nn => M130_L1 F a1 a2 a3 k4 tl nn = some r) n p) (fun p h => RG.zero h) (a2.length + 1) 0 (RG.start h) (gr [0] rfl (hB rfl rfl rfl .nil) rfl) (fun n n6 h => ?_)
  refine rn 5 rfl ?_
  refine spL rfl (fun hb7 => ?_) (fun hb7 => ?_)
  ·obtain ⟨x8, tl, hx9, h, hk1⟩ := RG.t hA22 h hb7
   unfold M130_L1 at h
   refine rn 6 rfl ?_
   refine ixh hx9 rfl rfl ?_
   refine rn 4 rfl ?_
   refine jK h (fun _ : Unit => (⟨[(1, (V.lst 1 (a2.map encS))), (2, (V.imap (a3.map encM9_4))), (3, (V.ptr 0 4 0 0)), (9, (V.lst 1 (a2.map encS))), (10, (iV ((a2.length : Nat) : Int))), (11, (iV n6))], [(0, (Ob.arr 124 4 [(encTreach_checker a1)]))], 1⟩ : St)) (fun k10 (_ : Unit) => k10 = some r) (fun k10 h => ?_) ?_
   ·refine rn 7 rfl ?_
    refine spO 20 h rfl (fun hb11 h => ?_) (fun hb11 h => ?_)
    ·refine rn 2 rfl ?_
     refine aops_lookup _ (bV false) (bV ((mget a3 x8).getD false)) tMap89 tKey9 tZo4 (irel_con _) (wants_some (c := true) (b := true) 20 rfl rfl rfl) rfl .imm (.con rfl) ⟨_, rfl⟩ encM9_4_good (encM9_4_look a3 x8) (getD_map (encM9_4_val) (mget a3 x8) false) rfl ?_
     refine fo (rn 4 rfl ?_)
     refine jK h (fun _ : Unit => (⟨[(1, (V.lst 1 (a2.map encS))), (2, (V.imap (a3.map encM9_4))), (3, (V.ptr 0 4 0 0)), (9, (V.lst 1 (a2.map encS))), (10, (iV ((a2.length : Nat) : Int))), (11, (iV n6)), (24, (bV (!((mget a3 x8).getD false))))], [(0, (Ob.arr 124 4 [(encTreach_checker a1)]))], 1⟩ : St)) (fun k12 (_ : Unit) => k12 = some r) (fun k12 h => ?_) ?_
     ·refine spC h rfl (fun hb13 h => ?_) (fun hb13 h => ?_)
      ·refine rn 4 rfl ?_
       exact rt h rfl
      refine rn 5 rfl ?_
      refine spO 29 h rfl (fun hb14 h => ?_) (fun hb14 h => ?_)
      ·refine rn 4 rfl ?_
       refine ixl h rfl rfl (fun x15 hx16 h => ?_)
       refine rn 5 rfl ?_
       refine spC h rfl (fun hb17 h => ?_) (fun hb17 h => ?_)
       ·refine rn 4 rfl ?_
        exact rt h rfl
       refine rn 1 rfl ?_
       exact jX () h (gr [0] rfl (hB rfl rfl rfl .nil) rfl)
      refine rn 12 rfl ?_
      exact jX () h (gr [0] rfl (hB rfl rfl rfl .nil) rfl)
     intro _ h
     refine rn 1 rfl ?_
     exact jX () h (gr [0] rfl (hB rfl rfl rfl .nil) rfl)
    refine rn 13 rfl ?_
    refine spO 29 h rfl (fun hb18 h => ?_) (fun hb18 h => ?_)
    ·refine rn 4 rfl ?_
     refine ixl h rfl rfl (fun x19 hx20 h => ?_)
     refine rn 5 rfl ?_
     refine spC h rfl (fun hb21 h => ?_) (fun hb21 h => ?_)
     ·refine rn 4 rfl ?_
      exact rt h rfl
     refine rn 2 rfl ?_
     exact jX () h (gr [0] rfl (hB rfl rfl rfl .nil) rfl)
    refine rn 13 rfl ?_
    exact jX () h (gr [0] rfl (hB rfl rfl rfl .nil) rfl)
   intro _ h
   refine rn 5 rfl ?_
   exact jX (w64 (n6 + 1)) (hk1 _ h) (gr [0] rfl (hB rfl rfl rfl .nil) rfl)
  replace h := RG.f h hb7
  unfold M130_L1 at h
  refine rn 1 rfl ?_
  exact jX () h (g0 rfl rfl)
 intro _ h
 refine rn 4 rfl ?_
 exact rt h rfl
theorem W129 (F : Nat) (a1 : Treach_checker) (a2 : (List TFunc)) (r : Int) (h : M129 F a1 a2 = some r) : Pure Tryz.prog 129 [(V.agg (encTreach_checker a1)), (V.lst 4 (a2.map encTFunc))] (iV r) := by
 refine pin (fun r => (iV r)) r rfl Tryz.func129 rfl rfl rfl rfl rfl (fun w0 m0 hg => ?_)
 unfold M129 at h
 refine rn 13 rfl ?_
 refine ln rfl rfl ?_
 refine rn 2 rfl ?_
 refine jK h (fun _ : Unit => (⟨[], [], 0⟩ : St)) (fun k3 (_ : Unit) => k3 = some r) (fun k3 h => ?_) ?_
 ·refine rn 1 rfl ?_
  refine wl (A := a2) 1 rfl (fun hA33 => ?_)
  refine lC (fun (p : (List UInt8) × Int) => (⟨[(2, (V.ptr 0 4 0 0)), (5, (sV (p.1))), (13, (V.lst 4 (a2.map encTFunc))), (14, (iV ((a2.length : Nat) : Int))), (15, (iV (p.2)))], [(0, (Ob.arr 124 4 [(encTreach_checker a1)]))], 1⟩ : St)) (fun n p => RG a2 (fun tl nn => M129_L1 F a1 k3 tl nn p.1 = some r) n p.2) (fun p h => RG.zero h) (a2.length + 1) (([] : List UInt8), 0) (RG.start h) (gr [0] rfl (hB rfl rfl rfl .nil) rfl) (fun n p h => ?_)
  obtain ⟨s6, n7⟩ := p
  refine rn 5 rfl ?_
  refine spL rfl (fun hb8 => ?_) (fun hb8 => ?_)
  ·obtain ⟨x11, tl, hx12, h, hk1⟩ := RG.t hA33 h hb8
   unfold M129_L1 at h
   refine rn 2 rfl ?_
   refine jK h (fun (p : (List UInt8)) => (⟨[(2, (V.ptr 0 4 0 0)), (5, (sV p)), (13, (V.lst 4 (a2.map encTFunc))), (14, (iV ((a2.length : Nat) : Int))), (15, (iV n7))], [(0, (Ob.arr 124 4 [(encTreach_checker a1)]))], 1⟩ : St)) (fun k9 p => k9 p = some r) (fun k9 h => ?_) ?_
   ·refine rn 4 rfl ?_
    refine ixh hx12 rfl rfl ?_
    refine rn 13 rfl ?_
    refine cl h rfl rfl rfl (W173 _ _ _ _) rfl (fun y13 hx14 h => ?_)
    refine rn 7 rfl ?_
    refine spC h rfl (fun hb15 h => ?_) (fun hb15 h => ?_)
    ·refine rn 5 rfl ?_
     exact rt h rfl
    refine rn 13 rfl ?_
    refine cl h rfl rfl rfl (W79 _ _) rfl (fun y16 hx17 h => ?_)
    refine rn 3 rfl ?_
    refine spC h rfl (fun hb18 h => ?_) (fun hb18 h => ?_)
    ·refine rn 4 rfl ?_
     exact rt h rfl
    refine rn 4 rfl ?_
    refine ln rfl rfl ?_
    refine rn 3 rfl ?_
    refine spC h rfl (fun hb19 h => ?_) (fun hb19 h => ?_)
    ·refine rn 4 rfl ?_
     exact rt h rfl
    refine rn 7 rfl ?_
    refine ln rfl rfl ?_
    refine rn 2 rfl ?_
    refine jK h (fun _ : Unit => (⟨[(2, (V.ptr 0 4 0 0)), (5, (sV x11.Name)), (7, (V.ptr 1 4 0 0)), (13, (V.lst 4 (a2.map encTFunc))), (14, (iV ((a2.length : Nat) : Int))), (15, (iV n7))], [(0, (Ob.arr 124 4 [(encTreach_checker a1)])), (1, (Ob.arr 94 4 [(encTFunc x11)]))], 2⟩ : St)) (fun k20 (_ : Unit) => k20 = some r) (fun k20 h => ?_) ?_
    ·refine rn 1 rfl ?_
     refine wl (A := x11.Calls) 38 rfl (fun hA29 => ?_)
     refine lC (fun (p : Int) => (⟨[(2, (V.ptr 0 4 0 0)), (5, (sV x11.Name)), (7, (V.ptr 1 4 0 0)), (13, (V.lst 4 (a2.map encTFunc))), (14, (iV ((a2.length : Nat) : Int))), (15, (iV n7)), (42, (V.lst 4 (x11.Calls.map encTCall))), (43, (iV ((x11.Calls.length : Nat) : Int))), (44, (iV p))], [(0, (Ob.arr 124 4 [(encTreach_checker a1)])), (1, (Ob.arr 94 4 [(encTFunc x11)]))], 2⟩ : St)) (fun n p => RG x11.Calls (fun tl nn => M129_L2 F a1 k20 tl = some r) n p) (fun p h => RG.zero h) (x11.Calls.length + 1) 0 (RG.start h) (gr [0, 1] rfl (hB rfl rfl rfl (hB rfl rfl rfl .nil)) rfl) (fun n n22 h => ?_)
     refine rn 5 rfl ?_
     refine spL rfl (fun hb23 => ?_) (fun hb23 => ?_)
     ·obtain ⟨x24, tl, hx25, h, hk2⟩ := RG.t hA29 h hb23
      unfold M129_L2 at h
      refine rn 5 rfl ?_
      refine ixh hx25 rfl rfl ?_
      refine rn 8 rfl ?_
      refine cl h rfl rfl rfl (W174 _ _ _) rfl (fun y26 hx27 h => ?_)
      refine rn 7 rfl ?_
      refine spC h rfl (fun hb28 h => ?_) (fun hb28 h => ?_)
      ·refine rn 5 rfl ?_
       exact rt h rfl
      refine rn 6 rfl ?_
      exact jX (w64 (n22 + 1)) (hk2 _ h) (gr [0, 1] rfl (hB rfl rfl rfl (hB rfl rfl rfl .nil)) rfl)
     replace h := RG.f h hb23
     unfold M129_L2 at h
     refine rn 1 rfl ?_
     exact jX () h (gr [0, 1] rfl (hB rfl rfl rfl (hB rfl rfl rfl .nil)) rfl)
    intro _ h
    refine rn 7 rfl ?_
    refine cl h rfl rfl rfl (W130 _ _ _ _) rfl (fun y30 hx31 h => ?_)
    refine rn 7 rfl ?_
    refine spC h rfl (fun hb32 h => ?_) (fun hb32 h => ?_)
    ·refine rn 5 rfl ?_
     exact rt h rfl
    refine rn 2 rfl ?_
    exact jX x11.Name h (gr [0] rfl (hB rfl rfl rfl .nil) rfl)
   intro s10 h
   refine rn 4 rfl ?_
   exact jX (s10, (w64 (n7 + 1))) (hk1 _ h) (gr [0] rfl (hB rfl rfl rfl .nil) rfl)
  replace h := RG.f h hb8
  unfold M129_L1 at h
  refine rn 1 rfl ?_
  exact jX () h (g0 rfl rfl)
 intro _ h
 refine rn 4 rfl ?_
 exact rt h rfl
theorem W60 (F : Nat) (a1 : Treach_checker) (a2 : TGraph) (r : Int) (h : M60 F a1 a2 = some r) : Pure Tryz.prog 60 [(V.agg (encTreach_checker a1)), (V.agg (encTGraph a2))] (iV r) := by
 refine pin (fun r => (iV r)) r rfl Tryz.func60 rfl rfl rfl rfl rfl (fun w0 m0 hg => ?_)
 unfold M60 at h
 refine rn 11 rfl ?_
 refine ln rfl rfl ?_
 refine rn 2 rfl ?_
 refine spO 12 h rfl (fun hb3 h => ?_) (fun hb3 h => ?_)
 ·refine rn 17 rfl ?_
  exact rt h rfl
 refine rn 2 rfl ?_
 refine ln rfl rfl ?_
 refine rn 3 rfl ?_
 refine spO 18 h rfl (fun hb4 h => ?_) (fun hb4 h => ?_)
 ·refine rn 11 rfl ?_
  exact rt h rfl
 refine rn 2 rfl ?_
 refine ln rfl rfl ?_
 refine rn 3 rfl ?_
 refine spC h rfl (fun hb5 h => ?_) (fun hb5 h => ?_)
 ·refine rn 4 rfl ?_
  exact rt h rfl
 refine rn 7 rfl ?_
 refine cl h rfl rfl rfl (W127 _ _ _) rfl (fun y6 hx7 h => ?_)
 refine rn 7 rfl ?_
 refine spC h rfl (fun hb8 h => ?_) (fun hb8 h => ?_)
 ·refine rn 5 rfl ?_
  exact rt h rfl
 refine rn 7 rfl ?_
 refine cl h rfl rfl rfl (W128 _ _ _) rfl (fun y9 hx10 h => ?_)
 refine rn 7 rfl ?_
 refine spC h rfl (fun hb11 h => ?_) (fun hb11 h => ?_)
 ·refine rn 5 rfl ?_
  exact rt h rfl
 refine rn 7 rfl ?_
 refine cl h rfl rfl rfl (W129 _ _ _) rfl (fun y12 hx13 h => ?_)
 refine rn 7 rfl ?_
 refine spC h rfl (fun hb14 h => ?_) (fun hb14 h => ?_)
 ·refine rn 5 rfl ?_
  exact rt h rfl
 refine rn 8 rfl ?_
 refine cl h rfl rfl rfl (W130 _ _ _ _) rfl (fun y15 hx16 h => ?_)
 refine rn 2 rfl ?_
 exact rt h rfl
theorem W44 (F : Nat) (a1 : TIface) (r : (List UInt8)) (h : M44 F a1 = some r) : Pure Tryz.prog 44 [(V.agg (encTIface a1))] (sV r) := by
 refine pin (fun r => (sV r)) r rfl Tryz.func44 rfl rfl rfl rfl rfl (fun w0 m0 hg => ?_)
 unfold M44 at h
 refine rn 11 rfl ?_
 exact rt h rfl
theorem W26 (F : Nat) (a1 : (List (List UInt8))) (a2 : (List (List UInt8))) (r : Bool) (h : M26 F a1 a2 = some r) : Pure Tryz.prog 26 [(V.lst 1 (a1.map encS)), (V.lst 1 (a2.map encS))] (bV r) := by
 refine pin (fun r => (bV r)) r rfl Tryz.func26 rfl rfl rfl rfl rfl (fun w0 m0 hg => ?_)
 unfold M26 at h
 refine rn 8 rfl ?_
 refine ln rfl rfl ?_
 refine rn 1 rfl ?_
 refine ln rfl rfl ?_
 refine rn 2 rfl ?_
 refine spC h rfl (fun hb3 h => ?_) (fun hb3 h => ?_)
 ·refine rn 4 rfl ?_
  exact rt h rfl
 refine rn 5 rfl ?_
 refine ln rfl rfl ?_
 refine rn 2 rfl ?_
 refine jK h (fun _ : Unit => (⟨[], [], 0⟩ : St)) (fun k4 (_ : Unit) => k4 = some r) (fun k4 h => ?_) ?_
 ·refine rn 1 rfl ?_
  refine wl (A := a1) 0 rfl (fun hA13 => ?_)
  refine lC (fun (p : Int) => (⟨[(0, (V.lst 1 (a1.map encS))), (1, (V.lst 1 (a2.map encS))), (12, (iV ((a1.length : Nat) : Int))), (13, (iV p))], [], 0⟩ : St)) (fun n p => RG a1 (fun tl nn => M26_L1 F a2 k4 tl nn = some r) n p) (fun p h => RG.zero h) (a1.length + 1) 0 (RG.start h) (g0 rfl rfl) (fun n n6 h => ?_)
  refine rn 5 rfl ?_
  refine spL rfl (fun hb7 => ?_) (fun hb7 => ?_)
  ·obtain ⟨x8, tl, hx9, h, hk1⟩ := RG.t hA13 h hb7
   unfold M26_L1 at h
   obtain ⟨x10, hx11, h⟩ := bind_some h
   refine rn 9 rfl ?_
   refine dr mixed (vs 2 rfl (iD hx9 rfl rfl rfl (vs 3 rfl (iD hx11 rfl rfl rfl (vs 2 rfl .nil))))) (by kernel_rfl) ?_
   refine spC h rfl (fun hb12 h => ?_) (fun hb12 h => ?_)
   ·refine rn 4 rfl ?_
    exact rt h rfl
   refine rn 6 rfl ?_
   exact jX (w64 (n6 + 1)) (hk1 _ h) (g0 rfl rfl)
  replace h := RG.f h hb7
  unfold M26_L1 at h
  refine rn 1 rfl ?_
  exact jX () h (g0 rfl rfl)
 intro _ h
 refine rn 4 rfl ?_
 exact rt h rfl
theorem W62 (F : Nat) (a1 : TIface) (a2 : TIface) (r : Bool) (h : M62 F a1 a2 = some r) : Pure Tryz.prog 62 [(V.agg (encTIface a1)), (V.agg (encTIface a2))] (bV r) := by
 refine pin (fun r => (bV r)) r rfl Tryz.func62 rfl rfl rfl rfl rfl (fun w0 m0 hg => ?_)
 unfold M62 at h
 refine rn 14 rfl ?_
 refine spO 10 h rfl (fun hb3 h => ?_) (fun hb3 h => ?_)
 ·refine rn 4 rfl ?_
  refine cl h rfl rfl rfl (W26 _ _ _) rfl (fun y4 hx5 h => ?_)
  refine rn 3 rfl ?_
  exact rt h rfl
 refine rn 8 rfl ?_
 exact rt h rfl
theorem W61 (F : Nat) (a1 : (List TIface)) (a2 : List TIface) (a3 : List ((List UInt8) × Int)) (r : (Bool × (List ((List UInt8) × Int)) × (List TIface))) (h : M61 F a1 a2 a3 = some r) : Mut Tryz.prog 61 [(V.own 0 a2.length), (V.lst 2 (a1.map encTIface)), (V.map 1), (V.fn (.func 44) [] []), (V.fn (.func 62) [] [])] 2 [(0, (Ob.arr 98 2 (a2.map encTIface))), (1, (Ob.map (a3.map encM9_3)))] (resV [(V.own 2 (r.2.2).length), (bV (r.1))]) 3 [(0, Ob.dead), (1, (Ob.map ((r.2.1).map encM9_3))), (2, (Ob.arr 98 2 ((r.2.2).map encTIface)))] := by
 refine mut_enter Tryz.func61 rfl rfl (l := [.tmp 10, .tmp 11]) rfl rfl [(0, (V.own 0 a2.length)), (1, (V.lst 2 (a1.map encTIface))), (2, (V.map 1)), (3, (V.fn (.func 44) [] [])), (4, (V.fn (.func 62) [] []))] rfl (fun w0 m0 β0 hg => en ?_)
 unfold M61 at h
 refine rn 9 rfl ?_
 refine ln rfl rfl ?_
 refine rn 2 rfl ?_
 refine jK h (fun (p : (List ((List UInt8) × Int)) × (List TIface)) => (⟨[(0, (V.own 2 (p.2).length))], [(0, Ob.dead), (1, (Ob.map ((p.1).map encM9_3))), (2, (Ob.arr 98 2 ((p.2).map encTIface)))], 3⟩ : St)) (fun k45 p => k45 p.1 p.2 = some r) (fun k45 h => ?_) ?_
 ·refine rn 1 rfl ?_
  refine wl (A := a1) 1 rfl (fun hA82 => ?_)
  refine lC (fun (p : Int × (List ((List UInt8) × Int)) × (List TIface)) => (⟨[(0, (V.own 2 (p.2.2).length)), (2, (V.map 1)), (3, (V.fn (.func 44) [] [])), (4, (V.fn (.func 62) [] [])), (16, (V.lst 2 (a1.map encTIface))), (17, (iV ((a1.length : Nat) : Int))), (18, (iV (p.1)))], [(0, Ob.dead), (1, (Ob.map ((p.2.1).map encM9_3))), (2, (Ob.arr 98 2 ((p.2.2).map encTIface)))], 3⟩ : St)) (fun n p => RG a1 (fun tl nn => M61_L1 F k45 tl p.2.1 p.2.2 = some r) n p.1) (fun p h => RG.zero h) (a1.length + 1) (0, a3, a2) (RG.start h) (Ghost.trans (ghost_mvE 0 0 2 98 2 (a2.length) rfl rfl rfl) (gr [0, 1, 2] rfl (hD rfl (hM rfl rfl (hR rfl rfl .nil))) rfl)) (fun n p h => ?_)
  obtain ⟨n51, m52, l53⟩ := p
  refine rn 5 rfl ?_
  refine spL rfl (fun hb54 => ?_) (fun hb54 => ?_)
  ·obtain ⟨x58, tl, hx59, h, hk1⟩ := RG.t hA82 h hb54
   unfold M61_L1 at h
   refine rn 2 rfl ?_
   refine jK h (fun (p : (List ((List UInt8) × Int)) × (List TIface)) => (⟨[(0, (V.own 2 (p.2).length)), (2, (V.map 1)), (3, (V.fn (.func 44) [] [])), (4, (V.fn (.func 62) [] [])), (16, (V.lst 2 (a1.map encTIface))), (17, (iV ((a1.length : Nat) : Int))), (18, (iV n51))], [(0, Ob.dead), (1, (Ob.map ((p.1).map encM9_3))), (2, (Ob.arr 98 2 ((p.2).map encTIface)))], 3⟩ : St)) (fun k55 p => k55 p.1 p.2 = some r) (fun k55 h => ?_) ?_
   ·refine rn 3 rfl ?_
    refine ixh hx59 rfl rfl ?_
    refine rn 9 rfl ?_
    refine cl h rfl rfl rfl (W44 _ _) rfl (fun y60 hx61 h => ?_)
    refine aops_lookup_okB _ (iV 0) (iV ((mget m52 y60).getD 0)) tMap87 tKey9 tZo3 (irel_con _) wants_none rfl (.own rfl) (.con rfl) ⟨_, rfl⟩ encM9_3_good (encM9_3_look m52 y60) (getD_map (encM9_3_val) (mget m52 y60) 0) (isSome_map ..) rfl ?_
    refine fo (rn 8 rfl ?_)
    refine bs h (fun hb62 h => ?_) (fun hb62 h => ?_)
    ·obtain ⟨x63, hx64, h⟩ := bind_some h
     obtain ⟨y65, hx66, h⟩ := bind_some h
     refine dr mixed (vs 1 rfl (vb hb62 rfl (vs 3 rfl (oD (a := l53) hx64 rfl rfl rfl rfl (lD hx64 rfl rfl rfl rfl rfl (vs 1 rfl (cD rfl rfl rfl rfl (W62 _ _ _ _ hx66) rfl (vs 2 rfl .nil)))))))) (by kernel_rfl) ?_
     refine spC h rfl (fun hb67 h => ?_) (fun hb67 h => ?_)
     ·refine rn 5 rfl ?_
      replace h := Option.some.inj h
      subst h
      exact wR ⟨.inl rfl, [(10, (V.own 2 ([] : List TIface).length)), (11, (bV false))], (Ghost.trans (ghost_nilE 10 98 2 rfl) (ghost_ren 3 (fun i => ([0, 1, 4] : List Nat).getD i 0) _ _ (by decide) (EnvSub.get (.cons (Sub.ownE rfl rfl (by simp)) (.cons (Sub.imm (Imm.con _)) .nil))) (HpSub.get (.cons rfl ObSub.deadT (.cons rfl (ObSub.maps encM9_3_imm) (.cons rfl (ObSub.rows (rows_imm imms_encTIface)) .nil)))) rfl)), (.cons (.tmp rfl) (.cons (.tmp rfl) .nil))⟩
     refine rn 6 rfl ?_
     refine jK h (fun (p : (List ((List UInt8) × Int)) × (List TIface)) => (⟨[(0, (V.own 2 (p.2).length)), (2, (V.map 1)), (3, (V.fn (.func 44) [] [])), (4, (V.fn (.func 62) [] [])), (16, (V.lst 2 (a1.map encTIface))), (17, (iV ((a1.length : Nat) : Int))), (18, (iV n51)), (39, (bV (!y65)))], [(0, Ob.dead), (1, (Ob.map ((p.1).map encM9_3))), (2, (Ob.arr 98 2 ((p.2).map encTIface)))], 3⟩ : St)) (fun k68 p => k68 p.1 p.2 = some r) (fun k68 h => ?_) ?_
     ·refine spC h rfl (fun hb71 h => ?_) (fun hb71 h => ?_)
      ·refine rn 5 rfl ?_
       refine cl h rfl rfl rfl (W44 _ _) rfl (fun y72 hx73 h => ?_)
       refine rn 2 rfl ?_
       refine aops_mapUpdate (es := m52.map encM9_3) ((mput m52 y72 ((l53.length : Nat) : Int)).map encM9_3) tMap87 tKey9 wants_none rfl rfl (.con rfl) ⟨_, rfl⟩ encM9_3_good rfl (encM9_3_puts m52 y72 ((l53.length : Nat) : Int)) ?_
       refine fo (rn 4 rfl ?_)
       refine aops_buildSlice [(0, (V.agg (encTIface x58)))] [(encTIface x58)] tEl22 tZ98 rfl rfl rfl rfl wants_none (evp_cons rfl evp_nil) rfl rfl (by simp) rfl ?_
       refine fo ?_
       refine apO encTIface h rfl rfl rfl rfl rfl rfl rfl rfl (fun h => ?_)
       refine rn 2 rfl ?_
       exact jX ((mput m52 y72 ((l53.length : Nat) : Int)), (l53 ++ ([x58] : List TIface))) h (gr [0, 1, 5] rfl (hD rfl (hM rfl rfl (hR rfl rfl .nil))) rfl)
      refine rn 1 rfl ?_
      exact jX (m52, l53) h (gr [0, 1, 2] rfl (hD rfl (hM rfl rfl (hR rfl rfl .nil))) rfl)
     rintro ⟨m69, l70⟩ h
     refine rn 1 rfl ?_
     exact jX (m69, l70) h (gr [0, 1, 2] rfl (hD rfl (hM rfl rfl (hR rfl rfl .nil))) rfl)
    refine dr mixed (vs 1 rfl (vb hb62 rfl (vs 9 rfl .nil))) (by kernel_rfl) ?_
    refine rn 7 rfl ?_
    refine jK h (fun (p : (List ((List UInt8) × Int)) × (List TIface)) => (⟨[(0, (V.own 2 (p.2).length)), (2, (V.map 1)), (3, (V.fn (.func 44) [] [])), (4, (V.fn (.func 62) [] [])), (16, (V.lst 2 (a1.map encTIface))), (17, (iV ((a1.length : Nat) : Int))), (18, (iV n51)), (39, (V.con undef))], [(0, Ob.dead), (1, (Ob.map ((p.1).map encM9_3))), (2, (Ob.arr 98 2 ((p.2).map encTIface)))], 3⟩ : St)) (fun k75 p => k75 p.1 p.2 = some r) (fun k75 h => ?_) ?_
    ·refine spC h rfl (fun hb78 h => ?_) (fun hb78 h => ?_)
     ·refine rn 5 rfl ?_
      refine cl h rfl rfl rfl (W44 _ _) rfl (fun y79 hx80 h => ?_)
      refine rn 2 rfl ?_
      refine aops_mapUpdate (es := m52.map encM9_3) ((mput m52 y79 ((l53.length : Nat) : Int)).map encM9_3) tMap87 tKey9 wants_none rfl rfl (.con rfl) ⟨_, rfl⟩ encM9_3_good rfl (encM9_3_puts m52 y79 ((l53.length : Nat) : Int)) ?_
      refine fo (rn 4 rfl ?_)
      refine aops_buildSlice [(0, (V.agg (encTIface x58)))] [(encTIface x58)] tEl22 tZ98 rfl rfl rfl rfl wants_none (evp_cons rfl evp_nil) rfl rfl (by simp) rfl ?_
      refine fo ?_
      refine apO encTIface h rfl rfl rfl rfl rfl rfl rfl rfl (fun h => ?_)
      refine rn 2 rfl ?_
      exact jX ((mput m52 y79 ((l53.length : Nat) : Int)), (l53 ++ ([x58] : List TIface))) h (gr [0, 1, 5] rfl (hD rfl (hM rfl rfl (hR rfl rfl .nil))) rfl)
     refine rn 1 rfl ?_
     exact jX (m52, l53) h (gr [0, 1, 2] rfl (hD rfl (hM rfl rfl (hR rfl rfl .nil))) rfl)
    rintro ⟨m76, l77⟩ h
    refine rn 1 rfl ?_
    exact jX (m76, l77) h (gr [0, 1, 2] rfl (hD rfl (hM rfl rfl (hR rfl rfl .nil))) rfl)
   rintro ⟨m56, l57⟩ h
   refine rn 4 rfl ?_
   exact jX ((w64 (n51 + 1)), m56, l57) (hk1 _ h) (gr [0, 1, 2] rfl (hD rfl (hM rfl rfl (hR rfl rfl .nil))) rfl)
  replace h := RG.f h hb54
  unfold M61_L1 at h
  refine rn 1 rfl ?_
  exact jX (m52, l53) h (gr [0, 1, 2] rfl (hD rfl (hM rfl rfl (hR rfl rfl .nil))) rfl)
 rintro ⟨m46, l47⟩ h
 refine rn 6 rfl ?_
 replace h := Option.some.inj h
 subst h
 exact wR ⟨.inl rfl, [(10, (V.own 2 l47.length)), (11, (bV true))], (gr [0, 1, 2] rfl (hD rfl (hM rfl rfl (hR rfl rfl .nil))) rfl), (.cons (.tmp rfl) (.cons (.tmp rfl) .nil))⟩
theorem W47 (F : Nat) (a1 : TType) (r : (List UInt8)) (h : M47 F a1 = some r) : Pure Tryz.prog 47 [(V.agg (encTType a1))] (sV r) := by
 refine pin (fun r => (sV r)) r rfl Tryz.func47 rfl rfl rfl rfl rfl (fun w0 m0 hg => ?_)
 unfold M47 at h
 refine rn 11 rfl ?_
 exact rt h rfl
theorem W54 (F : Nat) (a1 : (List TMethod)) (a2 : (List TMethod)) (r : Bool) (h : M54 F a1 a2 = some r) : Pure Tryz.prog 54 [(V.lst 2 (a1.map encTMethod)), (V.lst 2 (a2.map encTMethod))] (bV r) := by
 refine pin (fun r => (bV r)) r rfl Tryz.func54 rfl rfl rfl rfl rfl (fun w0 m0 hg => ?_)
 unfold M54 at h
 refine rn 8 rfl ?_
 refine ln rfl rfl ?_
 refine rn 1 rfl ?_
 refine ln rfl rfl ?_
 refine rn 2 rfl ?_
 refine spC h rfl (fun hb3 h => ?_) (fun hb3 h => ?_)
 ·refine rn 4 rfl ?_
  exact rt h rfl
 refine rn 5 rfl ?_
 refine ln rfl rfl ?_
 refine rn 2 rfl ?_
 refine jK h (fun _ : Unit => (⟨[], [], 0⟩ : St)) (fun k4 (_ : Unit) => k4 = some r) (fun k4 h => ?_) ?_
 ·refine rn 1 rfl ?_
  refine wl (A := a1) 0 rfl (fun hA13 => ?_)
  refine lC (fun (p : Int) => (⟨[(0, (V.lst 2 (a1.map encTMethod))), (1, (V.lst 2 (a2.map encTMethod))), (12, (iV ((a1.length : Nat) : Int))), (13, (iV p))], [], 0⟩ : St)) (fun n p => RG a1 (fun tl nn => M54_L1 F a2 k4 tl nn = some r) n p) (fun p h => RG.zero h) (a1.length + 1) 0 (RG.start h) (g0 rfl rfl) (fun n n6 h => ?_)
  refine rn 5 rfl ?_
  refine spL rfl (fun hb7 => ?_) (fun hb7 => ?_)
  ·obtain ⟨x8, tl, hx9, h, hk1⟩ := RG.t hA13 h hb7
   unfold M54_L1 at h
   obtain ⟨x10, hx11, h⟩ := bind_some h
   refine rn 9 rfl ?_
   refine dr mixed (vs 2 rfl (iD hx9 rfl rfl rfl (vs 3 rfl (iD hx11 rfl rfl rfl (vs 1 rfl (xD (OD.mk [(19, (V.agg (encTMethod x8))), (23, (V.agg (encTMethod x10)))] [] [(24, (bV (!(decide (x8 = x10)))))] []) ⟨⟨rfl, rfl, trivial⟩, trivial⟩ (by exact fun S hn h hh => aops_eqS true (xs := cv116 x8) (ys := cv116 x10) (b := (decide (x8 = x10))) eqk116 ⟨_, rfl⟩ ⟨_, rfl⟩ (eq_b cv116 _ _ (inj_cv116 _ _)) tEqG116 wants_none h.1 h.2.1 rfl (aops_nil ⟨rfl, rfl⟩)) rfl .nil)))))) (by kernel_rfl) ?_
   refine spC h rfl (fun hb12 h => ?_) (fun hb12 h => ?_)
   ·refine rn 4 rfl ?_
    exact rt h rfl
   refine rn 6 rfl ?_
   exact jX (w64 (n6 + 1)) (hk1 _ h) (g0 rfl rfl)
  replace h := RG.f h hb7
  unfold M54_L1 at h
  refine rn 1 rfl ?_
  exact jX () h (g0 rfl rfl)
 intro _ h
 refine rn 4 rfl ?_
 exact rt h rfl
theorem W64 (F : Nat) (a1 : TType) (a2 : TType) (r : Bool) (h : M64 F a1 a2 = some r) : Pure Tryz.prog 64 [(V.agg (encTType a1)), (V.agg (encTType a2))] (bV r) := by
 refine pin (fun r => (bV r)) r rfl Tryz.func64 rfl rfl rfl rfl rfl (fun w0 m0 hg => ?_)
 unfold M64 at h
 refine rn 14 rfl ?_
 refine spO 10 h rfl (fun hb3 h => ?_) (fun hb3 h => ?_)
 ·refine rn 4 rfl ?_
  refine cl h rfl rfl rfl (W54 _ _ _) rfl (fun y4 hx5 h => ?_)
  refine rn 3 rfl ?_
  exact rt h rfl
 refine rn 8 rfl ?_
 exact rt h rfl
theorem W63 (F : Nat) (a1 : (List TType)) (a2 : List TType) (a3 : List ((List UInt8) × Int)) (r : (Bool × (List ((List UInt8) × Int)) × (List TType))) (h : M63 F a1 a2 a3 = some r) : Mut Tryz.prog 63 [(V.own 0 a2.length), (V.lst 2 (a1.map encTType)), (V.map 1), (V.fn (.func 47) [] []), (V.fn (.func 64) [] [])] 2 [(0, (Ob.arr 104 2 (a2.map encTType))), (1, (Ob.map (a3.map encM9_3)))] (resV [(V.own 2 (r.2.2).length), (bV (r.1))]) 3 [(0, Ob.dead), (1, (Ob.map ((r.2.1).map encM9_3))), (2, (Ob.arr 104 2 ((r.2.2).map encTType)))] := by
 refine mut_enter Tryz.func63 rfl rfl (l := [.tmp 10, .tmp 11]) rfl rfl [(0, (V.own 0 a2.length)), (1, (V.lst 2 (a1.map encTType))), (2, (V.map 1)), (3, (V.fn (.func 47) [] [])), (4, (V.fn (.func 64) [] []))] rfl (fun w0 m0 β0 hg => en ?_)
 unfold M63 at h
 refine rn 9 rfl ?_
 refine ln rfl rfl ?_
 refine rn 2 rfl ?_
 refine jK h (fun (p : (List ((List UInt8) × Int)) × (List TType)) => (⟨[(0, (V.own 2 (p.2).length))], [(0, Ob.dead), (1, (Ob.map ((p.1).map encM9_3))), (2, (Ob.arr 104 2 ((p.2).map encTType)))], 3⟩ : St)) (fun k45 p => k45 p.1 p.2 = some r) (fun k45 h => ?_) ?_
 ·refine rn 1 rfl ?_
  refine wl (A := a1) 1 rfl (fun hA82 => ?_)
  refine lC (fun (p : Int × (List ((List UInt8) × Int)) × (List TType)) => (⟨[(0, (V.own 2 (p.2.2).length)), (2, (V.map 1)), (3, (V.fn (.func 47) [] [])), (4, (V.fn (.func 64) [] [])), (16, (V.lst 2 (a1.map encTType))), (17, (iV ((a1.length : Nat) : Int))), (18, (iV (p.1)))], [(0, Ob.dead), (1, (Ob.map ((p.2.1).map encM9_3))), (2, (Ob.arr 104 2 ((p.2.2).map encTType)))], 3⟩ : St)) (fun n p => RG a1 (fun tl nn => M63_L1 F k45 tl p.2.1 p.2.2 = some r) n p.1) (fun p h => RG.zero h) (a1.length + 1) (0, a3, a2) (RG.start h) (Ghost.trans (ghost_mvE 0 0 2 104 2 (a2.length) rfl rfl rfl) (gr [0, 1, 2] rfl (hD rfl (hM rfl rfl (hR rfl rfl .nil))) rfl)) (fun n p h => ?_)
  obtain ⟨n51, m52, l53⟩ := p
  refine rn 5 rfl ?_
  refine spL rfl (fun hb54 => ?_) (fun hb54 => ?_)
  ·obtain ⟨x58, tl, hx59, h, hk1⟩ := RG.t hA82 h hb54
   unfold M63_L1 at h
   refine rn 2 rfl ?_
   refine jK h (fun (p : (List ((List UInt8) × Int)) × (List TType)) => (⟨[(0, (V.own 2 (p.2).length)), (2, (V.map 1)), (3, (V.fn (.func 47) [] [])), (4, (V.fn (.func 64) [] [])), (16, (V.lst 2 (a1.map encTType))), (17, (iV ((a1.length : Nat) : Int))), (18, (iV n51))], [(0, Ob.dead), (1, (Ob.map ((p.1).map encM9_3))), (2, (Ob.arr 104 2 ((p.2).map encTType)))], 3⟩ : St)) (fun k55 p => k55 p.1 p.2 = some r) (fun k55 h => ?_) ?_
   ·refine rn 3 rfl ?_
    refine ixh hx59 rfl rfl ?_
    refine rn 9 rfl ?_
    refine cl h rfl rfl rfl (W47 _ _) rfl (fun y60 hx61 h => ?_)
    refine aops_lookup_okB _ (iV 0) (iV ((mget m52 y60).getD 0)) tMap87 tKey9 tZo3 (irel_con _) wants_none rfl (.own rfl) (.con rfl) ⟨_, rfl⟩ encM9_3_good (encM9_3_look m52 y60) (getD_map (encM9_3_val) (mget m52 y60) 0) (isSome_map ..) rfl ?_
    refine fo (rn 8 rfl ?_)
    refine bs h (fun hb62 h => ?_) (fun hb62 h => ?_)
    ·obtain ⟨x63, hx64, h⟩ := bind_some h
     obtain ⟨y65, hx66, h⟩ := bind_some h
     refine dr mixed (vs 1 rfl (vb hb62 rfl (vs 3 rfl (oD (a := l53) hx64 rfl rfl rfl rfl (lD hx64 rfl rfl rfl rfl rfl (vs 1 rfl (cD rfl rfl rfl rfl (W64 _ _ _ _ hx66) rfl (vs 2 rfl .nil)))))))) (by kernel_rfl) ?_
     refine spC h rfl (fun hb67 h => ?_) (fun hb67 h => ?_)
     ·refine rn 5 rfl ?_
      replace h := Option.some.inj h
      subst h
      exact wR ⟨.inl rfl, [(10, (V.own 2 ([] : List TType).length)), (11, (bV false))], (Ghost.trans (ghost_nilE 10 104 2 rfl) (ghost_ren 3 (fun i => ([0, 1, 4] : List Nat).getD i 0) _ _ (by decide) (EnvSub.get (.cons (Sub.ownE rfl rfl (by simp)) (.cons (Sub.imm (Imm.con _)) .nil))) (HpSub.get (.cons rfl ObSub.deadT (.cons rfl (ObSub.maps encM9_3_imm) (.cons rfl (ObSub.rows (rows_imm imms_encTType)) .nil)))) rfl)), (.cons (.tmp rfl) (.cons (.tmp rfl) .nil))⟩
     refine rn 6 rfl ?_
     refine jK h (fun (p : (List ((List UInt8) × Int)) × (List TType)) => (⟨[(0, (V.own 2 (p.2).length)), (2, (V.map 1)), (3, (V.fn (.func 47) [] [])), (4, (V.fn (.func 64) [] [])), (16, (V.lst 2 (a1.map encTType))), (17, (iV ((a1.length : Nat) : Int))), (18, (iV n51)), (39, (bV (!y65)))], [(0, Ob.dead), (1, (Ob.map ((p.1).map encM9_3))), (2, (Ob.arr 104 2 ((p.2).map encTType)))], 3⟩ : St)) (fun k68 p => k68 p.1 p.2 = some r) (fun k68 h => ?_) ?_
     ·refine spC h rfl (fun hb71 h => ?_) (fun hb71 h => ?_)
      ·refine rn 5 rfl ?_
       refine cl h rfl rfl rfl (W47 _ _) rfl (fun y72 hx73 h => ?_)
       refine rn 2 rfl ?_
       refine aops_mapUpdate (es := m52.map encM9_3) ((mput m52 y72 ((l53.length : Nat) : Int)).map encM9_3) tMap87 tKey9 wants_none rfl rfl (.con rfl) ⟨_, rfl⟩ encM9_3_good rfl (encM9_3_puts m52 y72 ((l53.length : Nat) : Int)) ?_
       refine fo (rn 4 rfl ?_)
       refine aops_buildSlice [(0, (V.agg (encTType x58)))] [(encTType x58)] tEl23 tZ104 rfl rfl rfl rfl wants_none (evp_cons rfl evp_nil) rfl rfl (by simp) rfl ?_
       refine fo ?_
       refine apO encTType h rfl rfl rfl rfl rfl rfl rfl rfl (fun h => ?_)
       refine rn 2 rfl ?_
       exact jX ((mput m52 y72 ((l53.length : Nat) : Int)), (l53 ++ ([x58] : List TType))) h (gr [0, 1, 5] rfl (hD rfl (hM rfl rfl (hR rfl rfl .nil))) rfl)
      refine rn 1 rfl ?_
      exact jX (m52, l53) h (gr [0, 1, 2] rfl (hD rfl (hM rfl rfl (hR rfl rfl .nil))) rfl)
     rintro ⟨m69, l70⟩ h
     refine rn 1 rfl ?_
     exact jX (m69, l70) h (gr [0, 1, 2] rfl (hD rfl (hM rfl rfl (hR rfl rfl .nil))) rfl)
    refine dr mixed (vs 1 rfl (vb hb62 rfl (vs 9 rfl .nil))) (by kernel_rfl) ?_
    refine rn 7 rfl ?_
    refine jK h (fun (p : (List ((List UInt8) × Int)) × (List TType)) => (⟨[(0, (V.own 2 (p.2).length)), (2, (V.map 1)), (3, (V.fn (.func 47) [] [])), (4, (V.fn (.func 64) [] [])), (16, (V.lst 2 (a1.map encTType))), (17, (iV ((a1.length : Nat) : Int))), (18, (iV n51)), (39, (V.con undef))], [(0, Ob.dead), (1, (Ob.map ((p.1).map encM9_3))), (2, (Ob.arr 104 2 ((p.2).map encTType)))], 3⟩ : St)) (fun k75 p => k75 p.1 p.2 = some r) (fun k75 h => ?_) ?_
    ·refine spC h rfl (fun hb78 h => ?_) (fun hb78 h => ?_)
     ·refine rn 5 rfl ?_
      refine cl h rfl rfl rfl (W47 _ _) rfl (fun y79 hx80 h => ?_)
      refine rn 2 rfl ?_
      refine aops_mapUpdate (es := m52.map encM9_3) ((mput m52 y79 ((l53.length : Nat) : Int)).map encM9_3) tMap87 tKey9 wants_none rfl rfl (.con rfl) ⟨_, rfl⟩ encM9_3_good rfl (encM9_3_puts m52 y79 ((l53.length : Nat) : Int)) ?_
      refine fo (rn 4 rfl ?_)
      refine aops_buildSlice [(0, (V.agg (encTType x58)))] [(encTType x58)] tEl23 tZ104 rfl rfl rfl rfl wants_none (evp_cons rfl evp_nil) rfl rfl (by simp) rfl ?_
      refine fo ?_
      refine apO encTType h rfl rfl rfl rfl rfl rfl rfl rfl (fun h => ?_)
      refine rn 2 rfl ?_
      exact jX ((mput m52 y79 ((l53.length : Nat) : Int)), (l53 ++ ([x58] : List TType))) h (gr [0, 1, 5] rfl (hD rfl (hM rfl rfl (hR rfl rfl .nil))) rfl)
     refine rn 1 rfl ?_
     exact jX (m52, l53) h (gr [0, 1, 2] rfl (hD rfl (hM rfl rfl (hR rfl rfl .nil))) rfl)
    rintro ⟨m76, l77⟩ h
    refine rn 1 rfl ?_
    exact jX (m76, l77) h (gr [0, 1, 2] rfl (hD rfl (hM rfl rfl (hR rfl rfl .nil))) rfl)
   rintro ⟨m56, l57⟩ h
   refine rn 4 rfl ?_
   exact jX ((w64 (n51 + 1)), m56, l57) (hk1 _ h) (gr [0, 1, 2] rfl (hD rfl (hM rfl rfl (hR rfl rfl .nil))) rfl)
  replace h := RG.f h hb54
  unfold M63_L1 at h
  refine rn 1 rfl ?_
  exact jX (m52, l53) h (gr [0, 1, 2] rfl (hD rfl (hM rfl rfl (hR rfl rfl .nil))) rfl)
 rintro ⟨m46, l47⟩ h
 refine rn 6 rfl ?_
 replace h := Option.some.inj h
 subst h
 exact wR ⟨.inl rfl, [(10, (V.own 2 l47.length)), (11, (bV true))], (gr [0, 1, 2] rfl (hD rfl (hM rfl rfl (hR rfl rfl .nil))) rfl), (.cons (.tmp rfl) (.cons (.tmp rfl) .nil))⟩
theorem W66 (F : Nat) (a1 : TFunc) (r : (List UInt8)) (h : M66 F a1 = some r) : Pure Tryz.prog 66 [(V.agg (encTFunc a1))] (sV r) := by
 refine pin (fun r => (sV r)) r rfl Tryz.func66 rfl rfl rfl rfl rfl (fun w0 m0 hg => ?_)
 unfold M66 at h
 refine rn 11 rfl ?_
 exact rt h rfl
theorem W126 (F : Nat) (a1 : (List TCall)) (a2 : (List TCall)) (r : Bool) (h : M126 F a1 a2 = some r) : Pure Tryz.prog 126 [(V.lst 4 (a1.map encTCall)), (V.lst 4 (a2.map encTCall))] (bV r) := by
 refine pin (fun r => (bV r)) r rfl Tryz.func126 rfl rfl rfl rfl rfl (fun w0 m0 hg => ?_)
 unfold M126 at h
 refine rn 8 rfl ?_
 refine ln rfl rfl ?_
 refine rn 1 rfl ?_
 refine ln rfl rfl ?_
 refine rn 2 rfl ?_
 refine spC h rfl (fun hb3 h => ?_) (fun hb3 h => ?_)
 ·refine rn 4 rfl ?_
  exact rt h rfl
 refine rn 5 rfl ?_
 refine ln rfl rfl ?_
 refine rn 2 rfl ?_
 refine jK h (fun _ : Unit => (⟨[], [], 0⟩ : St)) (fun k4 (_ : Unit) => k4 = some r) (fun k4 h => ?_) ?_
 ·refine rn 1 rfl ?_
  refine wl (A := a1) 0 rfl (fun hA13 => ?_)
  refine lC (fun (p : Int) => (⟨[(0, (V.lst 4 (a1.map encTCall))), (1, (V.lst 4 (a2.map encTCall))), (12, (iV ((a1.length : Nat) : Int))), (13, (iV p))], [], 0⟩ : St)) (fun n p => RG a1 (fun tl nn => M126_L1 F a2 k4 tl nn = some r) n p) (fun p h => RG.zero h) (a1.length + 1) 0 (RG.start h) (g0 rfl rfl) (fun n n6 h => ?_)
  refine rn 5 rfl ?_
  refine spL rfl (fun hb7 => ?_) (fun hb7 => ?_)
  ·obtain ⟨x8, tl, hx9, h, hk1⟩ := RG.t hA13 h hb7
   unfold M126_L1 at h
   obtain ⟨x10, hx11, h⟩ := bind_some h
   refine rn 9 rfl ?_
   refine dr mixed (vs 2 rfl (iD hx9 rfl rfl rfl (vs 3 rfl (iD hx11 rfl rfl rfl (vs 1 rfl (xD (OD.mk [(19, (V.agg (encTCall x8))), (23, (V.agg (encTCall x10)))] [] [(24, (bV (!(decide (x8 = x10)))))] []) ⟨⟨rfl, rfl, trivial⟩, trivial⟩ (by exact fun S hn h hh => aops_eqS true (xs := cv109 x8) (ys := cv109 x10) (b := (decide (x8 = x10))) eqk109 ⟨_, rfl⟩ ⟨_, rfl⟩ (eq_b cv109 _ _ (inj_cv109 _ _)) tEqG109 wants_none h.1 h.2.1 rfl (aops_nil ⟨rfl, rfl⟩)) rfl .nil)))))) (by kernel_rfl) ?_
   refine spC h rfl (fun hb12 h => ?_) (fun hb12 h => ?_)
   ·refine rn 4 rfl ?_
    exact rt h rfl
   refine rn 6 rfl ?_
   exact jX (w64 (n6 + 1)) (hk1 _ h) (g0 rfl rfl)
  replace h := RG.f h hb7
  unfold M126_L1 at h
  refine rn 1 rfl ?_
  exact jX () h (g0 rfl rfl)
 intro _ h
 refine rn 4 rfl ?_
 exact rt h rfl
theorem W67 (F : Nat) (a1 : TFunc) (a2 : TFunc) (r : Bool) (h : M67 F a1 a2 = some r) : Pure Tryz.prog 67 [(V.agg (encTFunc a1)), (V.agg (encTFunc a2))] (bV r) := by
 refine pin (fun r => (bV r)) r rfl Tryz.func67 rfl rfl rfl rfl rfl (fun w0 m0 hg => ?_)
 unfold M67 at h
 refine rn 14 rfl ?_
 refine spO 10 h rfl (fun hb3 h => ?_) (fun hb3 h => ?_)
 ·refine rn 7 rfl ?_
  refine spO 17 h rfl (fun hb4 h => ?_) (fun hb4 h => ?_)
  ·refine rn 4 rfl ?_
   refine cl h rfl rfl rfl (W126 _ _ _) rfl (fun y5 hx6 h => ?_)
   refine rn 2 rfl ?_
   refine spO 24 h rfl (fun hb7 h => ?_) (fun hb7 h => ?_)
   ·refine rn 4 rfl ?_
    refine cl h rfl rfl rfl (W26 _ _ _) rfl (fun y8 hx9 h => ?_)
    refine rn 3 rfl ?_
    exact rt h rfl
   refine rn 8 rfl ?_
   exact rt h rfl
  refine rn 15 rfl ?_
  exact rt h rfl
 refine rn 22 rfl ?_
 exact rt h rfl
theorem W65 (F : Nat) (a1 : (List TFunc)) (a2 : List TFunc) (a3 : List ((List UInt8) × Int)) (r : (Bool × (List ((List UInt8) × Int)) × (List TFunc))) (h : M65 F a1 a2 a3 = some r) : Mut Tryz.prog 65 [(V.own 0 a2.length), (V.lst 4 (a1.map encTFunc)), (V.map 1), (V.fn (.func 66) [] []), (V.fn (.func 67) [] [])] 2 [(0, (Ob.arr 94 4 (a2.map encTFunc))), (1, (Ob.map (a3.map encM9_3)))] (resV [(V.own 2 (r.2.2).length), (bV (r.1))]) 3 [(0, Ob.dead), (1, (Ob.map ((r.2.1).map encM9_3))), (2, (Ob.arr 94 4 ((r.2.2).map encTFunc)))] := by
 refine mut_enter Tryz.func65 rfl rfl (l := [.tmp 10, .tmp 11]) rfl rfl [(0, (V.own 0 a2.length)), (1, (V.lst 4 (a1.map encTFunc))), (2, (V.map 1)), (3, (V.fn (.func 66) [] [])), (4, (V.fn (.func 67) [] []))] rfl (fun w0 m0 β0 hg => en ?_)
 unfold M65 at h
 refine rn 9 rfl ?_
 refine ln rfl rfl ?_
 refine rn 2 rfl ?_
 refine jK h (fun (p : (List ((List UInt8) × Int)) × (List TFunc)) => (⟨[(0, (V.own 2 (p.2).length))], [(0, Ob.dead), (1, (Ob.map ((p.1).map encM9_3))), (2, (Ob.arr 94 4 ((p.2).map encTFunc)))], 3⟩ : St)) (fun k45 p => k45 p.1 p.2 = some r) (fun k45 h => ?_) ?_
 ·refine rn 1 rfl ?_
  refine wl (A := a1) 1 rfl (fun hA82 => ?_)
  refine lC (fun (p : Int × (List ((List UInt8) × Int)) × (List TFunc)) => (⟨[(0, (V.own 2 (p.2.2).length)), (2, (V.map 1)), (3, (V.fn (.func 66) [] [])), (4, (V.fn (.func 67) [] [])), (16, (V.lst 4 (a1.map encTFunc))), (17, (iV ((a1.length : Nat) : Int))), (18, (iV (p.1)))], [(0, Ob.dead), (1, (Ob.map ((p.2.1).map encM9_3))), (2, (Ob.arr 94 4 ((p.2.2).map encTFunc)))], 3⟩ : St)) (fun n p => RG a1 (fun tl nn => M65_L1 F k45 tl p.2.1 p.2.2 = some r) n p.1) (fun p h => RG.zero h) (a1.length + 1) (0, a3, a2) (RG.start h) (Ghost.trans (ghost_mvE 0 0 2 94 4 (a2.length) rfl rfl rfl) (gr [0, 1, 2] rfl (hD rfl (hM rfl rfl (hR rfl rfl .nil))) rfl)) (fun n p h => ?_)
  obtain ⟨n51, m52, l53⟩ := p
  refine rn 5 rfl ?_
  refine spL rfl (fun hb54 => ?_) (fun hb54 => ?_)
  ·obtain ⟨x58, tl, hx59, h, hk1⟩ := RG.t hA82 h hb54
   unfold M65_L1 at h
   refine rn 2 rfl ?_
   refine jK h (fun (p : (List ((List UInt8) × Int)) × (List TFunc)) => (⟨[(0, (V.own 2 (p.2).length)), (2, (V.map 1)), (3, (V.fn (.func 66) [] [])), (4, (V.fn (.func 67) [] [])), (16, (V.lst 4 (a1.map encTFunc))), (17, (iV ((a1.length : Nat) : Int))), (18, (iV n51))], [(0, Ob.dead), (1, (Ob.map ((p.1).map encM9_3))), (2, (Ob.arr 94 4 ((p.2).map encTFunc)))], 3⟩ : St)) (fun k55 p => k55 p.1 p.2 = some r) (fun k55 h => ?_) ?_
   ·refine rn 3 rfl ?_
    refine ixh hx59 rfl rfl ?_
    refine rn 9 rfl ?_
    refine cl h rfl rfl rfl (W66 _ _) rfl (fun y60 hx61 h => ?_)
    refine aops_lookup_okB _ (iV 0) (iV ((mget m52 y60).getD 0)) tMap87 tKey9 tZo3 (irel_con _) wants_none rfl (.own rfl) (.con rfl) ⟨_, rfl⟩ encM9_3_good (encM9_3_look m52 y60) (getD_map (encM9_3_val) (mget m52 y60) 0) (isSome_map ..) rfl ?_
    refine fo (rn 8 rfl ?_)
    refine bs h (fun hb62 h => ?_) (fun hb62 h => ?_)
    ·obtain ⟨x63, hx64, h⟩ := bind_some h
     obtain ⟨y65, hx66, h⟩ := bind_some h
     refine dr mixed (vs 1 rfl (vb hb62 rfl (vs 3 rfl (oD (a := l53) hx64 rfl rfl rfl rfl (lD hx64 rfl rfl rfl rfl rfl (vs 1 rfl (cD rfl rfl rfl rfl (W67 _ _ _ _ hx66) rfl (vs 2 rfl .nil)))))))) (by kernel_rfl) ?_
     refine spC h rfl (fun hb67 h => ?_) (fun hb67 h => ?_)
     ·refine rn 5 rfl ?_
      replace h := Option.some.inj h
      subst h
      exact wR ⟨.inl rfl, [(10, (V.own 2 ([] : List TFunc).length)), (11, (bV false))], (Ghost.trans (ghost_nilE 10 94 4 rfl) (ghost_ren 3 (fun i => ([0, 1, 4] : List Nat).getD i 0) _ _ (by decide) (EnvSub.get (.cons (Sub.ownE rfl rfl (by simp)) (.cons (Sub.imm (Imm.con _)) .nil))) (HpSub.get (.cons rfl ObSub.deadT (.cons rfl (ObSub.maps encM9_3_imm) (.cons rfl (ObSub.rows (rows_imm imms_encTFunc)) .nil)))) rfl)), (.cons (.tmp rfl) (.cons (.tmp rfl) .nil))⟩
     refine rn 6 rfl ?_
     refine jK h (fun (p : (List ((List UInt8) × Int)) × (List TFunc)) => (⟨[(0, (V.own 2 (p.2).length)), (2, (V.map 1)), (3, (V.fn (.func 66) [] [])), (4, (V.fn (.func 67) [] [])), (16, (V.lst 4 (a1.map encTFunc))), (17, (iV ((a1.length : Nat) : Int))), (18, (iV n51)), (39, (bV (!y65)))], [(0, Ob.dead), (1, (Ob.map ((p.1).map encM9_3))), (2, (Ob.arr 94 4 ((p.2).map encTFunc)))], 3⟩ : St)) (fun k68 p => k68 p.1 p.2 = some r) (fun k68 h => ?_) ?_
     ·refine spC h rfl (fun hb71 h => ?_) (fun hb71 h => ?_)
      ·refine rn 5 rfl ?_
       refine cl h rfl rfl rfl (W66 _ _) rfl (fun y72 hx73 h => ?_)
       refine rn 2 rfl ?_
       refine aops_mapUpdate (es := m52.map encM9_3) ((mput m52 y72 ((l53.length : Nat) : Int)).map encM9_3) tMap87 tKey9 wants_none rfl rfl (.con rfl) ⟨_, rfl⟩ encM9_3_good rfl (encM9_3_puts m52 y72 ((l53.length : Nat) : Int)) ?_
       refine fo (rn 4 rfl ?_)
       refine aops_buildSlice [(0, (V.agg (encTFunc x58)))] [(encTFunc x58)] tEl24 tZ94 rfl rfl rfl rfl wants_none (evp_cons rfl evp_nil) rfl rfl (by simp) rfl ?_
       refine fo ?_
       refine apO encTFunc h rfl rfl rfl rfl rfl rfl rfl rfl (fun h => ?_)
       refine rn 2 rfl ?_
       exact jX ((mput m52 y72 ((l53.length : Nat) : Int)), (l53 ++ ([x58] : List TFunc))) h (gr [0, 1, 5] rfl (hD rfl (hM rfl rfl (hR rfl rfl .nil))) rfl)
      refine rn 1 rfl ?_
      exact jX (m52, l53) h (gr [0, 1, 2] rfl (hD rfl (hM rfl rfl (hR rfl rfl .nil))) rfl)
     rintro ⟨m69, l70⟩ h
     refine rn 1 rfl ?_
     exact jX (m69, l70) h (gr [0, 1, 2] rfl (hD rfl (hM rfl rfl (hR rfl rfl .nil))) rfl)
    refine dr mixed (vs 1 rfl (vb hb62 rfl (vs 9 rfl .nil))) (by kernel_rfl) ?_
    refine rn 7 rfl ?_
    refine jK h (fun (p : (List ((List UInt8) × Int)) × (List TFunc)) => (⟨[(0, (V.own 2 (p.2).length)), (2, (V.map 1)), (3, (V.fn (.func 66) [] [])), (4, (V.fn (.func 67) [] [])), (16, (V.lst 4 (a1.map encTFunc))), (17, (iV ((a1.length : Nat) : Int))), (18, (iV n51)), (39, (V.con undef))], [(0, Ob.dead), (1, (Ob.map ((p.1).map encM9_3))), (2, (Ob.arr 94 4 ((p.2).map encTFunc)))], 3⟩ : St)) (fun k75 p => k75 p.1 p.2 = some r) (fun k75 h => ?_) ?_
    ·refine spC h rfl (fun hb78 h => ?_) (fun hb78 h => ?_)
     ·refine rn 5 rfl ?_
      refine cl h rfl rfl rfl (W66 _ _) rfl (fun y79 hx80 h => ?_)
      refine rn 2 rfl ?_
      refine aops_mapUpdate (es := m52.map encM9_3) ((mput m52 y79 ((l53.length : Nat) : Int)).map encM9_3) tMap87 tKey9 wants_none rfl rfl (.con rfl) ⟨_, rfl⟩ encM9_3_good rfl (encM9_3_puts m52 y79 ((l53.length : Nat) : Int)) ?_
      refine fo (rn 4 rfl ?_)
      refine aops_buildSlice [(0, (V.agg (encTFunc x58)))] [(encTFunc x58)] tEl24 tZ94 rfl rfl rfl rfl wants_none (evp_cons rfl evp_nil) rfl rfl (by simp) rfl ?_
      refine fo ?_
      refine apO encTFunc h rfl rfl rfl rfl rfl rfl rfl rfl (fun h => ?_)
      refine rn 2 rfl ?_
      exact jX ((mput m52 y79 ((l53.length : Nat) : Int)), (l53 ++ ([x58] : List TFunc))) h (gr [0, 1, 5] rfl (hD rfl (hM rfl rfl (hR rfl rfl .nil))) rfl)
     refine rn 1 rfl ?_
     exact jX (m52, l53) h (gr [0, 1, 2] rfl (hD rfl (hM rfl rfl (hR rfl rfl .nil))) rfl)
    rintro ⟨m76, l77⟩ h
    refine rn 1 rfl ?_
    exact jX (m76, l77) h (gr [0, 1, 2] rfl (hD rfl (hM rfl rfl (hR rfl rfl .nil))) rfl)
   rintro ⟨m56, l57⟩ h
   refine rn 4 rfl ?_
   exact jX ((w64 (n51 + 1)), m56, l57) (hk1 _ h) (gr [0, 1, 2] rfl (hD rfl (hM rfl rfl (hR rfl rfl .nil))) rfl)
  replace h := RG.f h hb54
  unfold M65_L1 at h
  refine rn 1 rfl ?_
  exact jX (m52, l53) h (gr [0, 1, 2] rfl (hD rfl (hM rfl rfl (hR rfl rfl .nil))) rfl)
 rintro ⟨m46, l47⟩ h
 refine rn 6 rfl ?_
 replace h := Option.some.inj h
 subst h
 exact wR ⟨.inl rfl, [(10, (V.own 2 l47.length)), (11, (bV true))], (gr [0, 1, 2] rfl (hD rfl (hM rfl rfl (hR rfl rfl .nil))) rfl), (.cons (.tmp rfl) (.cons (.tmp rfl) .nil))⟩
theorem W49 (F : Nat) (a1 : (List (List UInt8))) (r : (List (List UInt8))) (h : M49 F a1 = some r) : Pure Tryz.prog 49 [(V.lst 1 (a1.map encS))] (V.lst 1 (r.map encS)) := by
 refine pin (fun r => (V.lst 1 (r.map encS))) r rfl Tryz.func49 rfl rfl rfl rfl rfl (fun w0 m0 hg => ?_)
 unfold M49 at h
 refine rn 8 rfl ?_
 refine aops_isNil (n := a1.length) false tIsSl25 wants_none rfl rfl (congrArg some (List.length_map ..)) rfl (fun b2 hn3 => ?_)
 replace h := nilq_elim h hn3
 refine fo (rn 1 rfl ?_)
 refine spC h rfl (fun hb4 h => ?_) (fun hb4 h => ?_)
 ·refine rn 4 rfl ?_
  exact rt h rfl
 refine rn 3 rfl ?_
 refine aops_emptySlice tEl25 wants_none rfl ?_
 refine fo (rn 1 rfl ?_)
 refine apL encS h rfl rfl rfl (by simp) rfl (fun h => ?_)
 refine rn 2 rfl ?_
 refine awp_ghost (ghost_frzEs 1 [2, 7] rfl (rows_imm imms_encS) (List.forall_mem_cons.2 ⟨rfl, (List.forall_mem_cons.2 ⟨rfl, (fun _ hx => nomatch hx)⟩)⟩) (List.length_map ..).symm) ?_
 refine fa ?_
 exact rt h rfl
theorem W45 (F : Nat) (a1 : TIface) (r : TIface) (h : M45 F a1 = some r) : Pure Tryz.prog 45 [(V.agg (encTIface a1))] (V.agg (encTIface r)) := by
 refine pin (fun r => (V.agg (encTIface r))) r rfl Tryz.func45 rfl rfl rfl rfl rfl (fun w0 m0 hg => ?_)
 unfold M45 at h
 refine rn 9 rfl ?_
 refine cl h rfl rfl rfl (W49 _ _) rfl (fun y2 hx3 h => ?_)
 refine rn 8 rfl ?_
 exact rt h rfl
theorem W158 (F : Nat) (a1 : (List UInt8)) (r : Bool) (h : M158 F a1 = some r) : Pure Tryz.prog 158 [(sV a1)] (bV r) := by
 refine pin (fun r => (bV r)) r rfl Tryz.func158 rfl rfl rfl rfl rfl (fun w0 m0 hg => ?_)
 unfold M158 at h
 refine rn 11 rfl ?_
 exact rt h rfl
theorem W100 (F : Nat) (a1 : (List UInt8)) (a2 : (List UInt8)) (r : Int) (h : M100 F a1 a2 = some r) : Pure Tryz.prog 100 [(sV a1), (sV a2)] (iV r) := by
 refine pin (fun r => (iV r)) r rfl Tryz.func100 rfl rfl rfl rfl rfl (fun w0 m0 hg => ?_)
 unfold M100 at h
 refine rn 7 rfl ?_
 refine cl h rfl rfl rfl (W158 _ _) rfl (fun y3 hx4 h => ?_)
 refine rn 5 rfl ?_
 refine cl h rfl rfl rfl (W158 _ _) rfl (fun y5 hx6 h => ?_)
 refine rn 7 rfl ?_
 refine spC h rfl (fun hb7 h => ?_) (fun hb7 h => ?_)
 ·refine rn 5 rfl ?_
  refine spC h rfl (fun hb8 h => ?_) (fun hb8 h => ?_)
  ·refine rn 4 rfl ?_
   exact rt h rfl
  refine rn 5 rfl ?_
  exact rt h rfl
 refine rn 6 rfl ?_
 refine spC h rfl (fun hb9 h => ?_) (fun hb9 h => ?_)
 ·refine rn 4 rfl ?_
  exact rt h rfl
 refine rn 8 rfl ?_
 refine spC h rfl (fun hb10 h => ?_) (fun hb10 h => ?_)
 ·refine rn 4 rfl ?_
  exact rt h rfl
 refine rn 8 rfl ?_
 refine spC h rfl (fun hb11 h => ?_) (fun hb11 h => ?_)
 ·refine rn 4 rfl ?_
  exact rt h rfl
 refine rn 5 rfl ?_
 exact rt h rfl
theorem W121 (F : Nat) (a1 : TIface) (a2 : TIface) (r : Int) (h : M121 F a1 a2 = some r) : Pure Tryz.prog 121 [(V.agg (encTIface a1)), (V.agg (encTIface a2)), (V.iptr [(V.fn (.func 44) [] [])] 0)] (iV r) := by
 refine pin (fun r => (iV r)) r rfl Tryz.func121 rfl rfl rfl rfl rfl (fun w0 m0 hg => ?_)
 unfold M121 at h
 obtain ⟨y3, hx4, h⟩ := bind_some h
 obtain ⟨y5, hx6, h⟩ := bind_some h
 obtain ⟨y7, hx8, h⟩ := bind_some h
 refine rn 7 rfl ?_
 refine dr mixed (vs 2 rfl (cD rfl rfl rfl rfl (W44 _ _ _ hx4) rfl (vs 2 rfl (cD rfl rfl rfl rfl (W44 _ _ _ hx6) rfl (cD rfl rfl rfl rfl (W100 _ _ _ _ hx8) rfl (vs 1 rfl .nil)))))) (by kernel_rfl) ?_
 exact rt h rfl
theorem W120 (F : Nat) (a1 : List TIface) (r : List TIface) (h : M120 F a1 = some r) : Mut Tryz.prog 120 [(V.own 0 a1.length), (V.fn (.func 121) [] [(V.iptr [(V.fn (.func 44) [] [])] 0)])] 1 [(0, (Ob.arr 98 2 (a1.map encTIface)))] (resV []) 1 [(0, (Ob.arr 98 2 (r.map encTIface)))] := by
 unfold M120 at h
 exact (mut_sortF (g := 121) encTIface (fun _ => rfl) (fun x => (imms_encTIface _)) [(V.iptr [(V.fn (.func 44) [] [])] 0)] (.cons (Imm.iptr _ _) .nil) (fun x3 y4 => M121 F x3 y4) a1 r rfl h (fun x3 y4 c hc => W121 F x3 y4 c hc)
  (fun encR h1 h2 cf h3 cb blk off cap d w h4 h5 h6 h7 => Go.Proofs.Tryz.slices_SortFunc_f120 2 Go.Proofs.Tryz.isAgg98 Go.Proofs.Tryz.sizeOf98 encR h1 h2 cf h3 121 cb blk off cap d w (Go.Proofs.enters_of Go.Proofs.Tryz.func121 (by kernel_rfl) rfl) h4 h5 h6 h7)
  (fun p cap fv w => Go.Proofs.Tryz.slices_SortFunc_none_f120 (α := Nat) p cap fv w)).heap hget_one
theorem W43 (F : Nat) (a1 : (List TIface)) (r : (List TIface)) (h : M43 F a1 = some r) : Pure Tryz.prog 43 [(V.lst 2 (a1.map encTIface)), (V.fn (.func 44) [] []), (V.fn (.func 45) [] [])] (V.lst 2 (r.map encTIface)) := by
 refine pin (fun r => (V.lst 2 (r.map encTIface))) r rfl Tryz.func43 rfl rfl rfl rfl rfl (fun w0 m0 hg => ?_)
 unfold M43 at h
 refine rn 13 rfl ?_
 refine ln rfl rfl ?_
 refine rn 2 rfl ?_
 refine jK h (fun (p : (List TIface)) => (⟨[(4, (V.ptr 0 1 0 0)), (7, (V.own 1 p.length))], [(0, (Ob.arr 99 1 [[(V.fn (.func 44) [] [])]])), (1, (Ob.arr 98 2 (p.map encTIface)))], 2⟩ : St)) (fun k2 p => k2 p = some r) (fun k2 h => ?_) ?_
 ·refine rn 1 rfl ?_
  refine wl (A := a1) 0 rfl (fun hA14 => ?_)
  refine lC (fun (p : Int × (List TIface)) => (⟨[(2, (V.fn (.func 45) [] [])), (4, (V.ptr 0 1 0 0)), (7, (V.own 1 (p.2).length)), (10, (V.lst 2 (a1.map encTIface))), (11, (iV ((a1.length : Nat) : Int))), (12, (iV (p.1)))], [(0, (Ob.arr 99 1 [[(V.fn (.func 44) [] [])]])), (1, (Ob.arr 98 2 ((p.2).map encTIface)))], 2⟩ : St)) (fun n p => RG a1 (fun tl nn => M43_L1 F k2 tl p.2 = some r) n p.1) (fun p h => RG.zero h) (a1.length + 1) (0, ([] : List TIface)) (RG.start h) (Ghost.trans (ghost_nilE 7 98 2 rfl) (ghost_ren 2 (fun i => ([0, 1] : List Nat).getD i 0) _ _ (by decide) (EnvSub.get (.cons (Sub.imm (Imm.fn .nil .nil)) (.cons (Sub.ptr rfl rfl) (.cons (Sub.ownE rfl rfl (by simp)) (.cons (Sub.imm (Imm.lst _ _)) (.cons (Sub.imm (Imm.con _)) (.cons (Sub.imm (Imm.con _)) .nil))))))) (HpSub.get (.cons rfl (ObSub.box (.cons (Sub.imm (Imm.fn .nil .nil)) .nil)) (.cons rfl (ObSub.rows (rows_imm imms_encTIface)) .nil))) rfl)) (fun n p h => ?_)
  obtain ⟨n6, l7⟩ := p
  refine rn 5 rfl ?_
  refine spL rfl (fun hb8 => ?_) (fun hb8 => ?_)
  ·obtain ⟨x9, tl, hx10, h, hk1⟩ := RG.t hA14 h hb8
   unfold M43_L1 at h
   refine rn 5 rfl ?_
   refine ixh hx10 rfl rfl ?_
   refine rn 8 rfl ?_
   refine cl h rfl rfl rfl (W45 _ _) rfl (fun y11 hx12 h => ?_)
   refine aops_buildSlice [(0, (V.agg (encTIface y11)))] [(encTIface y11)] tEl22 tZ98 rfl rfl rfl rfl wants_none (evp_cons rfl evp_nil) rfl rfl (by simp) rfl ?_
   refine fo ?_
   refine apO encTIface h rfl rfl rfl rfl rfl rfl rfl rfl (fun h => ?_)
   refine rn 7 rfl ?_
   exact jX ((w64 (n6 + 1)), (l7 ++ ([y11] : List TIface))) (hk1 _ h) (gr [0, 4] rfl (hB rfl rfl rfl (hR rfl rfl .nil)) rfl)
  replace h := RG.f h hb8
  unfold M43_L1 at h
  refine rn 1 rfl ?_
  exact jX l7 h (gr [0, 1] rfl (hB rfl rfl rfl (hR rfl rfl .nil)) rfl)
 intro l3 h
 obtain ⟨y15, hx16, h⟩ := bind_some h
 refine rn 4 rfl ?_
 refine ck h (fun hc17 h => ?_)
 refine aops_ghost (ghost_frzV 0 24 (V.fn (.func 121) [] [(V.iptr [(V.fn (.func 44) [] [])] 0)]) rfl (imms_rows (.cons (.cons (Imm.fn .nil .nil) .nil) .nil)) rfl (Sub.fnc (.cons (Sub.frzptr rfl) .nil))) ?_
 refine aops_mcallS (V.tup []) [(V.own 1 l3.length), (V.fn (.func 121) [] [(V.iptr [(V.fn (.func 44) [] [])] 0)])] (fun i => ([1] : List Nat).getD i 0) (fun i => ([1] : List Nat).getD i 0) 2 2 [(1, (Ob.arr 98 2 (y15.map encTIface)))] fOk120 wants_none rfl (evm_cons rfl (evm_cons rfl evm_nil)) (.cons (Sub.own rfl rfl) (.cons (Sub.imm (Imm.fn .nil (.cons (Imm.iptr _ _) .nil))) .nil)) (.cons rfl (ObSub.rows (rows_imm imms_encTIface)) .nil) (W120 F l3 y15 hx16) rfl rfl rfl rfl (Sub.immT (Imm.tup .nil)) (.cons rfl (ObSub.rowsT (rows_imm imms_encTIface)) .nil) _ rfl ?_
 refine aops_ghost (ghost_tell 7 (V.own 1 y15.length) rfl (Sub.ownI hc17)) ?_
 refine aops_ghost (ghost_tell 23 (V.own 1 y15.length) rfl (Sub.ownI hc17)) ?_
 refine fo (rn 6 rfl ?_)
 refine awp_ghost (ghost_frzEs 1 [6, 7, 23, 26] rfl (rows_imm imms_encTIface) (List.forall_mem_cons.2 ⟨rfl, (List.forall_mem_cons.2 ⟨rfl, (List.forall_mem_cons.2 ⟨rfl, (List.forall_mem_cons.2 ⟨rfl, (fun _ hx => nomatch hx)⟩)⟩)⟩)⟩) (List.length_map ..).symm) ?_
 refine fa ?_
 exact rt h rfl
theorem W124 (F : Nat) (a1 : (List TMethod)) (r : (List TMethod)) (h : M124 F a1 = some r) : Pure Tryz.prog 124 [(V.lst 2 (a1.map encTMethod))] (V.lst 2 (r.map encTMethod)) := by
 refine pin (fun r => (V.lst 2 (r.map encTMethod))) r rfl Tryz.func124 rfl rfl rfl rfl rfl (fun w0 m0 hg => ?_)
 unfold M124 at h
 refine rn 8 rfl ?_
 refine aops_isNil (n := a1.length) false tIsSl102 wants_none rfl rfl (congrArg some (List.length_map ..)) rfl (fun b2 hn3 => ?_)
 replace h := nilq_elim h hn3
 refine fo (rn 1 rfl ?_)
 refine spC h rfl (fun hb4 h => ?_) (fun hb4 h => ?_)
 ·refine rn 4 rfl ?_
  exact rt h rfl
 refine rn 3 rfl ?_
 refine aops_emptySlice tEl102 wants_none rfl ?_
 refine fo (rn 1 rfl ?_)
 refine apL encTMethod h rfl rfl rfl (by simp) rfl (fun h => ?_)
 refine rn 2 rfl ?_
 refine awp_ghost (ghost_frzEs 1 [2, 7] rfl (rows_imm imms_encTMethod) (List.forall_mem_cons.2 ⟨rfl, (List.forall_mem_cons.2 ⟨rfl, (fun _ hx => nomatch hx)⟩)⟩) (List.length_map ..).symm) ?_
 refine fa ?_
 exact rt h rfl
theorem W48 (F : Nat) (a1 : TType) (r : TType) (h : M48 F a1 = some r) : Pure Tryz.prog 48 [(V.agg (encTType a1))] (V.agg (encTType r)) := by
 refine pin (fun r => (V.agg (encTType r))) r rfl Tryz.func48 rfl rfl rfl rfl rfl (fun w0 m0 hg => ?_)
 unfold M48 at h
 refine rn 9 rfl ?_
 refine cl h rfl rfl rfl (W124 _ _) rfl (fun y2 hx3 h => ?_)
 refine rn 8 rfl ?_
 exact rt h rfl
theorem W123 (F : Nat) (a1 : TType) (a2 : TType) (r : Int) (h : M123 F a1 a2 = some r) : Pure Tryz.prog 123 [(V.agg (encTType a1)), (V.agg (encTType a2)), (V.iptr [(V.fn (.func 47) [] [])] 0)] (iV r) := by
 refine pin (fun r => (iV r)) r rfl Tryz.func123 rfl rfl rfl rfl rfl (fun w0 m0 hg => ?_)
 unfold M123 at h
 obtain ⟨y3, hx4, h⟩ := bind_some h
 obtain ⟨y5, hx6, h⟩ := bind_some h
 obtain ⟨y7, hx8, h⟩ := bind_some h
 refine rn 7 rfl ?_
 refine dr mixed (vs 2 rfl (cD rfl rfl rfl rfl (W47 _ _ _ hx4) rfl (vs 2 rfl (cD rfl rfl rfl rfl (W47 _ _ _ hx6) rfl (cD rfl rfl rfl rfl (W100 _ _ _ _ hx8) rfl (vs 1 rfl .nil)))))) (by kernel_rfl) ?_
 exact rt h rfl
theorem W122 (F : Nat) (a1 : List TType) (r : List TType) (h : M122 F a1 = some r) : Mut Tryz.prog 122 [(V.own 0 a1.length), (V.fn (.func 123) [] [(V.iptr [(V.fn (.func 47) [] [])] 0)])] 1 [(0, (Ob.arr 104 2 (a1.map encTType)))] (resV []) 1 [(0, (Ob.arr 104 2 (r.map encTType)))] := by
 unfold M122 at h
 exact (mut_sortF (g := 123) encTType (fun _ => rfl) (fun x => (imms_encTType _)) [(V.iptr [(V.fn (.func 47) [] [])] 0)] (.cons (Imm.iptr _ _) .nil) (fun x3 y4 => M123 F x3 y4) a1 r rfl h (fun x3 y4 c hc => W123 F x3 y4 c hc)
  (fun encR h1 h2 cf h3 cb blk off cap d w h4 h5 h6 h7 => Go.Proofs.Tryz.slices_SortFunc_f122 2 Go.Proofs.Tryz.isAgg104 Go.Proofs.Tryz.sizeOf104 encR h1 h2 cf h3 123 cb blk off cap d w (Go.Proofs.enters_of Go.Proofs.Tryz.func123 (by kernel_rfl) rfl) h4 h5 h6 h7)
  (fun p cap fv w => Go.Proofs.Tryz.slices_SortFunc_none_f122 (α := Nat) p cap fv w)).heap hget_one
theorem W46 (F : Nat) (a1 : (List TType)) (r : (List TType)) (h : M46 F a1 = some r) : Pure Tryz.prog 46 [(V.lst 2 (a1.map encTType)), (V.fn (.func 47) [] []), (V.fn (.func 48) [] [])] (V.lst 2 (r.map encTType)) := by
 refine pin (fun r => (V.lst 2 (r.map encTType))) r rfl Tryz.func46 rfl rfl rfl rfl rfl (fun w0 m0 hg => ?_)
 unfold M46 at h
 refine rn 13 rfl ?_
 refine ln rfl rfl ?_
 refine rn 2 rfl ?_
 refine jK h (fun (p : (List TType)) => (⟨[(4, (V.ptr 0 1 0 0)), (7, (V.own 1 p.length))], [(0, (Ob.arr 105 1 [[(V.fn (.func 47) [] [])]])), (1, (Ob.arr 104 2 (p.map encTType)))], 2⟩ : St)) (fun k2 p => k2 p = some r) (fun k2 h => ?_) ?_
 ·refine rn 1 rfl ?_
  refine wl (A := a1) 0 rfl (fun hA14 => ?_)
  refine lC (fun (p : Int × (List TType)) => (⟨[(2, (V.fn (.func 48) [] [])), (4, (V.ptr 0 1 0 0)), (7, (V.own 1 (p.2).length)), (10, (V.lst 2 (a1.map encTType))), (11, (iV ((a1.length : Nat) : Int))), (12, (iV (p.1)))], [(0, (Ob.arr 105 1 [[(V.fn (.func 47) [] [])]])), (1, (Ob.arr 104 2 ((p.2).map encTType)))], 2⟩ : St)) (fun n p => RG a1 (fun tl nn => M46_L1 F k2 tl p.2 = some r) n p.1) (fun p h => RG.zero h) (a1.length + 1) (0, ([] : List TType)) (RG.start h) (Ghost.trans (ghost_nilE 7 104 2 rfl) (ghost_ren 2 (fun i => ([0, 1] : List Nat).getD i 0) _ _ (by decide) (EnvSub.get (.cons (Sub.imm (Imm.fn .nil .nil)) (.cons (Sub.ptr rfl rfl) (.cons (Sub.ownE rfl rfl (by simp)) (.cons (Sub.imm (Imm.lst _ _)) (.cons (Sub.imm (Imm.con _)) (.cons (Sub.imm (Imm.con _)) .nil))))))) (HpSub.get (.cons rfl (ObSub.box (.cons (Sub.imm (Imm.fn .nil .nil)) .nil)) (.cons rfl (ObSub.rows (rows_imm imms_encTType)) .nil))) rfl)) (fun n p h => ?_)
  obtain ⟨n6, l7⟩ := p
  refine rn 5 rfl ?_
  refine spL rfl (fun hb8 => ?_) (fun hb8 => ?_)
  ·obtain ⟨x9, tl, hx10, h, hk1⟩ := RG.t hA14 h hb8
   unfold M46_L1 at h
   refine rn 5 rfl ?_
   refine ixh hx10 rfl rfl ?_
   refine rn 8 rfl ?_
   refine cl h rfl rfl rfl (W48 _ _) rfl (fun y11 hx12 h => ?_)
   refine aops_buildSlice [(0, (V.agg (encTType y11)))] [(encTType y11)] tEl23 tZ104 rfl rfl rfl rfl wants_none (evp_cons rfl evp_nil) rfl rfl (by simp) rfl ?_
   refine fo ?_
   refine apO encTType h rfl rfl rfl rfl rfl rfl rfl rfl (fun h => ?_)
   refine rn 7 rfl ?_
   exact jX ((w64 (n6 + 1)), (l7 ++ ([y11] : List TType))) (hk1 _ h) (gr [0, 4] rfl (hB rfl rfl rfl (hR rfl rfl .nil)) rfl)
  replace h := RG.f h hb8
  unfold M46_L1 at h
  refine rn 1 rfl ?_
  exact jX l7 h (gr [0, 1] rfl (hB rfl rfl rfl (hR rfl rfl .nil)) rfl)
 intro l3 h
 obtain ⟨y15, hx16, h⟩ := bind_some h
 refine rn 4 rfl ?_
 refine ck h (fun hc17 h => ?_)
 refine aops_ghost (ghost_frzV 0 24 (V.fn (.func 123) [] [(V.iptr [(V.fn (.func 47) [] [])] 0)]) rfl (imms_rows (.cons (.cons (Imm.fn .nil .nil) .nil) .nil)) rfl (Sub.fnc (.cons (Sub.frzptr rfl) .nil))) ?_
 refine aops_mcallS (V.tup []) [(V.own 1 l3.length), (V.fn (.func 123) [] [(V.iptr [(V.fn (.func 47) [] [])] 0)])] (fun i => ([1] : List Nat).getD i 0) (fun i => ([1] : List Nat).getD i 0) 2 2 [(1, (Ob.arr 104 2 (y15.map encTType)))] fOk122 wants_none rfl (evm_cons rfl (evm_cons rfl evm_nil)) (.cons (Sub.own rfl rfl) (.cons (Sub.imm (Imm.fn .nil (.cons (Imm.iptr _ _) .nil))) .nil)) (.cons rfl (ObSub.rows (rows_imm imms_encTType)) .nil) (W122 F l3 y15 hx16) rfl rfl rfl rfl (Sub.immT (Imm.tup .nil)) (.cons rfl (ObSub.rowsT (rows_imm imms_encTType)) .nil) _ rfl ?_
 refine aops_ghost (ghost_tell 7 (V.own 1 y15.length) rfl (Sub.ownI hc17)) ?_
 refine aops_ghost (ghost_tell 23 (V.own 1 y15.length) rfl (Sub.ownI hc17)) ?_
 refine fo (rn 6 rfl ?_)
 refine awp_ghost (ghost_frzEs 1 [6, 7, 23, 26] rfl (rows_imm imms_encTType) (List.forall_mem_cons.2 ⟨rfl, (List.forall_mem_cons.2 ⟨rfl, (List.forall_mem_cons.2 ⟨rfl, (List.forall_mem_cons.2 ⟨rfl, (fun _ hx => nomatch hx)⟩)⟩)⟩)⟩) (List.length_map ..).symm) ?_
 refine fa ?_
 exact rt h rfl
theorem W133 (F : Nat) (a1 : (List TCall)) (r : (List TCall)) (h : M133 F a1 = some r) : Pure Tryz.prog 133 [(V.lst 4 (a1.map encTCall))] (V.lst 4 (r.map encTCall)) := by
 refine pin (fun r => (V.lst 4 (r.map encTCall))) r rfl Tryz.func133 rfl rfl rfl rfl rfl (fun w0 m0 hg => ?_)
 unfold M133 at h
 refine rn 8 rfl ?_
 refine aops_isNil (n := a1.length) false tIsSl92 wants_none rfl rfl (congrArg some (List.length_map ..)) rfl (fun b2 hn3 => ?_)
 replace h := nilq_elim h hn3
 refine fo (rn 1 rfl ?_)
 refine spC h rfl (fun hb4 h => ?_) (fun hb4 h => ?_)
 ·refine rn 4 rfl ?_
  exact rt h rfl
 refine rn 3 rfl ?_
 refine aops_emptySlice tEl92 wants_none rfl ?_
 refine fo (rn 1 rfl ?_)
 refine apL encTCall h rfl rfl rfl (by simp) rfl (fun h => ?_)
 refine rn 2 rfl ?_
 refine awp_ghost (ghost_frzEs 1 [2, 7] rfl (rows_imm imms_encTCall) (List.forall_mem_cons.2 ⟨rfl, (List.forall_mem_cons.2 ⟨rfl, (fun _ hx => nomatch hx)⟩)⟩) (List.length_map ..).symm) ?_
 refine fa ?_
 exact rt h rfl
theorem W69 (F : Nat) (a1 : TFunc) (r : TFunc) (h : M69 F a1 = some r) : Pure Tryz.prog 69 [(V.agg (encTFunc a1))] (V.agg (encTFunc r)) := by
 refine pin (fun r => (V.agg (encTFunc r))) r rfl Tryz.func69 rfl rfl rfl rfl rfl (fun w0 m0 hg => ?_)
 unfold M69 at h
 obtain ⟨y2, hx3, h⟩ := bind_some h
 obtain ⟨y4, hx5, h⟩ := bind_some h
 refine rn 6 rfl ?_
 refine dr mixed (vs 2 rfl (cD rfl rfl rfl rfl (W133 _ _ _ hx3) rfl (vs 2 rfl (cD rfl rfl rfl rfl (W49 _ _ _ hx5) rfl (vs 4 rfl .nil))))) (by kernel_rfl) ?_
 refine rn 5 rfl ?_
 exact rt h rfl
theorem W132 (F : Nat) (a1 : TFunc) (a2 : TFunc) (r : Int) (h : M132 F a1 a2 = some r) : Pure Tryz.prog 132 [(V.agg (encTFunc a1)), (V.agg (encTFunc a2)), (V.iptr [(V.fn (.func 66) [] [])] 0)] (iV r) := by
 refine pin (fun r => (iV r)) r rfl Tryz.func132 rfl rfl rfl rfl rfl (fun w0 m0 hg => ?_)
 unfold M132 at h
 obtain ⟨y3, hx4, h⟩ := bind_some h
 obtain ⟨y5, hx6, h⟩ := bind_some h
 obtain ⟨y7, hx8, h⟩ := bind_some h
 refine rn 7 rfl ?_
 refine dr mixed (vs 2 rfl (cD rfl rfl rfl rfl (W66 _ _ _ hx4) rfl (vs 2 rfl (cD rfl rfl rfl rfl (W66 _ _ _ hx6) rfl (cD rfl rfl rfl rfl (W100 _ _ _ _ hx8) rfl (vs 1 rfl .nil)))))) (by kernel_rfl) ?_
 exact rt h rfl
theorem W131 (F : Nat) (a1 : List TFunc) (r : List TFunc) (h : M131 F a1 = some r) : Mut Tryz.prog 131 [(V.own 0 a1.length), (V.fn (.func 132) [] [(V.iptr [(V.fn (.func 66) [] [])] 0)])] 1 [(0, (Ob.arr 94 4 (a1.map encTFunc)))] (resV []) 1 [(0, (Ob.arr 94 4 (r.map encTFunc)))] := by
 unfold M131 at h
 exact (mut_sortF (g := 132) encTFunc (fun _ => rfl) (fun x => (imms_encTFunc _)) [(V.iptr [(V.fn (.func 66) [] [])] 0)] (.cons (Imm.iptr _ _) .nil) (fun x3 y4 => M132 F x3 y4) a1 r rfl h (fun x3 y4 c hc => W132 F x3 y4 c hc)
  (fun encR h1 h2 cf h3 cb blk off cap d w h4 h5 h6 h7 => Go.Proofs.Tryz.slices_SortFunc_f131 4 Go.Proofs.Tryz.isAgg94 Go.Proofs.Tryz.sizeOf94 encR h1 h2 cf h3 132 cb blk off cap d w (Go.Proofs.enters_of Go.Proofs.Tryz.func132 (by kernel_rfl) rfl) h4 h5 h6 h7)
  (fun p cap fv w => Go.Proofs.Tryz.slices_SortFunc_none_f131 (α := Nat) p cap fv w)).heap hget_one
theorem W68 (F : Nat) (a1 : (List TFunc)) (r : (List TFunc)) (h : M68 F a1 = some r) : Pure Tryz.prog 68 [(V.lst 4 (a1.map encTFunc)), (V.fn (.func 66) [] []), (V.fn (.func 69) [] [])] (V.lst 4 (r.map encTFunc)) := by
 refine pin (fun r => (V.lst 4 (r.map encTFunc))) r rfl Tryz.func68 rfl rfl rfl rfl rfl (fun w0 m0 hg => ?_)
 unfold M68 at h
 refine rn 13 rfl ?_
 refine ln rfl rfl ?_
 refine rn 2 rfl ?_
 refine jK h (fun (p : (List TFunc)) => (⟨[(4, (V.ptr 0 1 0 0)), (7, (V.own 1 p.length))], [(0, (Ob.arr 132 1 [[(V.fn (.func 66) [] [])]])), (1, (Ob.arr 94 4 (p.map encTFunc)))], 2⟩ : St)) (fun k2 p => k2 p = some r) (fun k2 h => ?_) ?_
 ·refine rn 1 rfl ?_
  refine wl (A := a1) 0 rfl (fun hA14 => ?_)
  refine lC (fun (p : Int × (List TFunc)) => (⟨[(2, (V.fn (.func 69) [] [])), (4, (V.ptr 0 1 0 0)), (7, (V.own 1 (p.2).length)), (10, (V.lst 4 (a1.map encTFunc))), (11, (iV ((a1.length : Nat) : Int))), (12, (iV (p.1)))], [(0, (Ob.arr 132 1 [[(V.fn (.func 66) [] [])]])), (1, (Ob.arr 94 4 ((p.2).map encTFunc)))], 2⟩ : St)) (fun n p => RG a1 (fun tl nn => M68_L1 F k2 tl p.2 = some r) n p.1) (fun p h => RG.zero h) (a1.length + 1) (0, ([] : List TFunc)) (RG.start h) (Ghost.trans (ghost_nilE 7 94 4 rfl) (ghost_ren 2 (fun i => ([0, 1] : List Nat).getD i 0) _ _ (by decide) (EnvSub.get (.cons (Sub.imm (Imm.fn .nil .nil)) (.cons (Sub.ptr rfl rfl) (.cons (Sub.ownE rfl rfl (by simp)) (.cons (Sub.imm (Imm.lst _ _)) (.cons (Sub.imm (Imm.con _)) (.cons (Sub.imm (Imm.con _)) .nil))))))) (HpSub.get (.cons rfl (ObSub.box (.cons (Sub.imm (Imm.fn .nil .nil)) .nil)) (.cons rfl (ObSub.rows (rows_imm imms_encTFunc)) .nil))) rfl)) (fun n p h => ?_)
  obtain ⟨n6, l7⟩ := p
  refine rn 5 rfl ?_
  refine spL rfl (fun hb8 => ?_) (fun hb8 => ?_)
  ·obtain ⟨x9, tl, hx10, h, hk1⟩ := RG.t hA14 h hb8
   unfold M68_L1 at h
   refine rn 5 rfl ?_
   refine ixh hx10 rfl rfl ?_
   refine rn 8 rfl ?_
   refine cl h rfl rfl rfl (W69 _ _) rfl (fun y11 hx12 h => ?_)
   refine aops_buildSlice [(0, (V.agg (encTFunc y11)))] [(encTFunc y11)] tEl24 tZ94 rfl rfl rfl rfl wants_none (evp_cons rfl evp_nil) rfl rfl (by simp) rfl ?_
   refine fo ?_
   refine apO encTFunc h rfl rfl rfl rfl rfl rfl rfl rfl (fun h => ?_)
   refine rn 7 rfl ?_
   exact jX ((w64 (n6 + 1)), (l7 ++ ([y11] : List TFunc))) (hk1 _ h) (gr [0, 4] rfl (hB rfl rfl rfl (hR rfl rfl .nil)) rfl)
  replace h := RG.f h hb8
  unfold M68_L1 at h
  refine rn 1 rfl ?_
  exact jX l7 h (gr [0, 1] rfl (hB rfl rfl rfl (hR rfl rfl .nil)) rfl)
 intro l3 h
 obtain ⟨y15, hx16, h⟩ := bind_some h
 refine rn 4 rfl ?_
 refine ck h (fun hc17 h => ?_)
 refine aops_ghost (ghost_frzV 0 24 (V.fn (.func 132) [] [(V.iptr [(V.fn (.func 66) [] [])] 0)]) rfl (imms_rows (.cons (.cons (Imm.fn .nil .nil) .nil) .nil)) rfl (Sub.fnc (.cons (Sub.frzptr rfl) .nil))) ?_
 refine aops_mcallS (V.tup []) [(V.own 1 l3.length), (V.fn (.func 132) [] [(V.iptr [(V.fn (.func 66) [] [])] 0)])] (fun i => ([1] : List Nat).getD i 0) (fun i => ([1] : List Nat).getD i 0) 2 2 [(1, (Ob.arr 94 4 (y15.map encTFunc)))] fOk131 wants_none rfl (evm_cons rfl (evm_cons rfl evm_nil)) (.cons (Sub.own rfl rfl) (.cons (Sub.imm (Imm.fn .nil (.cons (Imm.iptr _ _) .nil))) .nil)) (.cons rfl (ObSub.rows (rows_imm imms_encTFunc)) .nil) (W131 F l3 y15 hx16) rfl rfl rfl rfl (Sub.immT (Imm.tup .nil)) (.cons rfl (ObSub.rowsT (rows_imm imms_encTFunc)) .nil) _ rfl ?_
 refine aops_ghost (ghost_tell 7 (V.own 1 y15.length) rfl (Sub.ownI hc17)) ?_
 refine aops_ghost (ghost_tell 23 (V.own 1 y15.length) rfl (Sub.ownI hc17)) ?_
 refine fo (rn 6 rfl ?_)
 refine awp_ghost (ghost_frzEs 1 [6, 7, 23, 26] rfl (rows_imm imms_encTFunc) (List.forall_mem_cons.2 ⟨rfl, (List.forall_mem_cons.2 ⟨rfl, (List.forall_mem_cons.2 ⟨rfl, (List.forall_mem_cons.2 ⟨rfl, (fun _ hx => nomatch hx)⟩)⟩)⟩)⟩) (List.length_map ..).symm) ?_
 refine fa ?_
 exact rt h rfl
theorem W70 (F : Nat) (a1 : List (List UInt8)) (r : List (List UInt8)) (h : M70 F a1 = some r) : Mut Tryz.prog 70 [(V.own 0 a1.length)] 1 [(0, (Ob.arr 9 1 (a1.map encS)))] (resV []) 1 [(0, (Ob.arr 9 1 (r.map encS)))] := by
 unfold M70 at h
 by_cases hc : a1.length < 4611686018427387904
 ·rw [if_pos hc] at h
  replace h := Option.some.inj h
  subst h
  exact (mut_sortStr a1 rfl (fun b off cap a w hH hb hc => Go.Proofs.Tryz.slices_Sort_string b off cap a w hH hb hc) (fun p w => Go.Proofs.Tryz.slices_Sort_string_none p 0 w) hc).heap hget_one
 ·rw [if_neg hc] at h; simp at h
theorem W71 (F : Nat) (a1 : List (List UInt8)) (r : List (List UInt8)) (h : M71 F a1 = some r) : Mut Tryz.prog 71 [(V.own 0 a1.length)] 1 [(0, (Ob.arr 9 1 (a1.map encS)))] (resV [(V.own 0 r.length)]) 1 [(0, (Ob.arr 9 1 (r.map encS)))] := by
 unfold M71 at h
 by_cases hc : a1.length ≤ 140737488355328
 ·rw [if_pos hc] at h
  replace h := Option.some.inj h
  subst h
  exact (mut_compactS str (fun _ => rfl) [] a1 rfl (fun b off cap a w hH h1 h2 => Go.Proofs.Tryz.slices_Compact_string b off cap a w hH h1 h2) (fun p w => Go.Proofs.Tryz.slices_Compact_string_empty p 0 w) hc).heap hget_one
 ·rw [if_neg hc] at h; simp at h
theorem W17 (F : Nat) (a1 : TGraph) (r : Int) (h : M17 F a1 = some r) : Pure Tryz.prog 17 [(V.agg (encTGraph a1))] (iV r) := by
 refine pin (fun r => (iV r)) r rfl Tryz.func17 rfl rfl rfl rfl rfl (fun w0 m0 hg => ?_)
 unfold M17 at h
 obtain ⟨y2, hx3, h⟩ := bind_some h
 obtain ⟨y4, hx5, h⟩ := bind_some h
 refine rn 6 rfl ?_
 refine dr mixed (vs 1 rfl (cD rfl rfl rfl rfl (W59 _ _ _ _ hx3) rfl (vs 1 rfl (cD rfl rfl rfl rfl (W60 _ _ _ _ hx5) rfl (vs 1 rfl .nil))))) (by kernel_rfl) ?_
 exact rt h rfl
set_option maxHeartbeats 2000000 in
theorem W15 (F : Nat) (a1 : (List TGraph)) (r : (TGraph × Int)) (h : M15 F a1 = some r) : Pure Tryz.prog 15 [(V.lst 4 (a1.map encTGraph))] (V.tup [(V.agg (encTGraph (r.1))), (iV (r.2))]) := by
 refine pin (fun r => (V.tup [(V.agg (encTGraph (r.1))), (iV (r.2))])) r rfl Tryz.func15 rfl rfl rfl rfl rfl (fun w0 m0 hg => ?_)
 unfold M15 at h
 refine rn 9 rfl ?_
 refine ln rfl rfl ?_
 refine rn 2 rfl ?_
 refine spC h rfl (fun hb2 h => ?_) (fun hb2 h => ?_)
 ·refine rn 6 rfl ?_
  exact rt h rfl
 refine rn 18 rfl ?_
 refine ln rfl rfl ?_
 refine rn 2 rfl ?_
 refine jK h (fun (p : (List TIface) × (List TType) × (List TFunc) × (List (List UInt8))) => (⟨[(2, (V.ptr 0 4 0 0)), (4, (V.ptr 1 4 0 0))], [(0, (Ob.arr 27 4 [[nV, nV, nV, nV]])), (1, (Ob.arr 27 4 [[(V.own 2 (p.1).length), (V.own 3 (p.2.1).length), (V.own 4 (p.2.2.1).length), (V.own 5 (p.2.2.2).length)]])), (2, (Ob.arr 98 2 ((p.1).map encTIface))), (3, (Ob.arr 104 2 ((p.2.1).map encTType))), (4, (Ob.arr 94 4 ((p.2.2.1).map encTFunc))), (5, (Ob.arr 9 1 ((p.2.2.2).map encS)))], 6⟩ : St)) (fun k3 p => k3 p.1 p.2.1 p.2.2.1 p.2.2.2 = some r) (fun k3 h => ?_) ?_
 ·refine rn 1 rfl ?_
  refine wl (A := a1) 0 rfl (fun hA42 => ?_)
  refine lC (fun (p : Int × (List ((List UInt8) × Int)) × (List ((List UInt8) × Int)) × (List ((List UInt8) × Int)) × (List TIface) × (List TType) × (List TFunc) × (List (List UInt8))) => (⟨[(2, (V.ptr 0 4 0 0)), (4, (V.ptr 1 4 0 0)), (5, (V.map 2)), (6, (V.map 3)), (7, (V.map 4)), (25, (V.lst 4 (a1.map encTGraph))), (26, (iV ((a1.length : Nat) : Int))), (27, (iV (p.1)))], [(0, (Ob.arr 27 4 [[nV, nV, nV, nV]])), (1, (Ob.arr 27 4 [[(V.own 5 (p.2.2.2.2.1).length), (V.own 6 (p.2.2.2.2.2.1).length), (V.own 7 (p.2.2.2.2.2.2.1).length), (V.own 8 (p.2.2.2.2.2.2.2).length)]])), (2, (Ob.map ((p.2.1).map encM9_3))), (3, (Ob.map ((p.2.2.1).map encM9_3))), (4, (Ob.map ((p.2.2.2.1).map encM9_3))), (5, (Ob.arr 98 2 ((p.2.2.2.2.1).map encTIface))), (6, (Ob.arr 104 2 ((p.2.2.2.2.2.1).map encTType))), (7, (Ob.arr 94 4 ((p.2.2.2.2.2.2.1).map encTFunc))), (8, (Ob.arr 9 1 ((p.2.2.2.2.2.2.2).map encS)))], 9⟩ : St)) (fun n p => RG a1 (fun tl nn => M15_L1 F k3 tl p.2.1 p.2.2.1 p.2.2.2.1 p.2.2.2.2.1 p.2.2.2.2.2.1 p.2.2.2.2.2.2.1 p.2.2.2.2.2.2.2 = some r) n p.1) (fun p h => RG.zero h) (a1.length + 1) (0, ([] : List ((List UInt8) × Int)), ([] : List ((List UInt8) × Int)), ([] : List ((List UInt8) × Int)), ([] : List TIface), ([] : List TType), ([] : List TFunc), ([] : List (List UInt8))) (RG.start h) (Ghost.trans (ghost_nilC 1 98 2 (Ob.arr 27 4 [[(V.own 5 0), nV, nV, nV]]) (ObSub.box (.cons Sub.mkNil (.cons Sub.keepNil (.cons Sub.keepNil (.cons Sub.keepNil .nil)))))) (Ghost.trans (ghost_nilC 1 104 2 (Ob.arr 27 4 [[(V.own 5 0), (V.own 6 0), nV, nV]]) (ObSub.box (.cons Sub.keepNil (.cons Sub.mkNil (.cons Sub.keepNil (.cons Sub.keepNil .nil)))))) (Ghost.trans (ghost_nilC 1 94 4 (Ob.arr 27 4 [[(V.own 5 0), (V.own 6 0), (V.own 7 0), nV]]) (ObSub.box (.cons Sub.keepNil (.cons Sub.keepNil (.cons Sub.mkNil (.cons Sub.keepNil .nil)))))) (Ghost.trans (ghost_nilC 1 9 1 (Ob.arr 27 4 [[(V.own 5 0), (V.own 6 0), (V.own 7 0), (V.own 8 0)]]) (ObSub.box (.cons Sub.keepNil (.cons Sub.keepNil (.cons Sub.keepNil (.cons Sub.mkNil .nil)))))) (ghost_ren 9 (fun i => ([0, 1, 2, 3, 4, 5, 6, 7, 8] : List Nat).getD i 0) _ _ (by decide) (EnvSub.get (.cons (Sub.ptr rfl rfl) (.cons (Sub.ptr rfl rfl) (.cons (Sub.map rfl rfl) (.cons (Sub.map rfl rfl) (.cons (Sub.map rfl rfl) (.cons (Sub.imm (Imm.lst _ _)) (.cons (Sub.imm (Imm.con _)) (.cons (Sub.imm (Imm.con _)) .nil))))))))) (HpSub.get (.cons rfl (ObSub.box (.cons (Sub.imm (Imm.con _)) (.cons (Sub.imm (Imm.con _)) (.cons (Sub.imm (Imm.con _)) (.cons (Sub.imm (Imm.con _)) .nil))))) (.cons rfl (ObSub.box (.cons (Sub.ownE rfl rfl (by simp)) (.cons (Sub.ownE rfl rfl (by simp)) (.cons (Sub.ownE rfl rfl (by simp)) (.cons (Sub.ownE rfl rfl (by simp)) .nil))))) (.cons rfl (ObSub.maps encM9_3_imm) (.cons rfl (ObSub.maps encM9_3_imm) (.cons rfl (ObSub.maps encM9_3_imm) (.cons rfl (ObSub.rows (rows_imm imms_encTIface)) (.cons rfl (ObSub.rows (rows_imm imms_encTType)) (.cons rfl (ObSub.rows (rows_imm imms_encTFunc)) (.cons rfl (ObSub.rows (rows_imm imms_encS)) .nil)))))))))) rfl))))) (fun n p h => ?_)
  obtain ⟨n16, m17, m18, m19, l20, l21, l22, l23⟩ := p
  refine rn 5 rfl ?_
  refine spL rfl (fun hb24 => ?_) (fun hb24 => ?_)
  ·obtain ⟨x25, tl, hx26, h, hk1⟩ := RG.t hA42 h hb24
   unfold M15_L1 at h
   refine rn 5 rfl ?_
   refine ixh hx26 rfl rfl ?_
   obtain ⟨y27, hx28, h⟩ := bind_some h
   obtain ⟨y29, hx30, h⟩ := bind_some h
   refine rn 6 rfl ?_
   refine dr mixed (vs 1 rfl (cD rfl rfl rfl rfl (W59 _ _ _ _ hx28) rfl (vs 1 rfl (cD rfl rfl rfl rfl (W60 _ _ _ _ hx30) rfl (vs 1 rfl .nil))))) (by kernel_rfl) ?_
   refine rn 5 rfl ?_
   refine spC h rfl (fun hb31 h => ?_) (fun hb31 h => ?_)
   ·refine rn 7 rfl ?_
    exact rt h rfl
   obtain ⟨y32, hx33, h⟩ := bind_some h
   refine rn 8 rfl ?_
   refine aops_mcallS (V.tup [(V.own 10 (y32.2.2).length), (bV (y32.1))]) [(V.own 5 l20.length), (V.lst 2 (x25.Ifaces.map encTIface)), (V.map 2), (V.fn (.func 44) [] []), (V.fn (.func 62) [] [])] (fun i => ([5, 2] : List Nat).getD i 0) (fun i => ([5, 2, 10] : List Nat).getD i 0) 10 11 [(5, Ob.dead), (2, (Ob.map ((y32.2.1).map encM9_3))), (10, (Ob.arr 98 2 ((y32.2.2).map encTIface)))] fOk61 wants_none rfl (evm_cons rfl (evm_cons rfl (evm_cons rfl (evm_cons rfl (evm_cons rfl evm_nil))))) (.cons (Sub.own rfl rfl) (.cons (Sub.imm (Imm.lst _ _)) (.cons (Sub.map rfl rfl) (.cons (Sub.imm (Imm.fn .nil .nil)) (.cons (Sub.imm (Imm.fn .nil .nil)) .nil))))) (.cons rfl (ObSub.rows (rows_imm imms_encTIface)) (.cons rfl (ObSub.maps encM9_3_imm) .nil)) (W61 F x25.Ifaces l20 m17 y32 hx33) rfl rfl rfl rfl (Sub.tupT (.cons (Sub.ownT rfl rfl) (.cons (Sub.immT (Imm.con _)) .nil))) (.cons rfl ObSub.deadT (.cons rfl (ObSub.mapsT encM9_3_imm) (.cons rfl (ObSub.rowsT (rows_imm imms_encTIface)) .nil))) _ rfl ?_
   obtain ⟨y34, hx35, h⟩ := bind_some h
   refine fo (rn 13 rfl ?_)
   refine aops_mcallS (V.tup [(V.own 11 (y34.2.2).length), (bV (y34.1))]) [(V.own 6 l21.length), (V.lst 2 (x25.Types.map encTType)), (V.map 3), (V.fn (.func 47) [] []), (V.fn (.func 64) [] [])] (fun i => ([6, 3] : List Nat).getD i 0) (fun i => ([6, 3, 11] : List Nat).getD i 0) 11 12 [(6, Ob.dead), (3, (Ob.map ((y34.2.1).map encM9_3))), (11, (Ob.arr 104 2 ((y34.2.2).map encTType)))] fOk63 wants_none rfl (evm_cons rfl (evm_cons rfl (evm_cons rfl (evm_cons rfl (evm_cons rfl evm_nil))))) (.cons (Sub.own rfl rfl) (.cons (Sub.imm (Imm.lst _ _)) (.cons (Sub.map rfl rfl) (.cons (Sub.imm (Imm.fn .nil .nil)) (.cons (Sub.imm (Imm.fn .nil .nil)) .nil))))) (.cons rfl (ObSub.rows (rows_imm imms_encTType)) (.cons rfl (ObSub.maps encM9_3_imm) .nil)) (W63 F x25.Types l21 m18 y34 hx35) rfl rfl rfl rfl (Sub.tupT (.cons (Sub.ownT rfl rfl) (.cons (Sub.immT (Imm.con _)) .nil))) (.cons rfl ObSub.deadT (.cons rfl (ObSub.mapsT encM9_3_imm) (.cons rfl (ObSub.rowsT (rows_imm imms_encTType)) .nil))) _ rfl ?_
   obtain ⟨y36, hx37, h⟩ := bind_some h
   refine fo (rn 13 rfl ?_)
   refine aops_mcallS (V.tup [(V.own 12 (y36.2.2).length), (bV (y36.1))]) [(V.own 7 l22.length), (V.lst 4 (x25.Funcs.map encTFunc)), (V.map 4), (V.fn (.func 66) [] []), (V.fn (.func 67) [] [])] (fun i => ([7, 4] : List Nat).getD i 0) (fun i => ([7, 4, 12] : List Nat).getD i 0) 12 13 [(7, Ob.dead), (4, (Ob.map ((y36.2.1).map encM9_3))), (12, (Ob.arr 94 4 ((y36.2.2).map encTFunc)))] fOk65 wants_none rfl (evm_cons rfl (evm_cons rfl (evm_cons rfl (evm_cons rfl (evm_cons rfl evm_nil))))) (.cons (Sub.own rfl rfl) (.cons (Sub.imm (Imm.lst _ _)) (.cons (Sub.map rfl rfl) (.cons (Sub.imm (Imm.fn .nil .nil)) (.cons (Sub.imm (Imm.fn .nil .nil)) .nil))))) (.cons rfl (ObSub.rows (rows_imm imms_encTFunc)) (.cons rfl (ObSub.maps encM9_3_imm) .nil)) (W65 F x25.Funcs l22 m19 y36 hx37) rfl rfl rfl rfl (Sub.tupT (.cons (Sub.ownT rfl rfl) (.cons (Sub.immT (Imm.con _)) .nil))) (.cons rfl ObSub.deadT (.cons rfl (ObSub.mapsT encM9_3_imm) (.cons rfl (ObSub.rowsT (rows_imm imms_encTFunc)) .nil))) _ rfl ?_
   refine fo (rn 12 rfl ?_)
   refine spO 68 h rfl (fun hb38 h => ?_) (fun hb38 h => ?_)
   ·refine rn 15 rfl ?_
    exact rt h rfl
   refine rn 4 rfl ?_
   refine spO 72 h rfl (fun hb39 h => ?_) (fun hb39 h => ?_)
   ·refine rn 11 rfl ?_
    exact rt h rfl
   refine rn 4 rfl ?_
   refine spC h rfl (fun hb40 h => ?_) (fun hb40 h => ?_)
   ·refine rn 6 rfl ?_
    exact rt h rfl
   refine rn 9 rfl ?_
   refine apL encS h rfl rfl rfl rfl rfl (fun h => ?_)
   refine rn 8 rfl ?_
   exact jX ((w64 (n16 + 1)), (y32.2.1), (y34.2.1), (y36.2.1), (y32.2.2), (y34.2.2), (y36.2.2), (l23 ++ x25.Entries)) (hk1 _ h) (gr [0, 1, 2, 3, 4, 10, 11, 12, 13] rfl (hB rfl rfl rfl (hB rfl rfl rfl (hM rfl rfl (hM rfl rfl (hM rfl rfl (hR rfl rfl (hR rfl rfl (hR rfl rfl (hR rfl rfl .nil))))))))) rfl)
  replace h := RG.f h hb24
  unfold M15_L1 at h
  refine rn 1 rfl ?_
  exact jX (l20, l21, l22, l23) h (gr [0, 1, 5, 6, 7, 8] rfl (hB rfl rfl rfl (hB rfl rfl rfl (hR rfl rfl (hR rfl rfl (hR rfl rfl (hR rfl rfl .nil)))))) rfl)
 rintro ⟨l4, l5, l6, l7⟩ h
 obtain ⟨y43, hx44, h⟩ := bind_some h
 refine rn 4 rfl ?_
 refine aops_ghost (ghost_frzE 2 88 rfl (rows_imm imms_encTIface) rfl (List.length_map ..).symm) ?_
 refine aops_call (V.lst 2 (y43.map encTIface)) [(V.lst 2 (l4.map encTIface)), (V.fn (.func 44) [] []), (V.fn (.func 45) [] [])] fOk43 wants_none (evm_cons rfl (evm_cons rfl (evm_cons rfl evm_nil))) (.cons (Imm.lst _ _) (.cons (Imm.fn .nil .nil) (.cons (Imm.fn .nil .nil) .nil))) (W43 F l4 y43 hx44) rfl ?_
 obtain ⟨y45, hx46, h⟩ := bind_some h
 refine fo (rn 7 rfl ?_)
 refine aops_ghost (ghost_frzE 3 92 rfl (rows_imm imms_encTType) rfl (List.length_map ..).symm) ?_
 refine aops_call (V.lst 2 (y45.map encTType)) [(V.lst 2 (l5.map encTType)), (V.fn (.func 47) [] []), (V.fn (.func 48) [] [])] fOk46 wants_none (evm_cons rfl (evm_cons rfl (evm_cons rfl evm_nil))) (.cons (Imm.lst _ _) (.cons (Imm.fn .nil .nil) (.cons (Imm.fn .nil .nil) .nil))) (W46 F l5 y45 hx46) rfl ?_
 obtain ⟨y47, hx48, h⟩ := bind_some h
 refine fo (rn 7 rfl ?_)
 refine aops_ghost (ghost_frzE 4 96 rfl (rows_imm imms_encTFunc) rfl (List.length_map ..).symm) ?_
 refine aops_call (V.lst 4 (y47.map encTFunc)) [(V.lst 4 (l6.map encTFunc)), (V.fn (.func 66) [] []), (V.fn (.func 69) [] [])] fOk68 wants_none (evm_cons rfl (evm_cons rfl (evm_cons rfl evm_nil))) (.cons (Imm.lst _ _) (.cons (Imm.fn .nil .nil) (.cons (Imm.fn .nil .nil) .nil))) (W68 F l6 y47 hx48) rfl ?_
 obtain ⟨y49, hx50, h⟩ := bind_some h
 refine fo (rn 7 rfl ?_)
 refine ck h (fun hc51 h => ?_)
 refine aops_mcallS (V.tup []) [(V.own 5 l7.length)] (fun i => ([5] : List Nat).getD i 0) (fun i => ([5] : List Nat).getD i 0) 6 6 [(5, (Ob.arr 9 1 (y49.map encS)))] fOk70 wants_none rfl (evm_cons rfl evm_nil) (.cons (Sub.own rfl rfl) .nil) (.cons rfl (ObSub.rows (rows_imm imms_encS)) .nil) (W70 F l7 y49 hx50) rfl rfl rfl rfl (Sub.immT (Imm.tup .nil)) (.cons rfl (ObSub.rowsT (rows_imm imms_encS)) .nil) _ rfl ?_
 refine aops_ghost (ghost_tell 100 (V.own 5 y49.length) rfl (Sub.ownI hc51)) ?_
 refine aops_ghost (ghost_tellC 1 (Ob.arr 27 4 [[(V.lst 2 (y43.map encTIface)), (V.lst 2 (y45.map encTType)), (V.lst 4 (y47.map encTFunc)), (V.own 5 y49.length)]]) rfl (ObSub.box (.cons Sub.keepI (.cons Sub.keepI (.cons Sub.keepI (.cons (Sub.ownI hc51) .nil)))))) ?_
 obtain ⟨y52, hx53, h⟩ := bind_some h
 refine fo (rn 5 rfl ?_)
 refine aops_mcallS (V.own 5 y52.length) [(V.own 5 y49.length)] (fun i => ([5] : List Nat).getD i 0) (fun i => ([5] : List Nat).getD i 0) 6 6 [(5, (Ob.arr 9 1 (y52.map encS)))] fOk71 wants_none rfl (evm_cons rfl evm_nil) (.cons (Sub.own rfl rfl) .nil) (.cons rfl (ObSub.rows (rows_imm imms_encS)) .nil) (W71 F y49 y52 hx53) rfl rfl rfl rfl (Sub.ownT rfl rfl) (.cons rfl (ObSub.rowsT (rows_imm imms_encS)) .nil) _ rfl ?_
 refine aops_ghost (ghost_tellC 1 (Ob.arr 27 4 [[(V.lst 2 (y43.map encTIface)), (V.lst 2 (y45.map encTType)), (V.lst 4 (y47.map encTFunc)), V.any]]) rfl (ObSub.box (.cons Sub.keepI (.cons Sub.keepI (.cons Sub.keepI (.cons Sub.any .nil)))))) ?_
 obtain ⟨y54, hx55, h⟩ := bind_some h
 refine fo (rn 7 rfl ?_)
 refine aops_lend_call (iV y54) [(V.agg [(V.lst 2 (y43.map encTIface)), (V.lst 2 (y45.map encTType)), (V.lst 4 (y47.map encTFunc)), (V.lst 1 (y52.map encS))])] fOk17 (ghost_frzV 5 106 (V.agg [(V.lst 2 (y43.map encTIface)), (V.lst 2 (y45.map encTType)), (V.lst 4 (y47.map encTFunc)), (V.lst 1 (y52.map encS))]) rfl (rows_imm imms_encS) rfl (Sub.agg (.cons Sub.keep (.cons Sub.keep (.cons Sub.keep (.cons (Sub.frzAll (rows := y52.map encS) (List.length_map ..).symm) .nil)))))) (Flat.con _) wants_none (evm_cons rfl evm_nil) (.cons (Imm.agg (.cons (Imm.lst _ _) (.cons (Imm.lst _ _) (.cons (Imm.lst _ _) (.cons (Imm.lst _ _) .nil))))) .nil) (W17 F (TGraph.mk y43 y45 y47 y52) y54 hx55) rfl ?_
 refine fo (rn 7 rfl ?_)
 refine spC h rfl (fun hb56 h => ?_) (fun hb56 h => ?_)
 ·refine rn 7 rfl ?_
  exact rt h rfl
 refine rn 7 rfl ?_
 refine awp_ghost (ghost_frzC 5 0 (Ob.arr 27 4 [[(V.lst 2 (y43.map encTIface)), (V.lst 2 (y45.map encTType)), (V.lst 4 (y47.map encTFunc)), (V.lst 1 (y52.map encS))]]) rfl (rows_imm imms_encS) (ObSub.box (.cons Sub.keep (.cons Sub.keep (.cons Sub.keep (.cons (Sub.frzAll (rows := y52.map encS) (List.length_map ..).symm) .nil)))))) ?_
 refine fa ?_
 exact rt h rfl
theorem W72 (F : Nat) (a1 : TGraph) (r : Tprovenderref6_names) (h : M72 F a1 = some r) : Pure Tryz.prog 72 [(V.agg (encTGraph a1))] (V.agg (encTprovenderref6_names r)) := by
 refine pin (fun r => (V.agg (encTprovenderref6_names r))) r rfl Tryz.func72 rfl rfl rfl rfl rfl (fun w0 m0 hg => ?_)
 unfold M72 at h
 refine rn 19 rfl ?_
 refine ln rfl rfl ?_
 refine rn 2 rfl ?_
 refine jK h (fun (p : (List ((List UInt8) × (List ((List UInt8) × Bool))))) => (⟨[(1, (V.ptr 0 4 0 0)), (2, (V.ptr 1 3 0 0)), (3, (V.ptr 2 3 0 0))], [(0, (Ob.arr 27 4 [(encTGraph a1)])), (1, (Ob.arr 138 3 [[(V.con (.map none)), (V.con (.map none)), (V.con (.map none))]])), (2, (Ob.arr 138 3 [[(V.map 3), (V.map 4), (V.map 5)]])), (3, (Ob.map (p.map encM9_387))), (4, (Ob.map (([] : List ((List UInt8) × Bool)).map encM9_4))), (5, (Ob.map (([] : List ((List UInt8) × Bool)).map encM9_4)))], 6⟩ : St)) (fun k2 p => k2 p = some r) (fun k2 h => ?_) ?_
 ·refine rn 1 rfl ?_
  refine wl (A := a1.Ifaces) 17 rfl (fun hA24 => ?_)
  refine lC (fun (p : Int × (List ((List UInt8) × (List ((List UInt8) × Bool))))) => (⟨[(1, (V.ptr 0 4 0 0)), (2, (V.ptr 1 3 0 0)), (3, (V.ptr 2 3 0 0)), (17, (V.lst 2 (a1.Ifaces.map encTIface))), (18, (iV ((a1.Ifaces.length : Nat) : Int))), (19, (iV (p.1)))], [(0, (Ob.arr 27 4 [(encTGraph a1)])), (1, (Ob.arr 138 3 [[(V.con (.map none)), (V.con (.map none)), (V.con (.map none))]])), (2, (Ob.arr 138 3 [[(V.map 3), (V.map 4), (V.map 5)]])), (3, (Ob.map ((p.2).map encM9_387))), (4, (Ob.map (([] : List ((List UInt8) × Bool)).map encM9_4))), (5, (Ob.map (([] : List ((List UInt8) × Bool)).map encM9_4)))], 6⟩ : St)) (fun n p => RG a1.Ifaces (fun tl nn => M72_L1 F k2 tl p.2 = some r) n p.1) (fun p h => RG.zero h) (a1.Ifaces.length + 1) (0, ([] : List ((List UInt8) × (List ((List UInt8) × Bool))))) (RG.start h) (gr [0, 1, 5, 2, 3, 4] rfl (hB rfl rfl rfl (hB rfl rfl rfl (hB rfl rfl rfl (hM rfl rfl (hM rfl rfl (hM rfl rfl .nil)))))) rfl) (fun n p h => ?_)
  obtain ⟨n6, m7⟩ := p
  refine rn 5 rfl ?_
  refine spL rfl (fun hb8 => ?_) (fun hb8 => ?_)
  ·obtain ⟨x11, tl, hx12, h, hk1⟩ := RG.t hA24 h hb8
   unfold M72_L1 at h
   refine rn 2 rfl ?_
   refine jK h (fun (p : (List ((List UInt8) × (List ((List UInt8) × Bool))))) => (⟨[(1, (V.ptr 0 4 0 0)), (2, (V.ptr 1 3 0 0)), (3, (V.ptr 2 3 0 0)), (17, (V.lst 2 (a1.Ifaces.map encTIface))), (18, (iV ((a1.Ifaces.length : Nat) : Int))), (19, (iV n6))], [(0, (Ob.arr 27 4 [(encTGraph a1)])), (1, (Ob.arr 138 3 [[(V.con (.map none)), (V.con (.map none)), (V.con (.map none))]])), (2, (Ob.arr 138 3 [[(V.map 3), (V.map 4), (V.map 5)]])), (3, (Ob.map (p.map encM9_387))), (4, (Ob.map (([] : List ((List UInt8) × Bool)).map encM9_4))), (5, (Ob.map (([] : List ((List UInt8) × Bool)).map encM9_4)))], 6⟩ : St)) (fun k9 p => k9 p = some r) (fun k9 h => ?_) ?_
   ·refine rn 3 rfl ?_
    refine ixh hx12 rfl rfl ?_
    refine rn 11 rfl ?_
    refine aops_mapUpdate_deepG (id2 := 7) (o := (V.map 7)) (dv := (.dmp (([] : List ((List UInt8) × Bool)).map encM9_4))) (ob := (.map (([] : List ((List UInt8) × Bool)).map encM9_4))) ((mput m7 x11.Name ([] : List ((List UInt8) × Bool))).map encM9_387) tMap136 tKey9 wants_none rfl rfl (.con rfl) ⟨_, rfl⟩ encM9_387_good rfl (by simp [ovl]) rfl rfl (okeep_ents encM9_4_im ([] : List ((List UInt8) × Bool))) (puts_new encM9_387 (fun k => str k) encM9_4 (fun _ => rfl) inj_str x11.Name ([] : List ((List UInt8) × Bool)) m7) ?_
    refine fo (rn 5 rfl ?_)
    refine ln rfl rfl ?_
    refine rn 2 rfl ?_
    refine jK h (fun (p : (List ((List UInt8) × (List ((List UInt8) × Bool))))) => (⟨[(1, (V.ptr 0 4 0 0)), (2, (V.ptr 1 3 0 0)), (3, (V.ptr 2 3 0 0)), (17, (V.lst 2 (a1.Ifaces.map encTIface))), (18, (iV ((a1.Ifaces.length : Nat) : Int))), (19, (iV n6))], [(0, (Ob.arr 27 4 [(encTGraph a1)])), (1, (Ob.arr 138 3 [[(V.con (.map none)), (V.con (.map none)), (V.con (.map none))]])), (2, (Ob.arr 138 3 [[(V.map 3), (V.map 4), (V.map 5)]])), (3, (Ob.map (p.map encM9_387))), (4, (Ob.map (([] : List ((List UInt8) × Bool)).map encM9_4))), (5, (Ob.map (([] : List ((List UInt8) × Bool)).map encM9_4)))], 6⟩ : St)) (fun k13 p => k13 p = some r) (fun k13 h => ?_) ?_
    ·refine rn 1 rfl ?_
     refine wl (A := x11.Methods) 29 rfl (fun hA23 => ?_)
     refine lC (fun (p : Int × (List ((List UInt8) × (List ((List UInt8) × Bool))))) => (⟨[(1, (V.ptr 0 4 0 0)), (2, (V.ptr 1 3 0 0)), (3, (V.ptr 2 3 0 0)), (5, (V.ptr 3 2 0 0)), (17, (V.lst 2 (a1.Ifaces.map encTIface))), (18, (iV ((a1.Ifaces.length : Nat) : Int))), (19, (iV n6)), (29, (V.lst 1 (x11.Methods.map encS))), (30, (iV ((x11.Methods.length : Nat) : Int))), (31, (iV (p.1)))], [(0, (Ob.arr 27 4 [(encTGraph a1)])), (1, (Ob.arr 138 3 [[(V.con (.map none)), (V.con (.map none)), (V.con (.map none))]])), (2, (Ob.arr 138 3 [[(V.map 4), (V.map 5), (V.map 6)]])), (3, (Ob.arr 98 2 [(encTIface x11)])), (4, (Ob.map ((p.2).map encM9_387))), (5, (Ob.map (([] : List ((List UInt8) × Bool)).map encM9_4))), (6, (Ob.map (([] : List ((List UInt8) × Bool)).map encM9_4)))], 7⟩ : St)) (fun n p => RG x11.Methods (fun tl nn => M72_L2 F x11 k13 tl p.2 = some r) n p.1) (fun p h => RG.zero h) (x11.Methods.length + 1) (0, (mput m7 x11.Name ([] : List ((List UInt8) × Bool)))) (RG.start h) (gr [0, 1, 2, 6, 3, 4, 5] rfl (hB rfl rfl rfl (hB rfl rfl rfl (hB rfl rfl rfl (hB rfl rfl rfl (hM rfl rfl (hM rfl rfl (hM rfl rfl .nil))))))) rfl) (fun n p h => ?_)
     obtain ⟨n17, m18⟩ := p
     refine rn 5 rfl ?_
     refine spL rfl (fun hb19 => ?_) (fun hb19 => ?_)
     ·obtain ⟨x20, tl, hx21, h, hk2⟩ := RG.t hA23 h hb19
      unfold M72_L2 at h
      refine rn 5 rfl ?_
      refine ixh hx21 rfl rfl ?_
      refine rn 8 rfl ?_
      refine ck h (fun hc22 h => ?_)
      refine aops_lookup_tkP tMap136 tKey9 wants_none rfl rfl (.con rfl) ⟨_, rfl⟩ encM9_387_good (lookD_enc encM9_387 (fun k => str k) encM9_4 7 (fun _ => rfl) inj_str x11.Name m18 hc22) rfl rfl ?_
      refine fo (rn 1 rfl ?_)
      refine aops_mapUpdate (es := ((mget m18 x11.Name).getD []).map encM9_4) ((mput ((mget m18 x11.Name).getD []) x20 true).map encM9_4) tMap89 tKey9 wants_none rfl rfl (.con rfl) ⟨_, rfl⟩ encM9_4_good rfl (encM9_4_puts ((mget m18 x11.Name).getD []) x20 true) ?_
      refine aops_ghost (ghost_putN 4 7 encM9_387 (fun k => str k) encM9_4 (fun _ => rfl) hc22 rfl rfl rfl encM9_4_im) ?_
      refine fo (rn 6 rfl ?_)
      exact jX ((w64 (n17 + 1)), (mput m18 x11.Name (mput ((mget m18 x11.Name).getD []) x20 true))) (hk2 _ h) (gr [0, 1, 2, 3, 4, 5, 6] rfl (hB rfl rfl rfl (hB rfl rfl rfl (hB rfl rfl rfl (hB rfl rfl rfl (hM rfl rfl (hM rfl rfl (hM rfl rfl .nil))))))) rfl)
     replace h := RG.f h hb19
     unfold M72_L2 at h
     refine rn 1 rfl ?_
     exact jX m18 h (gr [0, 1, 2, 4, 5, 6] rfl (hB rfl rfl rfl (hB rfl rfl rfl (hB rfl rfl rfl (hM rfl rfl (hM rfl rfl (hM rfl rfl .nil)))))) rfl)
    intro m14 h
    refine rn 1 rfl ?_
    exact jX m14 h (gr [0, 1, 2, 3, 4, 5] rfl (hB rfl rfl rfl (hB rfl rfl rfl (hB rfl rfl rfl (hM rfl rfl (hM rfl rfl (hM rfl rfl .nil)))))) rfl)
   intro m10 h
   refine rn 4 rfl ?_
   exact jX ((w64 (n6 + 1)), m10) (hk1 _ h) (gr [0, 1, 2, 3, 4, 5] rfl (hB rfl rfl rfl (hB rfl rfl rfl (hB rfl rfl rfl (hM rfl rfl (hM rfl rfl (hM rfl rfl .nil)))))) rfl)
  replace h := RG.f h hb8
  unfold M72_L1 at h
  refine rn 1 rfl ?_
  exact jX m7 h (gr [0, 1, 2, 3, 4, 5] rfl (hB rfl rfl rfl (hB rfl rfl rfl (hB rfl rfl rfl (hM rfl rfl (hM rfl rfl (hM rfl rfl .nil)))))) rfl)
 intro m3 h
 refine rn 5 rfl ?_
 refine ln rfl rfl ?_
 refine rn 2 rfl ?_
 refine jK h (fun (p : (List ((List UInt8) × Bool))) => (⟨[(1, (V.ptr 0 4 0 0)), (2, (V.ptr 1 3 0 0)), (3, (V.ptr 2 3 0 0))], [(0, (Ob.arr 27 4 [(encTGraph a1)])), (1, (Ob.arr 138 3 [[(V.con (.map none)), (V.con (.map none)), (V.con (.map none))]])), (2, (Ob.arr 138 3 [[(V.map 3), (V.map 4), (V.map 5)]])), (3, (Ob.map (m3.map encM9_387))), (4, (Ob.map (p.map encM9_4))), (5, (Ob.map (([] : List ((List UInt8) × Bool)).map encM9_4)))], 6⟩ : St)) (fun k25 p => k25 p = some r) (fun k25 h => ?_) ?_
 ·refine rn 1 rfl ?_
  refine wl (A := a1.Types) 44 rfl (fun hA34 => ?_)
  refine lC (fun (p : Int × (List ((List UInt8) × Bool))) => (⟨[(1, (V.ptr 0 4 0 0)), (2, (V.ptr 1 3 0 0)), (3, (V.ptr 2 3 0 0)), (44, (V.lst 2 (a1.Types.map encTType))), (45, (iV ((a1.Types.length : Nat) : Int))), (46, (iV (p.1)))], [(0, (Ob.arr 27 4 [(encTGraph a1)])), (1, (Ob.arr 138 3 [[(V.con (.map none)), (V.con (.map none)), (V.con (.map none))]])), (2, (Ob.arr 138 3 [[(V.map 3), (V.map 4), (V.map 5)]])), (3, (Ob.map (m3.map encM9_387))), (4, (Ob.map ((p.2).map encM9_4))), (5, (Ob.map (([] : List ((List UInt8) × Bool)).map encM9_4)))], 6⟩ : St)) (fun n p => RG a1.Types (fun tl nn => M72_L3 F k25 tl p.2 = some r) n p.1) (fun p h => RG.zero h) (a1.Types.length + 1) (0, ([] : List ((List UInt8) × Bool))) (RG.start h) (gr [0, 1, 2, 3, 4, 5] rfl (hB rfl rfl rfl (hB rfl rfl rfl (hB rfl rfl rfl (hM rfl rfl (hM rfl rfl (hM rfl rfl .nil)))))) rfl) (fun n p h => ?_)
  obtain ⟨n29, m30⟩ := p
  refine rn 5 rfl ?_
  refine spL rfl (fun hb31 => ?_) (fun hb31 => ?_)
  ·obtain ⟨x32, tl, hx33, h, hk3⟩ := RG.t hA34 h hb31
   unfold M72_L3 at h
   refine rn 5 rfl ?_
   refine ixh hx33 rfl rfl ?_
   refine rn 9 rfl ?_
   refine aops_mapUpdate (es := m30.map encM9_4) ((mput m30 x32.Name true).map encM9_4) tMap89 tKey9 wants_none rfl rfl (.con rfl) ⟨_, rfl⟩ encM9_4_good rfl (encM9_4_puts m30 x32.Name true) ?_
   refine fo (rn 6 rfl ?_)
   exact jX ((w64 (n29 + 1)), (mput m30 x32.Name true)) (hk3 _ h) (gr [0, 1, 2, 3, 4, 5] rfl (hB rfl rfl rfl (hB rfl rfl rfl (hB rfl rfl rfl (hM rfl rfl (hM rfl rfl (hM rfl rfl .nil)))))) rfl)
  replace h := RG.f h hb31
  unfold M72_L3 at h
  refine rn 1 rfl ?_
  exact jX m30 h (gr [0, 1, 2, 3, 4, 5] rfl (hB rfl rfl rfl (hB rfl rfl rfl (hB rfl rfl rfl (hM rfl rfl (hM rfl rfl (hM rfl rfl .nil)))))) rfl)
 intro m26 h
 refine rn 5 rfl ?_
 refine ln rfl rfl ?_
 refine rn 2 rfl ?_
 refine jK h (fun (p : (List ((List UInt8) × Bool))) => (⟨[(2, (V.ptr 0 3 0 0)), (3, (V.ptr 1 3 0 0))], [(0, (Ob.arr 138 3 [[(V.con (.map none)), (V.con (.map none)), (V.con (.map none))]])), (1, (Ob.arr 138 3 [[(V.map 2), (V.map 3), (V.map 4)]])), (2, (Ob.map (m3.map encM9_387))), (3, (Ob.map (m26.map encM9_4))), (4, (Ob.map (p.map encM9_4)))], 5⟩ : St)) (fun k35 p => k35 p = some r) (fun k35 h => ?_) ?_
 ·refine rn 1 rfl ?_
  refine wl (A := a1.Funcs) 56 rfl (fun hA44 => ?_)
  refine lC (fun (p : Int × (List ((List UInt8) × Bool))) => (⟨[(2, (V.ptr 0 3 0 0)), (3, (V.ptr 1 3 0 0)), (56, (V.lst 4 (a1.Funcs.map encTFunc))), (57, (iV ((a1.Funcs.length : Nat) : Int))), (58, (iV (p.1)))], [(0, (Ob.arr 138 3 [[(V.con (.map none)), (V.con (.map none)), (V.con (.map none))]])), (1, (Ob.arr 138 3 [[(V.map 2), (V.map 3), (V.map 4)]])), (2, (Ob.map (m3.map encM9_387))), (3, (Ob.map (m26.map encM9_4))), (4, (Ob.map ((p.2).map encM9_4)))], 5⟩ : St)) (fun n p => RG a1.Funcs (fun tl nn => M72_L4 F k35 tl p.2 = some r) n p.1) (fun p h => RG.zero h) (a1.Funcs.length + 1) (0, ([] : List ((List UInt8) × Bool))) (RG.start h) (gr [1, 2, 3, 4, 5] rfl (hB rfl rfl rfl (hB rfl rfl rfl (hM rfl rfl (hM rfl rfl (hM rfl rfl .nil))))) rfl) (fun n p h => ?_)
  obtain ⟨n39, m40⟩ := p
  refine rn 5 rfl ?_
  refine spL rfl (fun hb41 => ?_) (fun hb41 => ?_)
  ·obtain ⟨x42, tl, hx43, h, hk4⟩ := RG.t hA44 h hb41
   unfold M72_L4 at h
   refine rn 5 rfl ?_
   refine ixh hx43 rfl rfl ?_
   refine rn 9 rfl ?_
   refine aops_mapUpdate (es := m40.map encM9_4) ((mput m40 x42.Name true).map encM9_4) tMap89 tKey9 wants_none rfl rfl (.con rfl) ⟨_, rfl⟩ encM9_4_good rfl (encM9_4_puts m40 x42.Name true) ?_
   refine fo (rn 6 rfl ?_)
   exact jX ((w64 (n39 + 1)), (mput m40 x42.Name true)) (hk4 _ h) (gr [0, 1, 2, 3, 4] rfl (hB rfl rfl rfl (hB rfl rfl rfl (hM rfl rfl (hM rfl rfl (hM rfl rfl .nil))))) rfl)
  replace h := RG.f h hb41
  unfold M72_L4 at h
  refine rn 1 rfl ?_
  exact jX m40 h (gr [0, 1, 2, 3, 4] rfl (hB rfl rfl rfl (hB rfl rfl rfl (hM rfl rfl (hM rfl rfl (hM rfl rfl .nil))))) rfl)
 intro m36 h
 refine rn 5 rfl ?_
 refine awp_ghost (ghost_frzDMC 2 0 (m3.map encM9_89) (Ob.arr 138 3 [[(V.imap (m3.map encM9_89)), (V.map 3), (V.map 4)]]) rfl (by simp) (und_map encM9_387_und _) (ObSub.box (.cons Sub.frzM (.cons Sub.keepM (.cons Sub.keepM .nil))))) ?_
 refine awp_ghost (ghost_frzMC 3 0 (Ob.arr 138 3 [[(V.imap (m3.map encM9_89)), (V.imap (m26.map encM9_4)), (V.map 4)]]) rfl encM9_4_imm (ObSub.box (.cons Sub.keepM (.cons Sub.frzM (.cons Sub.keepM .nil))))) ?_
 refine awp_ghost (ghost_frzMC 4 0 (Ob.arr 138 3 [[(V.imap (m3.map encM9_89)), (V.imap (m26.map encM9_4)), (V.imap (m36.map encM9_4))]]) rfl encM9_4_imm (ObSub.box (.cons Sub.keepM (.cons Sub.keepM (.cons Sub.frzM .nil))))) ?_
 refine fa ?_
 exact rt h rfl
theorem W82 (F : Nat) (a1 : (List UInt8)) (r : Bool) (h : M82 F a1 = some r) : Pure Tryz.prog 82 [(sV a1)] (bV r) := by
 refine pin (fun r => (bV r)) r rfl Tryz.func82 rfl rfl rfl rfl rfl (fun w0 m0 hg => ?_)
 unfold M82 at h
 refine rn 9 rfl ?_
 refine jK h (fun _ : Unit => (⟨[(0, (sV a1))], [], 0⟩ : St)) (fun k2 (_ : Unit) => k2 = some r) (fun k2 h => ?_) ?_
 ·refine rn 1 rfl ?_
  refine ck h (fun hA15 h => ?_)
  refine lC (fun (p : Int) => (⟨[(0, (sV a1)), (3, (iV p))], [], 0⟩ : St)) (fun n p => RC (a1.length : Int) (fun tl nn => M82_L1 F a1 k2 tl nn = some r) n p) (fun p h => RC.zero h) (Int.toNat (a1.length : Int) + 1) 0 (RC.start h) (g0 rfl rfl) (fun n n4 h => ?_)
  refine rn 8 rfl ?_
  refine spL rfl (fun hb5 => ?_) (fun hb5 => ?_)
  ·obtain ⟨tl, h, hk1⟩ := RC.t hA15 h hb5
   unfold M82_L1 at h
   refine rn 7 rfl ?_
   refine ixs h rfl rfl (fun c6 hx7 h => ?_)
   refine rn 2 rfl ?_
   refine spO 14 h rfl (fun hb8 h => ?_) (fun hb8 h => ?_)
   ·refine rn 17 rfl ?_
    exact rt h rfl
   refine rn 2 rfl ?_
   refine ixs h rfl rfl (fun c9 hx10 h => ?_)
   refine rn 3 rfl ?_
   refine spO 20 h rfl (fun hb11 h => ?_) (fun hb11 h => ?_)
   ·refine rn 11 rfl ?_
    exact rt h rfl
   refine rn 2 rfl ?_
   refine ixs h rfl rfl (fun c12 hx13 h => ?_)
   refine rn 3 rfl ?_
   refine spC h rfl (fun hb14 h => ?_) (fun hb14 h => ?_)
   ·refine rn 4 rfl ?_
    exact rt h rfl
   refine rn 7 rfl ?_
   exact jX (w64 (n4 + 1)) (hk1 _ h) (g0 rfl rfl)
  replace h := RC.f h hb5
  unfold M82_L1 at h
  refine rn 1 rfl ?_
  exact jX () h (g0 rfl rfl)
 intro _ h
 refine rn 6 rfl ?_
 refine spO 29 h rfl (fun hb16 h => ?_) (fun hb16 h => ?_)
 ·refine rn 6 rfl ?_
  exact rt h rfl
 refine rn 6 rfl ?_
 exact rt h rfl
theorem W139 (F : Nat) (a1 : (List (List UInt8))) (a2 : Int) (r : Int) (h : M139 F a1 a2 = some r) : Pure Tryz.prog 139 [(V.lst 1 (a1.map encS)), (iV a2)] (iV r) := by
 refine pin (fun r => (iV r)) r rfl Tryz.func139 rfl rfl rfl rfl rfl (fun w0 m0 hg => ?_)
 unfold M139 at h
 refine rn 6 rfl ?_
 refine bs h (fun hb3 h => ?_) (fun hb3 h => ?_)
 ·obtain ⟨x4, hx5, h⟩ := bind_some h
  obtain ⟨x6, hx7, h⟩ := bind_some h
  refine dr mixed (vs 2 rfl (vb hb3 rfl (vs 2 rfl (iD hx5 rfl rfl rfl (vs 4 rfl (iD hx7 rfl rfl rfl (vs 3 rfl .nil))))))) (by kernel_rfl) ?_
  refine spC h rfl (fun hb8 h => ?_) (fun hb8 h => ?_)
  ·refine rn 4 rfl ?_
   exact rt h rfl
  refine rn 5 rfl ?_
  exact rt h rfl
 refine dr mixed (vs 2 rfl (vb hb3 rfl (vs 11 rfl .nil))) (by kernel_rfl) ?_
 refine rn 6 rfl ?_
 exact rt h rfl
theorem W136 (F : Nat) (a1 : Tprovenderref6_checker) (r : Int) (h : M136 F a1 = some r) : Pure Tryz.prog 136 [(V.agg (encTprovenderref6_checker a1))] (iV r) := by
 refine pin (fun r => (iV r)) r rfl Tryz.func136 rfl rfl rfl rfl rfl (fun w0 m0 hg => ?_)
 unfold M136 at h
 refine rn 15 rfl ?_
 refine ln rfl rfl ?_
 refine rn 2 rfl ?_
 refine jK h (fun _ : Unit => (⟨[], [], 0⟩ : St)) (fun k2 (_ : Unit) => k2 = some r) (fun k2 h => ?_) ?_
 ·refine rn 1 rfl ?_
  refine wl (A := a1.g.Ifaces) 11 rfl (fun hA31 => ?_)
  refine lC (fun (p : (List UInt8) × Int) => (⟨[(3, (sV (p.1))), (11, (V.lst 2 (a1.g.Ifaces.map encTIface))), (12, (iV ((a1.g.Ifaces.length : Nat) : Int))), (13, (iV (p.2)))], [], 0⟩ : St)) (fun n p => RG a1.g.Ifaces (fun tl nn => M136_L1 F k2 tl p.1 = some r) n p.2) (fun p h => RG.zero h) (a1.g.Ifaces.length + 1) (([] : List UInt8), 0) (RG.start h) (g0 rfl rfl) (fun n p h => ?_)
  obtain ⟨s5, n6⟩ := p
  refine rn 5 rfl ?_
  refine spL rfl (fun hb7 => ?_) (fun hb7 => ?_)
  ·obtain ⟨x10, tl, hx11, h, hk1⟩ := RG.t hA31 h hb7
   unfold M136_L1 at h
   refine rn 2 rfl ?_
   refine jK h (fun (p : (List UInt8)) => (⟨[(3, (sV p)), (11, (V.lst 2 (a1.g.Ifaces.map encTIface))), (12, (iV ((a1.g.Ifaces.length : Nat) : Int))), (13, (iV n6))], [], 0⟩ : St)) (fun k8 p => k8 p = some r) (fun k8 h => ?_) ?_
   ·refine rn 3 rfl ?_
    refine ixh hx11 rfl rfl ?_
    refine rn 10 rfl ?_
    refine cl h rfl rfl rfl (W82 _ _) rfl (fun y12 hx13 h => ?_)
    refine rn 3 rfl ?_
    refine spC h rfl (fun hb14 h => ?_) (fun hb14 h => ?_)
    ·refine rn 4 rfl ?_
     exact rt h rfl
    refine rn 8 rfl ?_
    refine spC h rfl (fun hb15 h => ?_) (fun hb15 h => ?_)
    ·refine rn 4 rfl ?_
     exact rt h rfl
    refine rn 4 rfl ?_
    refine ln rfl rfl ?_
    refine rn 3 rfl ?_
    refine spC h rfl (fun hb16 h => ?_) (fun hb16 h => ?_)
    ·refine rn 4 rfl ?_
     exact rt h rfl
    refine rn 4 rfl ?_
    refine ln rfl rfl ?_
    refine rn 3 rfl ?_
    refine spC h rfl (fun hb17 h => ?_) (fun hb17 h => ?_)
    ·refine rn 4 rfl ?_
     exact rt h rfl
    refine rn 12 rfl ?_
    refine ln rfl rfl ?_
    refine rn 2 rfl ?_
    refine jK h (fun _ : Unit => (⟨[(3, (sV x10.Name)), (11, (V.lst 2 (a1.g.Ifaces.map encTIface))), (12, (iV ((a1.g.Ifaces.length : Nat) : Int))), (13, (iV n6))], [], 0⟩ : St)) (fun k18 (_ : Unit) => k18 = some r) (fun k18 h => ?_) ?_
    ·refine rn 1 rfl ?_
     refine wl (A := x10.Methods) 29 rfl (fun hA30 => ?_)
     refine lC (fun (p : Int) => (⟨[(3, (sV x10.Name)), (5, (V.ptr 0 2 0 0)), (11, (V.lst 2 (a1.g.Ifaces.map encTIface))), (12, (iV ((a1.g.Ifaces.length : Nat) : Int))), (13, (iV n6)), (40, (V.lst 1 (x10.Methods.map encS))), (41, (iV ((x10.Methods.length : Nat) : Int))), (42, (iV p))], [(0, (Ob.arr 98 2 [(encTIface x10)]))], 1⟩ : St)) (fun n p => RG x10.Methods (fun tl nn => M136_L2 F x10 k18 tl nn = some r) n p) (fun p h => RG.zero h) (x10.Methods.length + 1) 0 (RG.start h) (gr [0] rfl (hB rfl rfl rfl .nil) rfl) (fun n n20 h => ?_)
     refine rn 5 rfl ?_
     refine spL rfl (fun hb21 => ?_) (fun hb21 => ?_)
     ·obtain ⟨x22, tl, hx23, h, hk2⟩ := RG.t hA30 h hb21
      unfold M136_L2 at h
      refine rn 6 rfl ?_
      refine ixh hx23 rfl rfl ?_
      refine rn 8 rfl ?_
      refine cl h rfl rfl rfl (W82 _ _) rfl (fun y24 hx25 h => ?_)
      refine rn 2 rfl ?_
      refine spC h rfl (fun hb26 h => ?_) (fun hb26 h => ?_)
      ·refine rn 4 rfl ?_
       exact rt h rfl
      refine rn 6 rfl ?_
      refine cl h rfl rfl rfl (W139 _ _ _) rfl (fun y27 hx28 h => ?_)
      refine rn 7 rfl ?_
      refine spC h rfl (fun hb29 h => ?_) (fun hb29 h => ?_)
      ·refine rn 5 rfl ?_
       exact rt h rfl
      refine rn 6 rfl ?_
      exact jX (w64 (n20 + 1)) (hk2 _ h) (gr [0] rfl (hB rfl rfl rfl .nil) rfl)
     replace h := RG.f h hb21
     unfold M136_L2 at h
     refine rn 1 rfl ?_
     exact jX () h (g0 rfl rfl)
    intro _ h
    refine rn 1 rfl ?_
    exact jX x10.Name h (g0 rfl rfl)
   intro s9 h
   refine rn 4 rfl ?_
   exact jX (s9, (w64 (n6 + 1))) (hk1 _ h) (g0 rfl rfl)
  replace h := RG.f h hb7
  unfold M136_L1 at h
  refine rn 1 rfl ?_
  exact jX () h (g0 rfl rfl)
 intro _ h
 refine rn 4 rfl ?_
 exact rt h rfl
theorem W137 (F : Nat) (a1 : Tprovenderref6_checker) (r : Int) (h : M137 F a1 = some r) : Pure Tryz.prog 137 [(V.agg (encTprovenderref6_checker a1))] (iV r) := by
 refine pin (fun r => (iV r)) r rfl Tryz.func137 rfl rfl rfl rfl rfl (fun w0 m0 hg => ?_)
 unfold M137 at h
 refine rn 15 rfl ?_
 refine ln rfl rfl ?_
 refine rn 2 rfl ?_
 refine jK h (fun _ : Unit => (⟨[], [], 0⟩ : St)) (fun k2 (_ : Unit) => k2 = some r) (fun k2 h => ?_) ?_
 ·refine rn 1 rfl ?_
  refine wl (A := a1.g.Types) 11 rfl (fun hA33 => ?_)
  refine lC (fun (p : (List UInt8) × Int) => (⟨[(1, (V.ptr 0 8 0 0)), (3, (sV (p.1))), (11, (V.lst 2 (a1.g.Types.map encTType))), (12, (iV ((a1.g.Types.length : Nat) : Int))), (13, (iV (p.2)))], [(0, (Ob.arr 141 8 [(encTprovenderref6_checker a1)]))], 1⟩ : St)) (fun n p => RG a1.g.Types (fun tl nn => M137_L1 F a1 k2 tl p.1 = some r) n p.2) (fun p h => RG.zero h) (a1.g.Types.length + 1) (([] : List UInt8), 0) (RG.start h) (gr [0] rfl (hB rfl rfl rfl .nil) rfl) (fun n p h => ?_)
  obtain ⟨s5, n6⟩ := p
  refine rn 5 rfl ?_
  refine spL rfl (fun hb7 => ?_) (fun hb7 => ?_)
  ·obtain ⟨x10, tl, hx11, h, hk1⟩ := RG.t hA33 h hb7
   unfold M137_L1 at h
   refine rn 2 rfl ?_
   refine jK h (fun (p : (List UInt8)) => (⟨[(1, (V.ptr 0 8 0 0)), (3, (sV p)), (11, (V.lst 2 (a1.g.Types.map encTType))), (12, (iV ((a1.g.Types.length : Nat) : Int))), (13, (iV n6))], [(0, (Ob.arr 141 8 [(encTprovenderref6_checker a1)]))], 1⟩ : St)) (fun k8 p => k8 p = some r) (fun k8 h => ?_) ?_
   ·refine rn 3 rfl ?_
    refine ixh hx11 rfl rfl ?_
    refine rn 10 rfl ?_
    refine cl h rfl rfl rfl (W82 _ _) rfl (fun y12 hx13 h => ?_)
    refine rn 3 rfl ?_
    refine spC h rfl (fun hb14 h => ?_) (fun hb14 h => ?_)
    ·refine rn 4 rfl ?_
     exact rt h rfl
    refine rn 8 rfl ?_
    refine spC h rfl (fun hb15 h => ?_) (fun hb15 h => ?_)
    ·refine rn 4 rfl ?_
     exact rt h rfl
    refine rn 4 rfl ?_
    refine ln rfl rfl ?_
    refine rn 3 rfl ?_
    refine spC h rfl (fun hb16 h => ?_) (fun hb16 h => ?_)
    ·refine rn 4 rfl ?_
     exact rt h rfl
    refine rn 16 rfl ?_
    refine ln rfl rfl ?_
    refine rn 2 rfl ?_
    refine jK h (fun _ : Unit => (⟨[(1, (V.ptr 0 8 0 0)), (3, (sV x10.Name)), (11, (V.lst 2 (a1.g.Types.map encTType))), (12, (iV ((a1.g.Types.length : Nat) : Int))), (13, (iV n6))], [(0, (Ob.arr 141 8 [(encTprovenderref6_checker a1)]))], 1⟩ : St)) (fun k17 (_ : Unit) => k17 = some r) (fun k17 h => ?_) ?_
    ·refine rn 1 rfl ?_
     refine wl (A := x10.Methods) 29 rfl (fun hA32 => ?_)
     refine lC (fun (p : (List UInt8) × Int) => (⟨[(1, (V.ptr 0 8 0 0)), (3, (sV x10.Name)), (6, (sV (p.1))), (11, (V.lst 2 (a1.g.Types.map encTType))), (12, (iV ((a1.g.Types.length : Nat) : Int))), (13, (iV n6)), (35, (V.lst 2 (x10.Methods.map encTMethod))), (36, (iV ((x10.Methods.length : Nat) : Int))), (37, (iV (p.2)))], [(0, (Ob.arr 141 8 [(encTprovenderref6_checker a1)]))], 1⟩ : St)) (fun n p => RG x10.Methods (fun tl nn => M137_L2 F a1 k17 tl p.1 = some r) n p.2) (fun p h => RG.zero h) (x10.Methods.length + 1) (([] : List UInt8), 0) (RG.start h) (gr [0] rfl (hB rfl rfl rfl .nil) rfl) (fun n p h => ?_)
     obtain ⟨s20, n21⟩ := p
     refine rn 5 rfl ?_
     refine spL rfl (fun hb22 => ?_) (fun hb22 => ?_)
     ·obtain ⟨x23, tl, hx24, h, hk2⟩ := RG.t hA32 h hb22
      unfold M137_L2 at h
      refine rn 5 rfl ?_
      refine ixh hx24 rfl rfl ?_
      refine rn 10 rfl ?_
      refine cl h rfl rfl rfl (W82 _ _) rfl (fun y25 hx26 h => ?_)
      refine rn 3 rfl ?_
      refine jK h (fun _ : Unit => (⟨[(1, (V.ptr 0 8 0 0)), (3, (sV x10.Name)), (8, (V.ptr 1 2 0 0)), (11, (V.lst 2 (a1.g.Types.map encTType))), (12, (iV ((a1.g.Types.length : Nat) : Int))), (13, (iV n6)), (35, (V.lst 2 (x10.Methods.map encTMethod))), (36, (iV ((x10.Methods.length : Nat) : Int))), (37, (iV n21))], [(0, (Ob.arr 141 8 [(encTprovenderref6_checker a1)])), (1, (Ob.arr 116 2 [(encTMethod x23)]))], 2⟩ : St)) (fun k27 (_ : Unit) => k27 = some r) (fun k27 h => ?_) ?_
      ·refine spC h rfl (fun hb28 h => ?_) (fun hb28 h => ?_)
       ·refine rn 4 rfl ?_
        exact rt h rfl
       refine rn 8 rfl ?_
       refine spC h rfl (fun hb29 h => ?_) (fun hb29 h => ?_)
       ·refine rn 4 rfl ?_
        exact rt h rfl
       refine rn 6 rfl ?_
       refine spO 55 h rfl (fun hb30 h => ?_) (fun hb30 h => ?_)
       ·refine rn 5 rfl ?_
        refine aops_lookup _ (bV false) (bV ((mget a1.n.funcs x23.Func).getD false)) tMap89 tKey9 tZo4 (irel_con _) (wants_some (c := true) (b := true) 55 rfl rfl rfl) rfl .imm (.con rfl) ⟨_, rfl⟩ encM9_4_good (encM9_4_look a1.n.funcs x23.Func) (getD_map (encM9_4_val) (mget a1.n.funcs x23.Func) false) rfl ?_
        refine fo (rn 4 rfl ?_)
        refine spC h rfl (fun hb31 h => ?_) (fun hb31 h => ?_)
        ·refine rn 4 rfl ?_
         exact rt h rfl
        refine rn 1 rfl ?_
        exact jX () h (gr [0, 1] rfl (hB rfl rfl rfl (hB rfl rfl rfl .nil)) rfl)
       refine rn 12 rfl ?_
       exact jX () h (gr [0, 1] rfl (hB rfl rfl rfl (hB rfl rfl rfl .nil)) rfl)
      intro _ h
      refine rn 11 rfl ?_
      exact jX (x23.Name, (w64 (n21 + 1))) (hk2 _ h) (gr [0] rfl (hB rfl rfl rfl .nil) rfl)
     replace h := RG.f h hb22
     unfold M137_L2 at h
     refine rn 1 rfl ?_
     exact jX () h (gr [0] rfl (hB rfl rfl rfl .nil) rfl)
    intro _ h
    refine rn 1 rfl ?_
    exact jX x10.Name h (gr [0] rfl (hB rfl rfl rfl .nil) rfl)
   intro s9 h
   refine rn 4 rfl ?_
   exact jX (s9, (w64 (n6 + 1))) (hk1 _ h) (gr [0] rfl (hB rfl rfl rfl .nil) rfl)
  replace h := RG.f h hb7
  unfold M137_L1 at h
  refine rn 1 rfl ?_
  exact jX () h (g0 rfl rfl)
 intro _ h
 refine rn 4 rfl ?_
 exact rt h rfl
theorem W187 (F : Nat) (a1 : Tprovenderref6_checker) (a2 : TCall) (r : Int) (h : M187 F a1 a2 = some r) : Pure Tryz.prog 187 [(V.agg (encTprovenderref6_checker a1)), (V.agg (encTCall a2))] (iV r) := by
 refine pin (fun r => (iV r)) r rfl Tryz.func187 rfl rfl rfl rfl rfl (fun w0 m0 hg => ?_)
 unfold M187 at h
 refine rn 18 rfl ?_
 refine jK h (fun _ : Unit => (⟨[(3, (V.ptr 0 4 0 0))], [(0, (Ob.arr 109 4 [(encTCall a2)]))], 1⟩ : St)) (fun k3 (_ : Unit) => k3 = some r) (fun k3 h => ?_) ?_
 ·refine spC h rfl (fun hb4 h => ?_) (fun hb4 h => ?_)
  ·refine rn 7 rfl ?_
   refine spO 14 h rfl (fun hb5 h => ?_) (fun hb5 h => ?_)
   ·refine rn 5 rfl ?_
    refine aops_lookup _ (bV false) (bV ((mget a1.n.funcs a2.Target).getD false)) tMap89 tKey9 tZo4 (irel_con _) (wants_some (c := true) (b := true) 14 rfl rfl rfl) rfl .imm (.con rfl) ⟨_, rfl⟩ encM9_4_good (encM9_4_look a1.n.funcs a2.Target) (getD_map (encM9_4_val) (mget a1.n.funcs a2.Target) false) rfl ?_
    refine fo (rn 3 rfl ?_)
    refine spC h rfl (fun hb6 h => ?_) (fun hb6 h => ?_)
    ·refine rn 4 rfl ?_
     exact rt h rfl
    refine rn 7 rfl ?_
    refine spC h rfl (fun hb7 h => ?_) (fun hb7 h => ?_)
    ·refine rn 4 rfl ?_
     exact rt h rfl
    refine rn 1 rfl ?_
    exact jX () h (gr [1] rfl (hB rfl rfl rfl .nil) rfl)
   refine rn 17 rfl ?_
   refine spC h rfl (fun hb8 h => ?_) (fun hb8 h => ?_)
   ·refine rn 4 rfl ?_
    exact rt h rfl
   refine rn 1 rfl ?_
   exact jX () h (gr [1] rfl (hB rfl rfl rfl .nil) rfl)
  refine rn 5 rfl ?_
  refine spC h rfl (fun hb9 h => ?_) (fun hb9 h => ?_)
  ·refine rn 7 rfl ?_
   refine bs h (fun hb10 h => ?_) (fun hb10 h => ?_)
   ·refine aops_lookup_okB _ (V.con (.map none)) (V.imap (((mget a1.n.ifaces a2.Target).getD []).map encM9_4)) tMap136 tKey9 tZo89 (irel_con _) wants_none rfl .imm (.con rfl) ⟨_, rfl⟩ encM9_89_good (encM9_89_look a1.n.ifaces a2.Target) (getD_mapT (y := []) hb10) (isSomeT hb10) rfl ?_
    refine fo (rn 12 rfl ?_)
    refine spO 40 h rfl (fun hb11 h => ?_) (fun hb11 h => ?_)
    ·refine rn 6 rfl ?_
     refine aops_lookup _ (bV false) (bV ((mget ((mget a1.n.ifaces a2.Target).getD []) a2.Method).getD false)) tMap89 tKey9 tZo4 (irel_con _) (wants_some (c := false) (b := false) 43 rfl rfl rfl) rfl .imm (.con rfl) ⟨_, rfl⟩ encM9_4_good (encM9_4_look ((mget a1.n.ifaces a2.Target).getD []) a2.Method) (getD_map (encM9_4_val) (mget ((mget a1.n.ifaces a2.Target).getD []) a2.Method) false) rfl ?_
     refine fo (rn 4 rfl ?_)
     refine spC h rfl (fun hb12 h => ?_) (fun hb12 h => ?_)
     ·refine rn 4 rfl ?_
      exact rt h rfl
     refine rn 1 rfl ?_
     exact jX () h (gr [1] rfl (hB rfl rfl rfl .nil) rfl)
    refine rn 13 rfl ?_
    exact jX () h (gr [1] rfl (hB rfl rfl rfl .nil) rfl)
   refine aops_lookup_okB _ (V.con (.map none)) (V.con (.map none)) tMap136 tKey9 tZo89 (irel_con _) wants_none rfl .imm (.con rfl) ⟨_, rfl⟩ encM9_89_good (encM9_89_look a1.n.ifaces a2.Target) (getD_mapF hb10) (isSomeT hb10) rfl ?_
   refine fo (rn 12 rfl ?_)
   refine spO 40 h rfl (fun hb13 h => ?_) (fun hb13 h => ?_)
   ·refine rn 16 rfl ?_
    exact rt h rfl
   refine rn 13 rfl ?_
   exact jX () h (gr [1] rfl (hB rfl rfl rfl .nil) rfl)
  refine rn 4 rfl ?_
  exact rt h rfl
 intro _ h
 refine rn 8 rfl ?_
 refine spO 54 h rfl (fun hb14 h => ?_) (fun hb14 h => ?_)
 ·refine rn 2 rfl ?_
  refine cl h rfl rfl rfl (W82 _ _) rfl (fun y15 hx16 h => ?_)
  refine rn 3 rfl ?_
  refine spC h rfl (fun hb17 h => ?_) (fun hb17 h => ?_)
  ·refine rn 4 rfl ?_
   exact rt h rfl
  refine rn 5 rfl ?_
  exact rt h rfl
 refine rn 12 rfl ?_
 exact rt h rfl
theorem W138 (F : Nat) (a1 : Tprovenderref6_checker) (r : Int) (h : M138 F a1 = some r) : Pure Tryz.prog 138 [(V.agg (encTprovenderref6_checker a1))] (iV r) := by
 refine pin (fun r => (iV r)) r rfl Tryz.func138 rfl rfl rfl rfl rfl (fun w0 m0 hg => ?_)
 unfold M138 at h
 refine rn 15 rfl ?_
 refine ln rfl rfl ?_
 refine rn 2 rfl ?_
 refine jK h (fun _ : Unit => (⟨[], [], 0⟩ : St)) (fun k2 (_ : Unit) => k2 = some r) (fun k2 h => ?_) ?_
 ·refine rn 1 rfl ?_
  refine wl (A := a1.g.Funcs) 14 rfl (fun hA46 => ?_)
  refine lC (fun (p : (List UInt8) × Int) => (⟨[(1, (V.ptr 0 8 0 0)), (3, (sV (p.1))), (14, (V.lst 4 (a1.g.Funcs.map encTFunc))), (15, (iV ((a1.g.Funcs.length : Nat) : Int))), (16, (iV (p.2)))], [(0, (Ob.arr 141 8 [(encTprovenderref6_checker a1)]))], 1⟩ : St)) (fun n p => RG a1.g.Funcs (fun tl nn => M138_L1 F a1 k2 tl p.1 = some r) n p.2) (fun p h => RG.zero h) (a1.g.Funcs.length + 1) (([] : List UInt8), 0) (RG.start h) (gr [0] rfl (hB rfl rfl rfl .nil) rfl) (fun n p h => ?_)
  obtain ⟨s5, n6⟩ := p
  refine rn 5 rfl ?_
  refine spL rfl (fun hb7 => ?_) (fun hb7 => ?_)
  ·obtain ⟨x10, tl, hx11, h, hk1⟩ := RG.t hA46 h hb7
   unfold M138_L1 at h
   refine rn 2 rfl ?_
   refine jK h (fun (p : (List UInt8)) => (⟨[(1, (V.ptr 0 8 0 0)), (3, (sV p)), (14, (V.lst 4 (a1.g.Funcs.map encTFunc))), (15, (iV ((a1.g.Funcs.length : Nat) : Int))), (16, (iV n6))], [(0, (Ob.arr 141 8 [(encTprovenderref6_checker a1)]))], 1⟩ : St)) (fun k8 p => k8 p = some r) (fun k8 h => ?_) ?_
   ·refine rn 3 rfl ?_
    refine ixh hx11 rfl rfl ?_
    refine rn 10 rfl ?_
    refine cl h rfl rfl rfl (W82 _ _) rfl (fun y12 hx13 h => ?_)
    refine rn 3 rfl ?_
    refine spC h rfl (fun hb14 h => ?_) (fun hb14 h => ?_)
    ·refine rn 4 rfl ?_
     exact rt h rfl
    refine rn 8 rfl ?_
    refine spC h rfl (fun hb15 h => ?_) (fun hb15 h => ?_)
    ·refine rn 4 rfl ?_
     exact rt h rfl
    refine rn 4 rfl ?_
    refine cl h rfl rfl rfl (W82 _ _) rfl (fun y16 hx17 h => ?_)
    refine rn 3 rfl ?_
    refine spC h rfl (fun hb18 h => ?_) (fun hb18 h => ?_)
    ·refine rn 4 rfl ?_
     exact rt h rfl
    refine rn 4 rfl ?_
    refine ln rfl rfl ?_
    refine rn 3 rfl ?_
    refine spC h rfl (fun hb19 h => ?_) (fun hb19 h => ?_)
    ·refine rn 4 rfl ?_
     exact rt h rfl
    refine rn 13 rfl ?_
    refine ln rfl rfl ?_
    refine rn 2 rfl ?_
    refine jK h (fun _ : Unit => (⟨[(1, (V.ptr 0 8 0 0)), (3, (sV x10.Name)), (5, (V.ptr 1 4 0 0)), (14, (V.lst 4 (a1.g.Funcs.map encTFunc))), (15, (iV ((a1.g.Funcs.length : Nat) : Int))), (16, (iV n6))], [(0, (Ob.arr 141 8 [(encTprovenderref6_checker a1)])), (1, (Ob.arr 94 4 [(encTFunc x10)]))], 2⟩ : St)) (fun k20 (_ : Unit) => k20 = some r) (fun k20 h => ?_) ?_
    ·refine rn 1 rfl ?_
     refine wl (A := x10.Calls) 37 rfl (fun hA29 => ?_)
     refine lC (fun (p : Int) => (⟨[(1, (V.ptr 0 8 0 0)), (3, (sV x10.Name)), (5, (V.ptr 1 4 0 0)), (14, (V.lst 4 (a1.g.Funcs.map encTFunc))), (15, (iV ((a1.g.Funcs.length : Nat) : Int))), (16, (iV n6)), (43, (V.lst 4 (x10.Calls.map encTCall))), (44, (iV ((x10.Calls.length : Nat) : Int))), (45, (iV p))], [(0, (Ob.arr 141 8 [(encTprovenderref6_checker a1)])), (1, (Ob.arr 94 4 [(encTFunc x10)]))], 2⟩ : St)) (fun n p => RG x10.Calls (fun tl nn => M138_L2 F a1 k20 tl = some r) n p) (fun p h => RG.zero h) (x10.Calls.length + 1) 0 (RG.start h) (gr [0, 1] rfl (hB rfl rfl rfl (hB rfl rfl rfl .nil)) rfl) (fun n n22 h => ?_)
     refine rn 5 rfl ?_
     refine spL rfl (fun hb23 => ?_) (fun hb23 => ?_)
     ·obtain ⟨x24, tl, hx25, h, hk2⟩ := RG.t hA29 h hb23
      unfold M138_L2 at h
      refine rn 5 rfl ?_
      refine ixh hx25 rfl rfl ?_
      refine rn 8 rfl ?_
      refine cl h rfl rfl rfl (W187 _ _ _) rfl (fun y26 hx27 h => ?_)
      refine rn 7 rfl ?_
      refine spC h rfl (fun hb28 h => ?_) (fun hb28 h => ?_)
      ·refine rn 5 rfl ?_
       exact rt h rfl
      refine rn 6 rfl ?_
      exact jX (w64 (n22 + 1)) (hk2 _ h) (gr [0, 1] rfl (hB rfl rfl rfl (hB rfl rfl rfl .nil)) rfl)
     replace h := RG.f h hb23
     unfold M138_L2 at h
     refine rn 1 rfl ?_
     exact jX () h (gr [0, 1] rfl (hB rfl rfl rfl (hB rfl rfl rfl .nil)) rfl)
    intro _ h
    refine rn 4 rfl ?_
    refine ln rfl rfl ?_
    refine rn 2 rfl ?_
    refine jK h (fun _ : Unit => (⟨[(1, (V.ptr 0 8 0 0)), (3, (sV x10.Name)), (14, (V.lst 4 (a1.g.Funcs.map encTFunc))), (15, (iV ((a1.g.Funcs.length : Nat) : Int))), (16, (iV n6))], [(0, (Ob.arr 141 8 [(encTprovenderref6_checker a1)]))], 1⟩ : St)) (fun k30 (_ : Unit) => k30 = some r) (fun k30 h => ?_) ?_
    ·refine rn 1 rfl ?_
     refine wl (A := x10.Makes) 57 rfl (fun hA45 => ?_)
     refine lC (fun (p : Int) => (⟨[(1, (V.ptr 0 8 0 0)), (3, (sV x10.Name)), (5, (V.ptr 1 4 0 0)), (14, (V.lst 4 (a1.g.Funcs.map encTFunc))), (15, (iV ((a1.g.Funcs.length : Nat) : Int))), (16, (iV n6)), (57, (V.lst 1 (x10.Makes.map encS))), (58, (iV ((x10.Makes.length : Nat) : Int))), (59, (iV p))], [(0, (Ob.arr 141 8 [(encTprovenderref6_checker a1)])), (1, (Ob.arr 94 4 [(encTFunc x10)]))], 2⟩ : St)) (fun n p => RG x10.Makes (fun tl nn => M138_L3 F a1 x10 k30 tl nn = some r) n p) (fun p h => RG.zero h) (x10.Makes.length + 1) 0 (RG.start h) (gr [0, 1] rfl (hB rfl rfl rfl (hB rfl rfl rfl .nil)) rfl) (fun n n32 h => ?_)
     refine rn 5 rfl ?_
     refine spL rfl (fun hb33 => ?_) (fun hb33 => ?_)
     ·obtain ⟨x35, tl, hx36, h, hk3⟩ := RG.t hA45 h hb33
      unfold M138_L3 at h
      refine rn 2 rfl ?_
      refine jK h (fun _ : Unit => (⟨[(1, (V.ptr 0 8 0 0)), (3, (sV x10.Name)), (5, (V.ptr 1 4 0 0)), (14, (V.lst 4 (a1.g.Funcs.map encTFunc))), (15, (iV ((a1.g.Funcs.length : Nat) : Int))), (16, (iV n6)), (57, (V.lst 1 (x10.Makes.map encS))), (58, (iV ((x10.Makes.length : Nat) : Int))), (59, (iV n32))], [(0, (Ob.arr 141 8 [(encTprovenderref6_checker a1)])), (1, (Ob.arr 94 4 [(encTFunc x10)]))], 2⟩ : St)) (fun k34 (_ : Unit) => k34 = some r) (fun k34 h => ?_) ?_
      ·refine rn 4 rfl ?_
       refine ixh hx36 rfl rfl ?_
       refine rn 11 rfl ?_
       refine spO 67 h rfl (fun hb37 h => ?_) (fun hb37 h => ?_)
       ·refine rn 4 rfl ?_
        refine aops_lookup _ (bV false) (bV ((mget a1.n.types x35).getD false)) tMap89 tKey9 tZo4 (irel_con _) (wants_some (c := true) (b := true) 67 rfl rfl rfl) rfl .imm (.con rfl) ⟨_, rfl⟩ encM9_4_good (encM9_4_look a1.n.types x35) (getD_map (encM9_4_val) (mget a1.n.types x35) false) rfl ?_
        refine fo (rn 3 rfl ?_)
        refine spC h rfl (fun hb38 h => ?_) (fun hb38 h => ?_)
        ·refine rn 4 rfl ?_
         exact rt h rfl
        refine rn 6 rfl ?_
        refine cl h rfl rfl rfl (W139 _ _ _) rfl (fun y39 hx40 h => ?_)
        refine rn 7 rfl ?_
        refine spC h rfl (fun hb41 h => ?_) (fun hb41 h => ?_)
        ·refine rn 5 rfl ?_
         exact rt h rfl
        refine rn 2 rfl ?_
        exact jX () h (gr [0, 1] rfl (hB rfl rfl rfl (hB rfl rfl rfl .nil)) rfl)
       refine rn 15 rfl ?_
       refine cl h rfl rfl rfl (W139 _ _ _) rfl (fun y42 hx43 h => ?_)
       refine rn 7 rfl ?_
       refine spC h rfl (fun hb44 h => ?_) (fun hb44 h => ?_)
       ·refine rn 5 rfl ?_
        exact rt h rfl
       refine rn 2 rfl ?_
       exact jX () h (gr [0, 1] rfl (hB rfl rfl rfl (hB rfl rfl rfl .nil)) rfl)
      intro _ h
      refine rn 4 rfl ?_
      exact jX (w64 (n32 + 1)) (hk3 _ h) (gr [0, 1] rfl (hB rfl rfl rfl (hB rfl rfl rfl .nil)) rfl)
     replace h := RG.f h hb33
     unfold M138_L3 at h
     refine rn 1 rfl ?_
     exact jX () h (gr [0] rfl (hB rfl rfl rfl .nil) rfl)
    intro _ h
    refine rn 1 rfl ?_
    exact jX x10.Name h (gr [0] rfl (hB rfl rfl rfl .nil) rfl)
   intro s9 h
   refine rn 4 rfl ?_
   exact jX (s9, (w64 (n6 + 1))) (hk1 _ h) (gr [0] rfl (hB rfl rfl rfl .nil) rfl)
  replace h := RG.f h hb7
  unfold M138_L1 at h
  refine rn 1 rfl ?_
  exact jX () h (g0 rfl rfl)
 intro _ h
 refine rn 4 rfl ?_
 exact rt h rfl
theorem W73 (F : Nat) (a1 : Tprovenderref6_checker) (r : Int) (h : M73 F a1 = some r) : Pure Tryz.prog 73 [(V.agg (encTprovenderref6_checker a1))] (iV r) := by
 refine pin (fun r => (iV r)) r rfl Tryz.func73 rfl rfl rfl rfl rfl (fun w0 m0 hg => ?_)
 unfold M73 at h
 refine rn 11 rfl ?_
 refine ln rfl rfl ?_
 refine rn 2 rfl ?_
 refine spO 14 h rfl (fun hb2 h => ?_) (fun hb2 h => ?_)
 ·refine rn 19 rfl ?_
  exact rt h rfl
 refine rn 3 rfl ?_
 refine ln rfl rfl ?_
 refine rn 3 rfl ?_
 refine spO 21 h rfl (fun hb3 h => ?_) (fun hb3 h => ?_)
 ·refine rn 12 rfl ?_
  exact rt h rfl
 refine rn 3 rfl ?_
 refine ln rfl rfl ?_
 refine rn 3 rfl ?_
 refine spC h rfl (fun hb4 h => ?_) (fun hb4 h => ?_)
 ·refine rn 4 rfl ?_
  exact rt h rfl
 refine rn 5 rfl ?_
 refine cl h rfl rfl rfl (W136 _ _) rfl (fun y5 hx6 h => ?_)
 refine rn 7 rfl ?_
 refine spC h rfl (fun hb7 h => ?_) (fun hb7 h => ?_)
 ·refine rn 5 rfl ?_
  exact rt h rfl
 refine rn 5 rfl ?_
 refine cl h rfl rfl rfl (W137 _ _) rfl (fun y8 hx9 h => ?_)
 refine rn 7 rfl ?_
 refine spC h rfl (fun hb10 h => ?_) (fun hb10 h => ?_)
 ·refine rn 5 rfl ?_
  exact rt h rfl
 refine rn 5 rfl ?_
 refine cl h rfl rfl rfl (W138 _ _) rfl (fun y11 hx12 h => ?_)
 refine rn 7 rfl ?_
 refine spC h rfl (fun hb13 h => ?_) (fun hb13 h => ?_)
 ·refine rn 5 rfl ?_
  exact rt h rfl
 refine rn 7 rfl ?_
 refine ln rfl rfl ?_
 refine rn 2 rfl ?_
 refine jK h (fun _ : Unit => (⟨[], [], 0⟩ : St)) (fun k14 (_ : Unit) => k14 = some r) (fun k14 h => ?_) ?_
 ·refine rn 1 rfl ?_
  refine wl (A := a1.g.Entries) 45 rfl (fun hA29 => ?_)
  refine lC (fun (p : Int) => (⟨[(1, (V.ptr 0 8 0 0)), (45, (V.lst 1 (a1.g.Entries.map encS))), (46, (iV ((a1.g.Entries.length : Nat) : Int))), (47, (iV p))], [(0, (Ob.arr 141 8 [(encTprovenderref6_checker a1)]))], 1⟩ : St)) (fun n p => RG a1.g.Entries (fun tl nn => M73_L1 F a1 k14 tl nn = some r) n p) (fun p h => RG.zero h) (a1.g.Entries.length + 1) 0 (RG.start h) (gr [0] rfl (hB rfl rfl rfl .nil) rfl) (fun n n16 h => ?_)
  refine rn 5 rfl ?_
  refine spL rfl (fun hb17 => ?_) (fun hb17 => ?_)
  ·obtain ⟨x19, tl, hx20, h, hk1⟩ := RG.t hA29 h hb17
   unfold M73_L1 at h
   refine rn 2 rfl ?_
   refine jK h (fun _ : Unit => (⟨[(1, (V.ptr 0 8 0 0)), (45, (V.lst 1 (a1.g.Entries.map encS))), (46, (iV ((a1.g.Entries.length : Nat) : Int))), (47, (iV n16))], [(0, (Ob.arr 141 8 [(encTprovenderref6_checker a1)]))], 1⟩ : St)) (fun k18 (_ : Unit) => k18 = some r) (fun k18 h => ?_) ?_
   ·refine rn 4 rfl ?_
    refine ixh hx20 rfl rfl ?_
    refine rn 11 rfl ?_
    refine spO 55 h rfl (fun hb21 h => ?_) (fun hb21 h => ?_)
    ·refine rn 4 rfl ?_
     refine aops_lookup _ (bV false) (bV ((mget a1.n.funcs x19).getD false)) tMap89 tKey9 tZo4 (irel_con _) (wants_some (c := true) (b := true) 55 rfl rfl rfl) rfl .imm (.con rfl) ⟨_, rfl⟩ encM9_4_good (encM9_4_look a1.n.funcs x19) (getD_map (encM9_4_val) (mget a1.n.funcs x19) false) rfl ?_
     refine fo (rn 3 rfl ?_)
     refine spC h rfl (fun hb22 h => ?_) (fun hb22 h => ?_)
     ·refine rn 4 rfl ?_
      exact rt h rfl
     refine rn 7 rfl ?_
     refine cl h rfl rfl rfl (W139 _ _ _) rfl (fun y23 hx24 h => ?_)
     refine rn 7 rfl ?_
     refine spC h rfl (fun hb25 h => ?_) (fun hb25 h => ?_)
     ·refine rn 5 rfl ?_
      exact rt h rfl
     refine rn 2 rfl ?_
     exact jX () h (gr [0] rfl (hB rfl rfl rfl .nil) rfl)
    refine rn 16 rfl ?_
    refine cl h rfl rfl rfl (W139 _ _ _) rfl (fun y26 hx27 h => ?_)
    refine rn 7 rfl ?_
    refine spC h rfl (fun hb28 h => ?_) (fun hb28 h => ?_)
    ·refine rn 5 rfl ?_
     exact rt h rfl
    refine rn 2 rfl ?_
    exact jX () h (gr [0] rfl (hB rfl rfl rfl .nil) rfl)
   intro _ h
   refine rn 4 rfl ?_
   exact jX (w64 (n16 + 1)) (hk1 _ h) (gr [0] rfl (hB rfl rfl rfl .nil) rfl)
  replace h := RG.f h hb17
  unfold M73_L1 at h
  refine rn 1 rfl ?_
  exact jX () h (g0 rfl rfl)
 intro _ h
 refine rn 4 rfl ?_
 exact rt h rfl
theorem W140 (F : Nat) (a1 : (List (List UInt8))) (a2 : (List (List UInt8))) (r : Bool) (h : M140 F a1 a2 = some r) : Pure Tryz.prog 140 [(V.lst 1 (a1.map encS)), (V.lst 1 (a2.map encS))] (bV r) := by
 refine pin (fun r => (bV r)) r rfl Tryz.func140 rfl rfl rfl rfl rfl (fun w0 m0 hg => ?_)
 unfold M140 at h
 refine rn 8 rfl ?_
 refine ln rfl rfl ?_
 refine rn 1 rfl ?_
 refine ln rfl rfl ?_
 refine rn 2 rfl ?_
 refine spC h rfl (fun hb3 h => ?_) (fun hb3 h => ?_)
 ·refine rn 4 rfl ?_
  exact rt h rfl
 refine rn 5 rfl ?_
 refine ln rfl rfl ?_
 refine rn 2 rfl ?_
 refine jK h (fun _ : Unit => (⟨[], [], 0⟩ : St)) (fun k4 (_ : Unit) => k4 = some r) (fun k4 h => ?_) ?_
 ·refine rn 1 rfl ?_
  refine wl (A := a1) 0 rfl (fun hA13 => ?_)
  refine lC (fun (p : Int) => (⟨[(0, (V.lst 1 (a1.map encS))), (1, (V.lst 1 (a2.map encS))), (12, (iV ((a1.length : Nat) : Int))), (13, (iV p))], [], 0⟩ : St)) (fun n p => RG a1 (fun tl nn => M140_L1 F a2 k4 tl nn = some r) n p) (fun p h => RG.zero h) (a1.length + 1) 0 (RG.start h) (g0 rfl rfl) (fun n n6 h => ?_)
  refine rn 5 rfl ?_
  refine spL rfl (fun hb7 => ?_) (fun hb7 => ?_)
  ·obtain ⟨x8, tl, hx9, h, hk1⟩ := RG.t hA13 h hb7
   unfold M140_L1 at h
   obtain ⟨x10, hx11, h⟩ := bind_some h
   refine rn 9 rfl ?_
   refine dr mixed (vs 2 rfl (iD hx9 rfl rfl rfl (vs 3 rfl (iD hx11 rfl rfl rfl (vs 2 rfl .nil))))) (by kernel_rfl) ?_
   refine spC h rfl (fun hb12 h => ?_) (fun hb12 h => ?_)
   ·refine rn 4 rfl ?_
    exact rt h rfl
   refine rn 6 rfl ?_
   exact jX (w64 (n6 + 1)) (hk1 _ h) (g0 rfl rfl)
  replace h := RG.f h hb7
  unfold M140_L1 at h
  refine rn 1 rfl ?_
  exact jX () h (g0 rfl rfl)
 intro _ h
 refine rn 4 rfl ?_
 exact rt h rfl
theorem W74 (F : Nat) (a1 : (List TIface)) (a2 : (List TIface)) (r : ((List TIface) × Bool)) (h : M74 F a1 a2 = some r) : Pure Tryz.prog 74 [(V.lst 2 (a1.map encTIface)), (V.lst 2 (a2.map encTIface))] (V.tup [(V.lst 2 ((r.1).map encTIface)), (bV (r.2))]) := by
 refine pin (fun r => (V.tup [(V.lst 2 ((r.1).map encTIface)), (bV (r.2))])) r rfl Tryz.func74 rfl rfl rfl rfl rfl (fun w0 m0 hg => ?_)
 unfold M74 at h
 refine rn 10 rfl ?_
 refine jK h (fun (p : (List TIface)) => (⟨[(6, (V.own 0 p.length))], [(0, (Ob.arr 98 2 (p.map encTIface)))], 1⟩ : St)) (fun k3 p => k3 p = some r) (fun k3 h => ?_) ?_
 ·refine rn 1 rfl ?_
  refine lC (fun (p : (List TIface) × (List TIface) × (List TIface)) => (⟨[(0, (V.lst 2 ((p.1).map encTIface))), (1, (V.lst 2 ((p.2.1).map encTIface))), (6, (V.own 0 (p.2.2).length))], [(0, (Ob.arr 98 2 ((p.2.2).map encTIface)))], 1⟩ : St)) (fun n p => M74_L1 F k3 n p.1 p.2.1 p.2.2 = some r) (fun p h => by simp [M74_L1] at h) F (a1, a2, ([] : List TIface)) h (Ghost.trans (ghost_nilE 6 98 2 rfl) (ghost_ren 1 (fun i => ([0] : List Nat).getD i 0) _ _ (by decide) (EnvSub.get (.cons (Sub.imm (Imm.lst _ _)) (.cons (Sub.imm (Imm.lst _ _)) (.cons (Sub.ownE rfl rfl (by simp)) .nil)))) (HpSub.get (.cons rfl (ObSub.rows (rows_imm imms_encTIface)) .nil)) rfl)) (fun n p h => ?_)
  obtain ⟨l8, l9, l10⟩ := p
  unfold M74_L1 at h
  refine rn 4 rfl ?_
  refine ln rfl rfl ?_
  refine rn 2 rfl ?_
  refine spO 10 h rfl (fun hb11 h => ?_) (fun hb11 h => ?_)
  ·refine rn 8 rfl ?_
   refine jK h (fun (p : (List TIface) × (List TIface) × (List TIface)) => (⟨[(0, (V.lst 2 ((p.1).map encTIface))), (1, (V.lst 2 ((p.2.1).map encTIface))), (6, (V.own 0 (p.2.2).length)), (13, (V.con undef))], [(0, (Ob.arr 98 2 ((p.2.2).map encTIface)))], 1⟩ : St)) (fun k12 p => k12 p.1 p.2.1 p.2.2 = some r) (fun k12 h => ?_) ?_
   ·refine rn 2 rfl ?_
    refine bs h (fun hb16 h => ?_) (fun hb16 h => ?_)
    ·refine dr mixed (vs 1 rfl (nD rfl rfl rfl (vs 1 rfl (vb hb16 rfl (vs 16 rfl .nil))))) (by kernel_rfl) ?_
     obtain ⟨x17, hx18, h⟩ := bind_some h
     refine rn 1 rfl ?_
     refine ck h (fun hc19 h => ?_)
     refine ck h (fun hc20 h => ?_)
     refine awp_ghost ghost_res ?_
     refine fa ?_
     refine dr mixed (vs 2 rfl (iD hx18 rfl rfl rfl (vs 1 rfl (xD (OD.mk [(40, (V.agg (encTIface x17)))] [] [(41, (V.lst 2 (([x17] : List TIface).map encTIface)))] []) ⟨⟨rfl, trivial⟩, trivial⟩ (by exact fun S hn h hh => aops_buildSlice_imm [(0, (V.agg (encTIface x17)))] [(encTIface x17)] tEl22 tZ98 wants_none rfl rfl rfl rfl (evp_cons h.1 evp_nil) rfl rfl (by simp) (imms_rows (.cons (imms_encTIface _) .nil)) rfl (aops_nil ⟨rfl, rfl⟩)) rfl (xD (OD.mk [(37, (V.own 0 l10.length)), (41, (V.lst 2 (([x17] : List TIface).map encTIface)))] [(0, (Ob.arr 98 2 (l10.map encTIface))), (1, Ob.res)] [(42, (V.own 1 (l10 ++ ([x17] : List TIface)).length))] [(1, (Ob.arr 98 2 ((l10 ++ ([x17] : List TIface)).map encTIface))), (0, Ob.dead)]) ⟨⟨rfl, rfl, trivial⟩, ⟨rfl, rfl, trivial⟩⟩ (by exact fun S hn h hh => aops_append_at 1 rfl hn hh.2.1 (([x17] : List TIface).map encTIface) ((l10 ++ ([x17] : List TIface)).map encTIface) tEl22 tIsSl22 rfl rfl wants_none h.1 hh.1 (by simp) h.2.1 (.lst (rows_one one_encTIface)) (map_snoc encTIface l10 ([x17] : List TIface)) (List.length_map ..) hc19 rfl (aops_nil ⟨rfl, rfl⟩)) rfl (vs 1 rfl (xD (OD.mk [(43, (V.lst 2 (l8.map encTIface)))] [] [(44, (V.lst 2 ((l8.drop 1).map encTIface)))] []) ⟨⟨rfl, trivial⟩, trivial⟩ (by exact fun S hn h hh => aops_slice_lst (1) (l8.length) ((l8.drop 1).map encTIface) tSl22 wants_none h.1 ⟨_, rfl⟩ (List.length_map ..).symm hc20 (Nat.le_of_eq (List.length_map ..).symm) slL_hi rfl (aops_nil ⟨rfl, rfl⟩)) rfl (vs 2 rfl .nil)))))))) (by kernel_rfl) ?_
     refine rn 1 rfl ?_
     exact jX ((l8.drop 1), l9, (l10 ++ ([x17] : List TIface))) h (gr [1] rfl (hR rfl rfl .nil) rfl)
    obtain ⟨x21, hx22, h⟩ := bind_some h
    obtain ⟨x23, hx24, h⟩ := bind_some h
    refine dr mixed (vs 1 rfl (nD rfl rfl rfl (vs 1 rfl (vb hb16 rfl (vs 1 rfl (nD rfl rfl rfl (vs 1 rfl (vb hb11 rfl (vs 1 rfl (iD hx22 rfl rfl rfl (vs 3 rfl (iD hx24 rfl rfl rfl (vs 6 rfl .nil))))))))))))) (by kernel_rfl) ?_
    refine jK h (fun (p : (List TIface) × (List TIface) × (List TIface)) => (⟨[(0, (V.lst 2 ((p.1).map encTIface))), (1, (V.lst 2 ((p.2.1).map encTIface))), (6, (V.own 0 (p.2.2).length)), (13, (V.con undef)), (34, (bV (Op.bytesLess x21.Name x23.Name))), (35, (bV (Op.bytesLess x21.Name x23.Name)))], [(0, (Ob.arr 98 2 ((p.2.2).map encTIface)))], 1⟩ : St)) (fun k25 p => k25 p.1 p.2.1 p.2.2 = some r) (fun k25 h => ?_) ?_
    ·refine spC h rfl (fun hb29 h => ?_) (fun hb29 h => ?_)
     ·obtain ⟨x30, hx31, h⟩ := bind_some h
      refine ck h (fun hc32 h => ?_)
      refine ck h (fun hc33 h => ?_)
      refine awp_ghost ghost_res ?_
      refine fa ?_
      refine dr mixed (vs 2 rfl (iD hx31 rfl rfl rfl (vs 1 rfl (xD (OD.mk [(40, (V.agg (encTIface x30)))] [] [(41, (V.lst 2 (([x30] : List TIface).map encTIface)))] []) ⟨⟨rfl, trivial⟩, trivial⟩ (by exact fun S hn h hh => aops_buildSlice_imm [(0, (V.agg (encTIface x30)))] [(encTIface x30)] tEl22 tZ98 wants_none rfl rfl rfl rfl (evp_cons h.1 evp_nil) rfl rfl (by simp) (imms_rows (.cons (imms_encTIface _) .nil)) rfl (aops_nil ⟨rfl, rfl⟩)) rfl (xD (OD.mk [(37, (V.own 0 l10.length)), (41, (V.lst 2 (([x30] : List TIface).map encTIface)))] [(0, (Ob.arr 98 2 (l10.map encTIface))), (1, Ob.res)] [(42, (V.own 1 (l10 ++ ([x30] : List TIface)).length))] [(1, (Ob.arr 98 2 ((l10 ++ ([x30] : List TIface)).map encTIface))), (0, Ob.dead)]) ⟨⟨rfl, rfl, trivial⟩, ⟨rfl, rfl, trivial⟩⟩ (by exact fun S hn h hh => aops_append_at 1 rfl hn hh.2.1 (([x30] : List TIface).map encTIface) ((l10 ++ ([x30] : List TIface)).map encTIface) tEl22 tIsSl22 rfl rfl wants_none h.1 hh.1 (by simp) h.2.1 (.lst (rows_one one_encTIface)) (map_snoc encTIface l10 ([x30] : List TIface)) (List.length_map ..) hc32 rfl (aops_nil ⟨rfl, rfl⟩)) rfl (vs 1 rfl (xD (OD.mk [(43, (V.lst 2 (l8.map encTIface)))] [] [(44, (V.lst 2 ((l8.drop 1).map encTIface)))] []) ⟨⟨rfl, trivial⟩, trivial⟩ (by exact fun S hn h hh => aops_slice_lst (1) (l8.length) ((l8.drop 1).map encTIface) tSl22 wants_none h.1 ⟨_, rfl⟩ (List.length_map ..).symm hc33 (Nat.le_of_eq (List.length_map ..).symm) slL_hi rfl (aops_nil ⟨rfl, rfl⟩)) rfl (vs 2 rfl .nil)))))))) (by kernel_rfl) ?_
      exact jX ((l8.drop 1), l9, (l10 ++ ([x30] : List TIface))) h (gr [1] rfl (hR rfl rfl .nil) rfl)
     refine rn 1 rfl ?_
     refine bs h (fun hb34 h => ?_) (fun hb34 h => ?_)
     ·refine dr mixed (vs 1 rfl (nD rfl rfl rfl (vs 1 rfl (vb hb34 rfl (vs 11 rfl .nil))))) (by kernel_rfl) ?_
      obtain ⟨x35, hx36, h⟩ := bind_some h
      refine rn 1 rfl ?_
      refine ck h (fun hc37 h => ?_)
      refine ck h (fun hc38 h => ?_)
      refine awp_ghost ghost_res ?_
      refine fa ?_
      refine dr mixed (vs 2 rfl (iD hx36 rfl rfl rfl (vs 1 rfl (xD (OD.mk [(63, (V.agg (encTIface x35)))] [] [(64, (V.lst 2 (([x35] : List TIface).map encTIface)))] []) ⟨⟨rfl, trivial⟩, trivial⟩ (by exact fun S hn h hh => aops_buildSlice_imm [(0, (V.agg (encTIface x35)))] [(encTIface x35)] tEl22 tZ98 wants_none rfl rfl rfl rfl (evp_cons h.1 evp_nil) rfl rfl (by simp) (imms_rows (.cons (imms_encTIface _) .nil)) rfl (aops_nil ⟨rfl, rfl⟩)) rfl (xD (OD.mk [(60, (V.own 0 l10.length)), (64, (V.lst 2 (([x35] : List TIface).map encTIface)))] [(0, (Ob.arr 98 2 (l10.map encTIface))), (1, Ob.res)] [(65, (V.own 1 (l10 ++ ([x35] : List TIface)).length))] [(1, (Ob.arr 98 2 ((l10 ++ ([x35] : List TIface)).map encTIface))), (0, Ob.dead)]) ⟨⟨rfl, rfl, trivial⟩, ⟨rfl, rfl, trivial⟩⟩ (by exact fun S hn h hh => aops_append_at 1 rfl hn hh.2.1 (([x35] : List TIface).map encTIface) ((l10 ++ ([x35] : List TIface)).map encTIface) tEl22 tIsSl22 rfl rfl wants_none h.1 hh.1 (by simp) h.2.1 (.lst (rows_one one_encTIface)) (map_snoc encTIface l10 ([x35] : List TIface)) (List.length_map ..) hc37 rfl (aops_nil ⟨rfl, rfl⟩)) rfl (vs 1 rfl (xD (OD.mk [(66, (V.lst 2 (l9.map encTIface)))] [] [(67, (V.lst 2 ((l9.drop 1).map encTIface)))] []) ⟨⟨rfl, trivial⟩, trivial⟩ (by exact fun S hn h hh => aops_slice_lst (1) (l9.length) ((l9.drop 1).map encTIface) tSl22 wants_none h.1 ⟨_, rfl⟩ (List.length_map ..).symm hc38 (Nat.le_of_eq (List.length_map ..).symm) slL_hi rfl (aops_nil ⟨rfl, rfl⟩)) rfl (vs 2 rfl .nil)))))))) (by kernel_rfl) ?_
      exact jX (l8, (l9.drop 1), (l10 ++ ([x35] : List TIface))) h (gr [1] rfl (hR rfl rfl .nil) rfl)
     obtain ⟨x39, hx40, h⟩ := bind_some h
     obtain ⟨x41, hx42, h⟩ := bind_some h
     refine dr mixed (vs 1 rfl (nD rfl rfl rfl (vs 1 rfl (vb hb34 rfl (vs 1 rfl (iD hx40 rfl rfl rfl (vs 3 rfl (iD hx42 rfl rfl rfl (vs 5 rfl .nil))))))))) (by kernel_rfl) ?_
     refine spC h rfl (fun hb43 h => ?_) (fun hb43 h => ?_)
     ·obtain ⟨x44, hx45, h⟩ := bind_some h
      refine ck h (fun hc46 h => ?_)
      refine ck h (fun hc47 h => ?_)
      refine awp_ghost ghost_res ?_
      refine fa ?_
      refine dr mixed (vs 2 rfl (iD hx45 rfl rfl rfl (vs 1 rfl (xD (OD.mk [(63, (V.agg (encTIface x44)))] [] [(64, (V.lst 2 (([x44] : List TIface).map encTIface)))] []) ⟨⟨rfl, trivial⟩, trivial⟩ (by exact fun S hn h hh => aops_buildSlice_imm [(0, (V.agg (encTIface x44)))] [(encTIface x44)] tEl22 tZ98 wants_none rfl rfl rfl rfl (evp_cons h.1 evp_nil) rfl rfl (by simp) (imms_rows (.cons (imms_encTIface _) .nil)) rfl (aops_nil ⟨rfl, rfl⟩)) rfl (xD (OD.mk [(60, (V.own 0 l10.length)), (64, (V.lst 2 (([x44] : List TIface).map encTIface)))] [(0, (Ob.arr 98 2 (l10.map encTIface))), (1, Ob.res)] [(65, (V.own 1 (l10 ++ ([x44] : List TIface)).length))] [(1, (Ob.arr 98 2 ((l10 ++ ([x44] : List TIface)).map encTIface))), (0, Ob.dead)]) ⟨⟨rfl, rfl, trivial⟩, ⟨rfl, rfl, trivial⟩⟩ (by exact fun S hn h hh => aops_append_at 1 rfl hn hh.2.1 (([x44] : List TIface).map encTIface) ((l10 ++ ([x44] : List TIface)).map encTIface) tEl22 tIsSl22 rfl rfl wants_none h.1 hh.1 (by simp) h.2.1 (.lst (rows_one one_encTIface)) (map_snoc encTIface l10 ([x44] : List TIface)) (List.length_map ..) hc46 rfl (aops_nil ⟨rfl, rfl⟩)) rfl (vs 1 rfl (xD (OD.mk [(66, (V.lst 2 (l9.map encTIface)))] [] [(67, (V.lst 2 ((l9.drop 1).map encTIface)))] []) ⟨⟨rfl, trivial⟩, trivial⟩ (by exact fun S hn h hh => aops_slice_lst (1) (l9.length) ((l9.drop 1).map encTIface) tSl22 wants_none h.1 ⟨_, rfl⟩ (List.length_map ..).symm hc47 (Nat.le_of_eq (List.length_map ..).symm) slL_hi rfl (aops_nil ⟨rfl, rfl⟩)) rfl (vs 2 rfl .nil)))))))) (by kernel_rfl) ?_
      exact jX (l8, (l9.drop 1), (l10 ++ ([x44] : List TIface))) h (gr [1] rfl (hR rfl rfl .nil) rfl)
     obtain ⟨x48, hx49, h⟩ := bind_some h
     obtain ⟨x50, hx51, h⟩ := bind_some h
     obtain ⟨y52, hx53, h⟩ := bind_some h
     refine rn 1 rfl ?_
     refine dr mixed (vs 1 rfl (iD hx49 rfl rfl rfl (vs 3 rfl (iD hx51 rfl rfl rfl (vs 2 rfl (cD rfl rfl rfl rfl (W140 _ _ _ _ hx53) rfl (vs 2 rfl .nil))))))) (by kernel_rfl) ?_
     refine spC h rfl (fun hb54 h => ?_) (fun hb54 h => ?_)
     ·refine rn 5 rfl ?_
      exact rt h rfl
     refine rn 2 rfl ?_
     refine ck h (fun hc55 h => ?_)
     refine aops_slice_lst (1) (l9.length) ((l9.drop 1).map encTIface) tSl22 wants_none rfl ⟨_, rfl⟩ (List.length_map ..).symm hc55 (Nat.le_of_eq (List.length_map ..).symm) slL_hi rfl ?_
     refine fo (rn 2 rfl ?_)
     exact jX (l8, (l9.drop 1), l10) h (gr [0] rfl (hR rfl rfl .nil) rfl)
    rintro ⟨l26, l27, l28⟩ h
    refine rn 1 rfl ?_
    exact jX (l26, l27, l28) h (gr [0] rfl (hR rfl rfl .nil) rfl)
   rintro ⟨l13, l14, l15⟩ h
   refine rn 1 rfl ?_
   exact jX (l13, l14, l15) h (gr [0] rfl (hR rfl rfl .nil) rfl)
  refine rn 1 rfl ?_
  refine ln rfl rfl ?_
  refine rn 3 rfl ?_
  refine spC h rfl (fun hb56 h => ?_) (fun hb56 h => ?_)
  ·refine rn 2 rfl ?_
   refine jK h (fun (p : (List TIface) × (List TIface) × (List TIface)) => (⟨[(0, (V.lst 2 ((p.1).map encTIface))), (1, (V.lst 2 ((p.2.1).map encTIface))), (6, (V.own 0 (p.2.2).length)), (13, (bV (decide (((l9.length : Nat) : Int) > 0)))), (34, (V.con undef))], [(0, (Ob.arr 98 2 ((p.2.2).map encTIface)))], 1⟩ : St)) (fun k57 p => k57 p.1 p.2.1 p.2.2 = some r) (fun k57 h => ?_) ?_
   ·refine rn 2 rfl ?_
    refine bs h (fun hb61 h => ?_) (fun hb61 h => ?_)
    ·refine dr mixed (vs 1 rfl (nD rfl rfl rfl (vs 1 rfl (vb hb61 rfl (vs 16 rfl .nil))))) (by kernel_rfl) ?_
     obtain ⟨x62, hx63, h⟩ := bind_some h
     refine rn 1 rfl ?_
     refine ck h (fun hc64 h => ?_)
     refine ck h (fun hc65 h => ?_)
     refine awp_ghost ghost_res ?_
     refine fa ?_
     refine dr mixed (vs 2 rfl (iD hx63 rfl rfl rfl (vs 1 rfl (xD (OD.mk [(40, (V.agg (encTIface x62)))] [] [(41, (V.lst 2 (([x62] : List TIface).map encTIface)))] []) ⟨⟨rfl, trivial⟩, trivial⟩ (by exact fun S hn h hh => aops_buildSlice_imm [(0, (V.agg (encTIface x62)))] [(encTIface x62)] tEl22 tZ98 wants_none rfl rfl rfl rfl (evp_cons h.1 evp_nil) rfl rfl (by simp) (imms_rows (.cons (imms_encTIface _) .nil)) rfl (aops_nil ⟨rfl, rfl⟩)) rfl (xD (OD.mk [(37, (V.own 0 l10.length)), (41, (V.lst 2 (([x62] : List TIface).map encTIface)))] [(0, (Ob.arr 98 2 (l10.map encTIface))), (1, Ob.res)] [(42, (V.own 1 (l10 ++ ([x62] : List TIface)).length))] [(1, (Ob.arr 98 2 ((l10 ++ ([x62] : List TIface)).map encTIface))), (0, Ob.dead)]) ⟨⟨rfl, rfl, trivial⟩, ⟨rfl, rfl, trivial⟩⟩ (by exact fun S hn h hh => aops_append_at 1 rfl hn hh.2.1 (([x62] : List TIface).map encTIface) ((l10 ++ ([x62] : List TIface)).map encTIface) tEl22 tIsSl22 rfl rfl wants_none h.1 hh.1 (by simp) h.2.1 (.lst (rows_one one_encTIface)) (map_snoc encTIface l10 ([x62] : List TIface)) (List.length_map ..) hc64 rfl (aops_nil ⟨rfl, rfl⟩)) rfl (vs 1 rfl (xD (OD.mk [(43, (V.lst 2 (l8.map encTIface)))] [] [(44, (V.lst 2 ((l8.drop 1).map encTIface)))] []) ⟨⟨rfl, trivial⟩, trivial⟩ (by exact fun S hn h hh => aops_slice_lst (1) (l8.length) ((l8.drop 1).map encTIface) tSl22 wants_none h.1 ⟨_, rfl⟩ (List.length_map ..).symm hc65 (Nat.le_of_eq (List.length_map ..).symm) slL_hi rfl (aops_nil ⟨rfl, rfl⟩)) rfl (vs 2 rfl .nil)))))))) (by kernel_rfl) ?_
     refine rn 1 rfl ?_
     exact jX ((l8.drop 1), l9, (l10 ++ ([x62] : List TIface))) h (gr [1] rfl (hR rfl rfl .nil) rfl)
    refine dr mixed (vs 1 rfl (nD rfl rfl rfl (vs 1 rfl (vb hb61 rfl (vs 1 rfl (nD rfl rfl rfl (vs 1 rfl (vb hb11 rfl (vs 12 rfl .nil))))))))) (by kernel_rfl) ?_
    refine rn 2 rfl ?_
    refine bs h (fun hb66 h => ?_) (fun hb66 h => ?_)
    ·refine dr mixed (vs 1 rfl (nD rfl rfl rfl (vs 1 rfl (vb hb66 rfl (vs 11 rfl .nil))))) (by kernel_rfl) ?_
     obtain ⟨x67, hx68, h⟩ := bind_some h
     refine rn 1 rfl ?_
     refine ck h (fun hc69 h => ?_)
     refine ck h (fun hc70 h => ?_)
     refine awp_ghost ghost_res ?_
     refine fa ?_
     refine dr mixed (vs 2 rfl (iD hx68 rfl rfl rfl (vs 1 rfl (xD (OD.mk [(63, (V.agg (encTIface x67)))] [] [(64, (V.lst 2 (([x67] : List TIface).map encTIface)))] []) ⟨⟨rfl, trivial⟩, trivial⟩ (by exact fun S hn h hh => aops_buildSlice_imm [(0, (V.agg (encTIface x67)))] [(encTIface x67)] tEl22 tZ98 wants_none rfl rfl rfl rfl (evp_cons h.1 evp_nil) rfl rfl (by simp) (imms_rows (.cons (imms_encTIface _) .nil)) rfl (aops_nil ⟨rfl, rfl⟩)) rfl (xD (OD.mk [(60, (V.own 0 l10.length)), (64, (V.lst 2 (([x67] : List TIface).map encTIface)))] [(0, (Ob.arr 98 2 (l10.map encTIface))), (1, Ob.res)] [(65, (V.own 1 (l10 ++ ([x67] : List TIface)).length))] [(1, (Ob.arr 98 2 ((l10 ++ ([x67] : List TIface)).map encTIface))), (0, Ob.dead)]) ⟨⟨rfl, rfl, trivial⟩, ⟨rfl, rfl, trivial⟩⟩ (by exact fun S hn h hh => aops_append_at 1 rfl hn hh.2.1 (([x67] : List TIface).map encTIface) ((l10 ++ ([x67] : List TIface)).map encTIface) tEl22 tIsSl22 rfl rfl wants_none h.1 hh.1 (by simp) h.2.1 (.lst (rows_one one_encTIface)) (map_snoc encTIface l10 ([x67] : List TIface)) (List.length_map ..) hc69 rfl (aops_nil ⟨rfl, rfl⟩)) rfl (vs 1 rfl (xD (OD.mk [(66, (V.lst 2 (l9.map encTIface)))] [] [(67, (V.lst 2 ((l9.drop 1).map encTIface)))] []) ⟨⟨rfl, trivial⟩, trivial⟩ (by exact fun S hn h hh => aops_slice_lst (1) (l9.length) ((l9.drop 1).map encTIface) tSl22 wants_none h.1 ⟨_, rfl⟩ (List.length_map ..).symm hc70 (Nat.le_of_eq (List.length_map ..).symm) slL_hi rfl (aops_nil ⟨rfl, rfl⟩)) rfl (vs 2 rfl .nil)))))))) (by kernel_rfl) ?_
     refine rn 1 rfl ?_
     exact jX (l8, (l9.drop 1), (l10 ++ ([x67] : List TIface))) h (gr [1] rfl (hR rfl rfl .nil) rfl)
    obtain ⟨x71, hx72, h⟩ := bind_some h
    obtain ⟨x73, hx74, h⟩ := bind_some h
    refine dr mixed (vs 1 rfl (nD rfl rfl rfl (vs 1 rfl (vb hb66 rfl (vs 1 rfl (iD hx72 rfl rfl rfl (vs 3 rfl (iD hx74 rfl rfl rfl (vs 5 rfl .nil))))))))) (by kernel_rfl) ?_
    refine jK h (fun (p : (List TIface)) => (⟨[(0, (V.lst 2 (l8.map encTIface))), (1, (V.lst 2 ((l9.drop 1).map encTIface))), (6, (V.own 0 p.length)), (13, (bV (decide (((l9.length : Nat) : Int) > 0)))), (34, (V.con undef)), (35, (bV false)), (58, (bV (!(Op.bytesLess x71.Name x73.Name || x71.Name == x73.Name))))], [(0, (Ob.arr 98 2 (p.map encTIface)))], 1⟩ : St)) (fun k75 p => k75 p = some r) (fun k75 h => ?_) ?_
    ·refine spC h rfl (fun hb77 h => ?_) (fun hb77 h => ?_)
     ·obtain ⟨x78, hx79, h⟩ := bind_some h
      refine ck h (fun hc80 h => ?_)
      refine ck h (fun hc81 h => ?_)
      refine awp_ghost ghost_res ?_
      refine fa ?_
      refine dr mixed (vs 2 rfl (iD hx79 rfl rfl rfl (vs 1 rfl (xD (OD.mk [(63, (V.agg (encTIface x78)))] [] [(64, (V.lst 2 (([x78] : List TIface).map encTIface)))] []) ⟨⟨rfl, trivial⟩, trivial⟩ (by exact fun S hn h hh => aops_buildSlice_imm [(0, (V.agg (encTIface x78)))] [(encTIface x78)] tEl22 tZ98 wants_none rfl rfl rfl rfl (evp_cons h.1 evp_nil) rfl rfl (by simp) (imms_rows (.cons (imms_encTIface _) .nil)) rfl (aops_nil ⟨rfl, rfl⟩)) rfl (xD (OD.mk [(60, (V.own 0 l10.length)), (64, (V.lst 2 (([x78] : List TIface).map encTIface)))] [(0, (Ob.arr 98 2 (l10.map encTIface))), (1, Ob.res)] [(65, (V.own 1 (l10 ++ ([x78] : List TIface)).length))] [(1, (Ob.arr 98 2 ((l10 ++ ([x78] : List TIface)).map encTIface))), (0, Ob.dead)]) ⟨⟨rfl, rfl, trivial⟩, ⟨rfl, rfl, trivial⟩⟩ (by exact fun S hn h hh => aops_append_at 1 rfl hn hh.2.1 (([x78] : List TIface).map encTIface) ((l10 ++ ([x78] : List TIface)).map encTIface) tEl22 tIsSl22 rfl rfl wants_none h.1 hh.1 (by simp) h.2.1 (.lst (rows_one one_encTIface)) (map_snoc encTIface l10 ([x78] : List TIface)) (List.length_map ..) hc80 rfl (aops_nil ⟨rfl, rfl⟩)) rfl (vs 1 rfl (xD (OD.mk [(66, (V.lst 2 (l9.map encTIface)))] [] [(67, (V.lst 2 ((l9.drop 1).map encTIface)))] []) ⟨⟨rfl, trivial⟩, trivial⟩ (by exact fun S hn h hh => aops_slice_lst (1) (l9.length) ((l9.drop 1).map encTIface) tSl22 wants_none h.1 ⟨_, rfl⟩ (List.length_map ..).symm hc81 (Nat.le_of_eq (List.length_map ..).symm) slL_hi rfl (aops_nil ⟨rfl, rfl⟩)) rfl (vs 2 rfl .nil)))))))) (by kernel_rfl) ?_
      exact jX (l10 ++ ([x78] : List TIface)) h (gr [1] rfl (hR rfl rfl .nil) rfl)
     obtain ⟨x82, hx83, h⟩ := bind_some h
     obtain ⟨x84, hx85, h⟩ := bind_some h
     obtain ⟨y86, hx87, h⟩ := bind_some h
     refine rn 1 rfl ?_
     refine dr mixed (vs 1 rfl (iD hx83 rfl rfl rfl (vs 3 rfl (iD hx85 rfl rfl rfl (vs 2 rfl (cD rfl rfl rfl rfl (W140 _ _ _ _ hx87) rfl (vs 2 rfl .nil))))))) (by kernel_rfl) ?_
     refine spC h rfl (fun hb88 h => ?_) (fun hb88 h => ?_)
     ·refine rn 5 rfl ?_
      exact rt h rfl
     refine rn 2 rfl ?_
     refine ck h (fun hc89 h => ?_)
     refine aops_slice_lst (1) (l9.length) ((l9.drop 1).map encTIface) tSl22 wants_none rfl ⟨_, rfl⟩ (List.length_map ..).symm hc89 (Nat.le_of_eq (List.length_map ..).symm) slL_hi rfl ?_
     refine fo (rn 2 rfl ?_)
     exact jX l10 h (gr [0] rfl (hR rfl rfl .nil) rfl)
    intro l76 h
    refine rn 1 rfl ?_
    exact jX (l8, (l9.drop 1), l76) h (gr [0] rfl (hR rfl rfl .nil) rfl)
   rintro ⟨l58, l59, l60⟩ h
   refine rn 1 rfl ?_
   exact jX (l58, l59, l60) h (gr [0] rfl (hR rfl rfl .nil) rfl)
  refine rn 1 rfl ?_
  exact jX l10 h (gr [0] rfl (hR rfl rfl .nil) rfl)
 intro l4 h
 refine rn 6 rfl ?_
 refine awp_ghost (ghost_frzEs 0 [4, 6, 79] rfl (rows_imm imms_encTIface) (List.forall_mem_cons.2 ⟨rfl, (List.forall_mem_cons.2 ⟨rfl, (List.forall_mem_cons.2 ⟨rfl, (fun _ hx => nomatch hx)⟩)⟩)⟩) (List.length_map ..).symm) ?_
 refine fa ?_
 exact rt h rfl
theorem W141 (F : Nat) (a1 : (List TMethod)) (a2 : (List TMethod)) (r : Bool) (h : M141 F a1 a2 = some r) : Pure Tryz.prog 141 [(V.lst 2 (a1.map encTMethod)), (V.lst 2 (a2.map encTMethod))] (bV r) := by
 refine pin (fun r => (bV r)) r rfl Tryz.func141 rfl rfl rfl rfl rfl (fun w0 m0 hg => ?_)
 unfold M141 at h
 refine rn 8 rfl ?_
 refine ln rfl rfl ?_
 refine rn 1 rfl ?_
 refine ln rfl rfl ?_
 refine rn 2 rfl ?_
 refine spC h rfl (fun hb3 h => ?_) (fun hb3 h => ?_)
 ·refine rn 4 rfl ?_
  exact rt h rfl
 refine rn 5 rfl ?_
 refine ln rfl rfl ?_
 refine rn 2 rfl ?_
 refine jK h (fun _ : Unit => (⟨[], [], 0⟩ : St)) (fun k4 (_ : Unit) => k4 = some r) (fun k4 h => ?_) ?_
 ·refine rn 1 rfl ?_
  refine wl (A := a1) 0 rfl (fun hA13 => ?_)
  refine lC (fun (p : Int) => (⟨[(0, (V.lst 2 (a1.map encTMethod))), (1, (V.lst 2 (a2.map encTMethod))), (12, (iV ((a1.length : Nat) : Int))), (13, (iV p))], [], 0⟩ : St)) (fun n p => RG a1 (fun tl nn => M141_L1 F a2 k4 tl nn = some r) n p) (fun p h => RG.zero h) (a1.length + 1) 0 (RG.start h) (g0 rfl rfl) (fun n n6 h => ?_)
  refine rn 5 rfl ?_
  refine spL rfl (fun hb7 => ?_) (fun hb7 => ?_)
  ·obtain ⟨x8, tl, hx9, h, hk1⟩ := RG.t hA13 h hb7
   unfold M141_L1 at h
   obtain ⟨x10, hx11, h⟩ := bind_some h
   refine rn 9 rfl ?_
   refine dr mixed (vs 2 rfl (iD hx9 rfl rfl rfl (vs 3 rfl (iD hx11 rfl rfl rfl (vs 1 rfl (xD (OD.mk [(19, (V.agg (encTMethod x8))), (23, (V.agg (encTMethod x10)))] [] [(24, (bV (!(decide (x8 = x10)))))] []) ⟨⟨rfl, rfl, trivial⟩, trivial⟩ (by exact fun S hn h hh => aops_eqS true (xs := cv116 x8) (ys := cv116 x10) (b := (decide (x8 = x10))) eqk116 ⟨_, rfl⟩ ⟨_, rfl⟩ (eq_b cv116 _ _ (inj_cv116 _ _)) tEqG116 wants_none h.1 h.2.1 rfl (aops_nil ⟨rfl, rfl⟩)) rfl .nil)))))) (by kernel_rfl) ?_
   refine spC h rfl (fun hb12 h => ?_) (fun hb12 h => ?_)
   ·refine rn 4 rfl ?_
    exact rt h rfl
   refine rn 6 rfl ?_
   exact jX (w64 (n6 + 1)) (hk1 _ h) (g0 rfl rfl)
  replace h := RG.f h hb7
  unfold M141_L1 at h
  refine rn 1 rfl ?_
  exact jX () h (g0 rfl rfl)
 intro _ h
 refine rn 4 rfl ?_
 exact rt h rfl
theorem W75 (F : Nat) (a1 : (List TType)) (a2 : (List TType)) (r : ((List TType) × Bool)) (h : M75 F a1 a2 = some r) : Pure Tryz.prog 75 [(V.lst 2 (a1.map encTType)), (V.lst 2 (a2.map encTType))] (V.tup [(V.lst 2 ((r.1).map encTType)), (bV (r.2))]) := by
 refine pin (fun r => (V.tup [(V.lst 2 ((r.1).map encTType)), (bV (r.2))])) r rfl Tryz.func75 rfl rfl rfl rfl rfl (fun w0 m0 hg => ?_)
 unfold M75 at h
 refine rn 10 rfl ?_
 refine jK h (fun (p : (List TType)) => (⟨[(6, (V.own 0 p.length))], [(0, (Ob.arr 104 2 (p.map encTType)))], 1⟩ : St)) (fun k3 p => k3 p = some r) (fun k3 h => ?_) ?_
 ·refine rn 1 rfl ?_
  refine lC (fun (p : (List TType) × (List TType) × (List TType)) => (⟨[(0, (V.lst 2 ((p.1).map encTType))), (1, (V.lst 2 ((p.2.1).map encTType))), (6, (V.own 0 (p.2.2).length))], [(0, (Ob.arr 104 2 ((p.2.2).map encTType)))], 1⟩ : St)) (fun n p => M75_L1 F k3 n p.1 p.2.1 p.2.2 = some r) (fun p h => by simp [M75_L1] at h) F (a1, a2, ([] : List TType)) h (Ghost.trans (ghost_nilE 6 104 2 rfl) (ghost_ren 1 (fun i => ([0] : List Nat).getD i 0) _ _ (by decide) (EnvSub.get (.cons (Sub.imm (Imm.lst _ _)) (.cons (Sub.imm (Imm.lst _ _)) (.cons (Sub.ownE rfl rfl (by simp)) .nil)))) (HpSub.get (.cons rfl (ObSub.rows (rows_imm imms_encTType)) .nil)) rfl)) (fun n p h => ?_)
  obtain ⟨l8, l9, l10⟩ := p
  unfold M75_L1 at h
  refine rn 4 rfl ?_
  refine ln rfl rfl ?_
  refine rn 2 rfl ?_
  refine spO 10 h rfl (fun hb11 h => ?_) (fun hb11 h => ?_)
  ·refine rn 8 rfl ?_
   refine jK h (fun (p : (List TType) × (List TType) × (List TType)) => (⟨[(0, (V.lst 2 ((p.1).map encTType))), (1, (V.lst 2 ((p.2.1).map encTType))), (6, (V.own 0 (p.2.2).length)), (13, (V.con undef))], [(0, (Ob.arr 104 2 ((p.2.2).map encTType)))], 1⟩ : St)) (fun k12 p => k12 p.1 p.2.1 p.2.2 = some r) (fun k12 h => ?_) ?_
   ·refine rn 2 rfl ?_
    refine bs h (fun hb16 h => ?_) (fun hb16 h => ?_)
    ·refine dr mixed (vs 1 rfl (nD rfl rfl rfl (vs 1 rfl (vb hb16 rfl (vs 16 rfl .nil))))) (by kernel_rfl) ?_
     obtain ⟨x17, hx18, h⟩ := bind_some h
     refine rn 1 rfl ?_
     refine ck h (fun hc19 h => ?_)
     refine ck h (fun hc20 h => ?_)
     refine awp_ghost ghost_res ?_
     refine fa ?_
     refine dr mixed (vs 2 rfl (iD hx18 rfl rfl rfl (vs 1 rfl (xD (OD.mk [(40, (V.agg (encTType x17)))] [] [(41, (V.lst 2 (([x17] : List TType).map encTType)))] []) ⟨⟨rfl, trivial⟩, trivial⟩ (by exact fun S hn h hh => aops_buildSlice_imm [(0, (V.agg (encTType x17)))] [(encTType x17)] tEl23 tZ104 wants_none rfl rfl rfl rfl (evp_cons h.1 evp_nil) rfl rfl (by simp) (imms_rows (.cons (imms_encTType _) .nil)) rfl (aops_nil ⟨rfl, rfl⟩)) rfl (xD (OD.mk [(37, (V.own 0 l10.length)), (41, (V.lst 2 (([x17] : List TType).map encTType)))] [(0, (Ob.arr 104 2 (l10.map encTType))), (1, Ob.res)] [(42, (V.own 1 (l10 ++ ([x17] : List TType)).length))] [(1, (Ob.arr 104 2 ((l10 ++ ([x17] : List TType)).map encTType))), (0, Ob.dead)]) ⟨⟨rfl, rfl, trivial⟩, ⟨rfl, rfl, trivial⟩⟩ (by exact fun S hn h hh => aops_append_at 1 rfl hn hh.2.1 (([x17] : List TType).map encTType) ((l10 ++ ([x17] : List TType)).map encTType) tEl23 tIsSl23 rfl rfl wants_none h.1 hh.1 (by simp) h.2.1 (.lst (rows_one one_encTType)) (map_snoc encTType l10 ([x17] : List TType)) (List.length_map ..) hc19 rfl (aops_nil ⟨rfl, rfl⟩)) rfl (vs 1 rfl (xD (OD.mk [(43, (V.lst 2 (l8.map encTType)))] [] [(44, (V.lst 2 ((l8.drop 1).map encTType)))] []) ⟨⟨rfl, trivial⟩, trivial⟩ (by exact fun S hn h hh => aops_slice_lst (1) (l8.length) ((l8.drop 1).map encTType) tSl23 wants_none h.1 ⟨_, rfl⟩ (List.length_map ..).symm hc20 (Nat.le_of_eq (List.length_map ..).symm) slL_hi rfl (aops_nil ⟨rfl, rfl⟩)) rfl (vs 2 rfl .nil)))))))) (by kernel_rfl) ?_
     refine rn 1 rfl ?_
     exact jX ((l8.drop 1), l9, (l10 ++ ([x17] : List TType))) h (gr [1] rfl (hR rfl rfl .nil) rfl)
    obtain ⟨x21, hx22, h⟩ := bind_some h
    obtain ⟨x23, hx24, h⟩ := bind_some h
    refine dr mixed (vs 1 rfl (nD rfl rfl rfl (vs 1 rfl (vb hb16 rfl (vs 1 rfl (nD rfl rfl rfl (vs 1 rfl (vb hb11 rfl (vs 1 rfl (iD hx22 rfl rfl rfl (vs 3 rfl (iD hx24 rfl rfl rfl (vs 6 rfl .nil))))))))))))) (by kernel_rfl) ?_
    refine jK h (fun (p : (List TType) × (List TType) × (List TType)) => (⟨[(0, (V.lst 2 ((p.1).map encTType))), (1, (V.lst 2 ((p.2.1).map encTType))), (6, (V.own 0 (p.2.2).length)), (13, (V.con undef)), (34, (bV (Op.bytesLess x21.Name x23.Name))), (35, (bV (Op.bytesLess x21.Name x23.Name)))], [(0, (Ob.arr 104 2 ((p.2.2).map encTType)))], 1⟩ : St)) (fun k25 p => k25 p.1 p.2.1 p.2.2 = some r) (fun k25 h => ?_) ?_
    ·refine spC h rfl (fun hb29 h => ?_) (fun hb29 h => ?_)
     ·obtain ⟨x30, hx31, h⟩ := bind_some h
      refine ck h (fun hc32 h => ?_)
      refine ck h (fun hc33 h => ?_)
      refine awp_ghost ghost_res ?_
      refine fa ?_
      refine dr mixed (vs 2 rfl (iD hx31 rfl rfl rfl (vs 1 rfl (xD (OD.mk [(40, (V.agg (encTType x30)))] [] [(41, (V.lst 2 (([x30] : List TType).map encTType)))] []) ⟨⟨rfl, trivial⟩, trivial⟩ (by exact fun S hn h hh => aops_buildSlice_imm [(0, (V.agg (encTType x30)))] [(encTType x30)] tEl23 tZ104 wants_none rfl rfl rfl rfl (evp_cons h.1 evp_nil) rfl rfl (by simp) (imms_rows (.cons (imms_encTType _) .nil)) rfl (aops_nil ⟨rfl, rfl⟩)) rfl (xD (OD.mk [(37, (V.own 0 l10.length)), (41, (V.lst 2 (([x30] : List TType).map encTType)))] [(0, (Ob.arr 104 2 (l10.map encTType))), (1, Ob.res)] [(42, (V.own 1 (l10 ++ ([x30] : List TType)).length))] [(1, (Ob.arr 104 2 ((l10 ++ ([x30] : List TType)).map encTType))), (0, Ob.dead)]) ⟨⟨rfl, rfl, trivial⟩, ⟨rfl, rfl, trivial⟩⟩ (by exact fun S hn h hh => aops_append_at 1 rfl hn hh.2.1 (([x30] : List TType).map encTType) ((l10 ++ ([x30] : List TType)).map encTType) tEl23 tIsSl23 rfl rfl wants_none h.1 hh.1 (by simp) h.2.1 (.lst (rows_one one_encTType)) (map_snoc encTType l10 ([x30] : List TType)) (List.length_map ..) hc32 rfl (aops_nil ⟨rfl, rfl⟩)) rfl (vs 1 rfl (xD (OD.mk [(43, (V.lst 2 (l8.map encTType)))] [] [(44, (V.lst 2 ((l8.drop 1).map encTType)))] []) ⟨⟨rfl, trivial⟩, trivial⟩ (by exact fun S hn h hh => aops_slice_lst (1) (l8.length) ((l8.drop 1).map encTType) tSl23 wants_none h.1 ⟨_, rfl⟩ (List.length_map ..).symm hc33 (Nat.le_of_eq (List.length_map ..).symm) slL_hi rfl (aops_nil ⟨rfl, rfl⟩)) rfl (vs 2 rfl .nil)))))))) (by kernel_rfl) ?_
      exact jX ((l8.drop 1), l9, (l10 ++ ([x30] : List TType))) h (gr [1] rfl (hR rfl rfl .nil) rfl)
     refine rn 1 rfl ?_
     refine bs h (fun hb34 h => ?_) (fun hb34 h => ?_)
     ·refine dr mixed (vs 1 rfl (nD rfl rfl rfl (vs 1 rfl (vb hb34 rfl (vs 11 rfl .nil))))) (by kernel_rfl) ?_
      obtain ⟨x35, hx36, h⟩ := bind_some h
      refine rn 1 rfl ?_
      refine ck h (fun hc37 h => ?_)
      refine ck h (fun hc38 h => ?_)
      refine awp_ghost ghost_res ?_
      refine fa ?_
      refine dr mixed (vs 2 rfl (iD hx36 rfl rfl rfl (vs 1 rfl (xD (OD.mk [(63, (V.agg (encTType x35)))] [] [(64, (V.lst 2 (([x35] : List TType).map encTType)))] []) ⟨⟨rfl, trivial⟩, trivial⟩ (by exact fun S hn h hh => aops_buildSlice_imm [(0, (V.agg (encTType x35)))] [(encTType x35)] tEl23 tZ104 wants_none rfl rfl rfl rfl (evp_cons h.1 evp_nil) rfl rfl (by simp) (imms_rows (.cons (imms_encTType _) .nil)) rfl (aops_nil ⟨rfl, rfl⟩)) rfl (xD (OD.mk [(60, (V.own 0 l10.length)), (64, (V.lst 2 (([x35] : List TType).map encTType)))] [(0, (Ob.arr 104 2 (l10.map encTType))), (1, Ob.res)] [(65, (V.own 1 (l10 ++ ([x35] : List TType)).length))] [(1, (Ob.arr 104 2 ((l10 ++ ([x35] : List TType)).map encTType))), (0, Ob.dead)]) ⟨⟨rfl, rfl, trivial⟩, ⟨rfl, rfl, trivial⟩⟩ (by exact fun S hn h hh => aops_append_at 1 rfl hn hh.2.1 (([x35] : List TType).map encTType) ((l10 ++ ([x35] : List TType)).map encTType) tEl23 tIsSl23 rfl rfl wants_none h.1 hh.1 (by simp) h.2.1 (.lst (rows_one one_encTType)) (map_snoc encTType l10 ([x35] : List TType)) (List.length_map ..) hc37 rfl (aops_nil ⟨rfl, rfl⟩)) rfl (vs 1 rfl (xD (OD.mk [(66, (V.lst 2 (l9.map encTType)))] [] [(67, (V.lst 2 ((l9.drop 1).map encTType)))] []) ⟨⟨rfl, trivial⟩, trivial⟩ (by exact fun S hn h hh => aops_slice_lst (1) (l9.length) ((l9.drop 1).map encTType) tSl23 wants_none h.1 ⟨_, rfl⟩ (List.length_map ..).symm hc38 (Nat.le_of_eq (List.length_map ..).symm) slL_hi rfl (aops_nil ⟨rfl, rfl⟩)) rfl (vs 2 rfl .nil)))))))) (by kernel_rfl) ?_
      exact jX (l8, (l9.drop 1), (l10 ++ ([x35] : List TType))) h (gr [1] rfl (hR rfl rfl .nil) rfl)
     obtain ⟨x39, hx40, h⟩ := bind_some h
     obtain ⟨x41, hx42, h⟩ := bind_some h
     refine dr mixed (vs 1 rfl (nD rfl rfl rfl (vs 1 rfl (vb hb34 rfl (vs 1 rfl (iD hx40 rfl rfl rfl (vs 3 rfl (iD hx42 rfl rfl rfl (vs 5 rfl .nil))))))))) (by kernel_rfl) ?_
     refine spC h rfl (fun hb43 h => ?_) (fun hb43 h => ?_)
     ·obtain ⟨x44, hx45, h⟩ := bind_some h
      refine ck h (fun hc46 h => ?_)
      refine ck h (fun hc47 h => ?_)
      refine awp_ghost ghost_res ?_
      refine fa ?_
      refine dr mixed (vs 2 rfl (iD hx45 rfl rfl rfl (vs 1 rfl (xD (OD.mk [(63, (V.agg (encTType x44)))] [] [(64, (V.lst 2 (([x44] : List TType).map encTType)))] []) ⟨⟨rfl, trivial⟩, trivial⟩ (by exact fun S hn h hh => aops_buildSlice_imm [(0, (V.agg (encTType x44)))] [(encTType x44)] tEl23 tZ104 wants_none rfl rfl rfl rfl (evp_cons h.1 evp_nil) rfl rfl (by simp) (imms_rows (.cons (imms_encTType _) .nil)) rfl (aops_nil ⟨rfl, rfl⟩)) rfl (xD (OD.mk [(60, (V.own 0 l10.length)), (64, (V.lst 2 (([x44] : List TType).map encTType)))] [(0, (Ob.arr 104 2 (l10.map encTType))), (1, Ob.res)] [(65, (V.own 1 (l10 ++ ([x44] : List TType)).length))] [(1, (Ob.arr 104 2 ((l10 ++ ([x44] : List TType)).map encTType))), (0, Ob.dead)]) ⟨⟨rfl, rfl, trivial⟩, ⟨rfl, rfl, trivial⟩⟩ (by exact fun S hn h hh => aops_append_at 1 rfl hn hh.2.1 (([x44] : List TType).map encTType) ((l10 ++ ([x44] : List TType)).map encTType) tEl23 tIsSl23 rfl rfl wants_none h.1 hh.1 (by simp) h.2.1 (.lst (rows_one one_encTType)) (map_snoc encTType l10 ([x44] : List TType)) (List.length_map ..) hc46 rfl (aops_nil ⟨rfl, rfl⟩)) rfl (vs 1 rfl (xD (OD.mk [(66, (V.lst 2 (l9.map encTType)))] [] [(67, (V.lst 2 ((l9.drop 1).map encTType)))] []) ⟨⟨rfl, trivial⟩, trivial⟩ (by exact fun S hn h hh => aops_slice_lst (1) (l9.length) ((l9.drop 1).map encTType) tSl23 wants_none h.1 ⟨_, rfl⟩ (List.length_map ..).symm hc47 (Nat.le_of_eq (List.length_map ..).symm) slL_hi rfl (aops_nil ⟨rfl, rfl⟩)) rfl (vs 2 rfl .nil)))))))) (by kernel_rfl) ?_
      exact jX (l8, (l9.drop 1), (l10 ++ ([x44] : List TType))) h (gr [1] rfl (hR rfl rfl .nil) rfl)
     obtain ⟨x48, hx49, h⟩ := bind_some h
     obtain ⟨x50, hx51, h⟩ := bind_some h
     obtain ⟨y52, hx53, h⟩ := bind_some h
     refine rn 1 rfl ?_
     refine dr mixed (vs 1 rfl (iD hx49 rfl rfl rfl (vs 3 rfl (iD hx51 rfl rfl rfl (vs 2 rfl (cD rfl rfl rfl rfl (W141 _ _ _ _ hx53) rfl (vs 2 rfl .nil))))))) (by kernel_rfl) ?_
     refine spC h rfl (fun hb54 h => ?_) (fun hb54 h => ?_)
     ·refine rn 5 rfl ?_
      exact rt h rfl
     refine rn 2 rfl ?_
     refine ck h (fun hc55 h => ?_)
     refine aops_slice_lst (1) (l9.length) ((l9.drop 1).map encTType) tSl23 wants_none rfl ⟨_, rfl⟩ (List.length_map ..).symm hc55 (Nat.le_of_eq (List.length_map ..).symm) slL_hi rfl ?_
     refine fo (rn 2 rfl ?_)
     exact jX (l8, (l9.drop 1), l10) h (gr [0] rfl (hR rfl rfl .nil) rfl)
    rintro ⟨l26, l27, l28⟩ h
    refine rn 1 rfl ?_
    exact jX (l26, l27, l28) h (gr [0] rfl (hR rfl rfl .nil) rfl)
   rintro ⟨l13, l14, l15⟩ h
   refine rn 1 rfl ?_
   exact jX (l13, l14, l15) h (gr [0] rfl (hR rfl rfl .nil) rfl)
  refine rn 1 rfl ?_
  refine ln rfl rfl ?_
  refine rn 3 rfl ?_
  refine spC h rfl (fun hb56 h => ?_) (fun hb56 h => ?_)
  ·refine rn 2 rfl ?_
   refine jK h (fun (p : (List TType) × (List TType) × (List TType)) => (⟨[(0, (V.lst 2 ((p.1).map encTType))), (1, (V.lst 2 ((p.2.1).map encTType))), (6, (V.own 0 (p.2.2).length)), (13, (bV (decide (((l9.length : Nat) : Int) > 0)))), (34, (V.con undef))], [(0, (Ob.arr 104 2 ((p.2.2).map encTType)))], 1⟩ : St)) (fun k57 p => k57 p.1 p.2.1 p.2.2 = some r) (fun k57 h => ?_) ?_
   ·refine rn 2 rfl ?_
    refine bs h (fun hb61 h => ?_) (fun hb61 h => ?_)
    ·refine dr mixed (vs 1 rfl (nD rfl rfl rfl (vs 1 rfl (vb hb61 rfl (vs 16 rfl .nil))))) (by kernel_rfl) ?_
     obtain ⟨x62, hx63, h⟩ := bind_some h
     refine rn 1 rfl ?_
     refine ck h (fun hc64 h => ?_)
     refine ck h (fun hc65 h => ?_)
     refine awp_ghost ghost_res ?_
     refine fa ?_
     refine dr mixed (vs 2 rfl (iD hx63 rfl rfl rfl (vs 1 rfl (xD (OD.mk [(40, (V.agg (encTType x62)))] [] [(41, (V.lst 2 (([x62] : List TType).map encTType)))] []) ⟨⟨rfl, trivial⟩, trivial⟩ (by exact fun S hn h hh => aops_buildSlice_imm [(0, (V.agg (encTType x62)))] [(encTType x62)] tEl23 tZ104 wants_none rfl rfl rfl rfl (evp_cons h.1 evp_nil) rfl rfl (by simp) (imms_rows (.cons (imms_encTType _) .nil)) rfl (aops_nil ⟨rfl, rfl⟩)) rfl (xD (OD.mk [(37, (V.own 0 l10.length)), (41, (V.lst 2 (([x62] : List TType).map encTType)))] [(0, (Ob.arr 104 2 (l10.map encTType))), (1, Ob.res)] [(42, (V.own 1 (l10 ++ ([x62] : List TType)).length))] [(1, (Ob.arr 104 2 ((l10 ++ ([x62] : List TType)).map encTType))), (0, Ob.dead)]) ⟨⟨rfl, rfl, trivial⟩, ⟨rfl, rfl, trivial⟩⟩ (by exact fun S hn h hh => aops_append_at 1 rfl hn hh.2.1 (([x62] : List TType).map encTType) ((l10 ++ ([x62] : List TType)).map encTType) tEl23 tIsSl23 rfl rfl wants_none h.1 hh.1 (by simp) h.2.1 (.lst (rows_one one_encTType)) (map_snoc encTType l10 ([x62] : List TType)) (List.length_map ..) hc64 rfl (aops_nil ⟨rfl, rfl⟩)) rfl (vs 1 rfl (xD (OD.mk [(43, (V.lst 2 (l8.map encTType)))] [] [(44, (V.lst 2 ((l8.drop 1).map encTType)))] []) ⟨⟨rfl, trivial⟩, trivial⟩ (by exact fun S hn h hh => aops_slice_lst (1) (l8.length) ((l8.drop 1).map encTType) tSl23 wants_none h.1 ⟨_, rfl⟩ (List.length_map ..).symm hc65 (Nat.le_of_eq (List.length_map ..).symm) slL_hi rfl (aops_nil ⟨rfl, rfl⟩)) rfl (vs 2 rfl .nil)))))))) (by kernel_rfl) ?_
     refine rn 1 rfl ?_
     exact jX ((l8.drop 1), l9, (l10 ++ ([x62] : List TType))) h (gr [1] rfl (hR rfl rfl .nil) rfl)
    refine dr mixed (vs 1 rfl (nD rfl rfl rfl (vs 1 rfl (vb hb61 rfl (vs 1 rfl (nD rfl rfl rfl (vs 1 rfl (vb hb11 rfl (vs 12 rfl .nil))))))))) (by kernel_rfl) ?_
    refine rn 2 rfl ?_
    refine bs h (fun hb66 h => ?_) (fun hb66 h => ?_)
    ·refine dr mixed (vs 1 rfl (nD rfl rfl rfl (vs 1 rfl (vb hb66 rfl (vs 11 rfl .nil))))) (by kernel_rfl) ?_
     obtain ⟨x67, hx68, h⟩ := bind_some h
     refine rn 1 rfl ?_
     refine ck h (fun hc69 h => ?_)
     refine ck h (fun hc70 h => ?_)
     refine awp_ghost ghost_res ?_
     refine fa ?_
     refine dr mixed (vs 2 rfl (iD hx68 rfl rfl rfl (vs 1 rfl (xD (OD.mk [(63, (V.agg (encTType x67)))] [] [(64, (V.lst 2 (([x67] : List TType).map encTType)))] []) ⟨⟨rfl, trivial⟩, trivial⟩ (by exact fun S hn h hh => aops_buildSlice_imm [(0, (V.agg (encTType x67)))] [(encTType x67)] tEl23 tZ104 wants_none rfl rfl rfl rfl (evp_cons h.1 evp_nil) rfl rfl (by simp) (imms_rows (.cons (imms_encTType _) .nil)) rfl (aops_nil ⟨rfl, rfl⟩)) rfl (xD (OD.mk [(60, (V.own 0 l10.length)), (64, (V.lst 2 (([x67] : List TType).map encTType)))] [(0, (Ob.arr 104 2 (l10.map encTType))), (1, Ob.res)] [(65, (V.own 1 (l10 ++ ([x67] : List TType)).length))] [(1, (Ob.arr 104 2 ((l10 ++ ([x67] : List TType)).map encTType))), (0, Ob.dead)]) ⟨⟨rfl, rfl, trivial⟩, ⟨rfl, rfl, trivial⟩⟩ (by exact fun S hn h hh => aops_append_at 1 rfl hn hh.2.1 (([x67] : List TType).map encTType) ((l10 ++ ([x67] : List TType)).map encTType) tEl23 tIsSl23 rfl rfl wants_none h.1 hh.1 (by simp) h.2.1 (.lst (rows_one one_encTType)) (map_snoc encTType l10 ([x67] : List TType)) (List.length_map ..) hc69 rfl (aops_nil ⟨rfl, rfl⟩)) rfl (vs 1 rfl (xD (OD.mk [(66, (V.lst 2 (l9.map encTType)))] [] [(67, (V.lst 2 ((l9.drop 1).map encTType)))] []) ⟨⟨rfl, trivial⟩, trivial⟩ (by exact fun S hn h hh => aops_slice_lst (1) (l9.length) ((l9.drop 1).map encTType) tSl23 wants_none h.1 ⟨_, rfl⟩ (List.length_map ..).symm hc70 (Nat.le_of_eq (List.length_map ..).symm) slL_hi rfl (aops_nil ⟨rfl, rfl⟩)) rfl (vs 2 rfl .nil)))))))) (by kernel_rfl) ?_
     refine rn 1 rfl ?_
     exact jX (l8, (l9.drop 1), (l10 ++ ([x67] : List TType))) h (gr [1] rfl (hR rfl rfl .nil) rfl)
    obtain ⟨x71, hx72, h⟩ := bind_some h
    obtain ⟨x73, hx74, h⟩ := bind_some h
    refine dr mixed (vs 1 rfl (nD rfl rfl rfl (vs 1 rfl (vb hb66 rfl (vs 1 rfl (iD hx72 rfl rfl rfl (vs 3 rfl (iD hx74 rfl rfl rfl (vs 5 rfl .nil))))))))) (by kernel_rfl) ?_
    refine jK h (fun (p : (List TType)) => (⟨[(0, (V.lst 2 (l8.map encTType))), (1, (V.lst 2 ((l9.drop 1).map encTType))), (6, (V.own 0 p.length)), (13, (bV (decide (((l9.length : Nat) : Int) > 0)))), (34, (V.con undef)), (35, (bV false)), (58, (bV (!(Op.bytesLess x71.Name x73.Name || x71.Name == x73.Name))))], [(0, (Ob.arr 104 2 (p.map encTType)))], 1⟩ : St)) (fun k75 p => k75 p = some r) (fun k75 h => ?_) ?_
    ·refine spC h rfl (fun hb77 h => ?_) (fun hb77 h => ?_)
     ·obtain ⟨x78, hx79, h⟩ := bind_some h
      refine ck h (fun hc80 h => ?_)
      refine ck h (fun hc81 h => ?_)
      refine awp_ghost ghost_res ?_
      refine fa ?_
      refine dr mixed (vs 2 rfl (iD hx79 rfl rfl rfl (vs 1 rfl (xD (OD.mk [(63, (V.agg (encTType x78)))] [] [(64, (V.lst 2 (([x78] : List TType).map encTType)))] []) ⟨⟨rfl, trivial⟩, trivial⟩ (by exact fun S hn h hh => aops_buildSlice_imm [(0, (V.agg (encTType x78)))] [(encTType x78)] tEl23 tZ104 wants_none rfl rfl rfl rfl (evp_cons h.1 evp_nil) rfl rfl (by simp) (imms_rows (.cons (imms_encTType _) .nil)) rfl (aops_nil ⟨rfl, rfl⟩)) rfl (xD (OD.mk [(60, (V.own 0 l10.length)), (64, (V.lst 2 (([x78] : List TType).map encTType)))] [(0, (Ob.arr 104 2 (l10.map encTType))), (1, Ob.res)] [(65, (V.own 1 (l10 ++ ([x78] : List TType)).length))] [(1, (Ob.arr 104 2 ((l10 ++ ([x78] : List TType)).map encTType))), (0, Ob.dead)]) ⟨⟨rfl, rfl, trivial⟩, ⟨rfl, rfl, trivial⟩⟩ (by exact fun S hn h hh => aops_append_at 1 rfl hn hh.2.1 (([x78] : List TType).map encTType) ((l10 ++ ([x78] : List TType)).map encTType) tEl23 tIsSl23 rfl rfl wants_none h.1 hh.1 (by simp) h.2.1 (.lst (rows_one one_encTType)) (map_snoc encTType l10 ([x78] : List TType)) (List.length_map ..) hc80 rfl (aops_nil ⟨rfl, rfl⟩)) rfl (vs 1 rfl (xD (OD.mk [(66, (V.lst 2 (l9.map encTType)))] [] [(67, (V.lst 2 ((l9.drop 1).map encTType)))] []) ⟨⟨rfl, trivial⟩, trivial⟩ (by exact fun S hn h hh => aops_slice_lst (1) (l9.length) ((l9.drop 1).map encTType) tSl23 wants_none h.1 ⟨_, rfl⟩ (List.length_map ..).symm hc81 (Nat.le_of_eq (List.length_map ..).symm) slL_hi rfl (aops_nil ⟨rfl, rfl⟩)) rfl (vs 2 rfl .nil)))))))) (by kernel_rfl) ?_
      exact jX (l10 ++ ([x78] : List TType)) h (gr [1] rfl (hR rfl rfl .nil) rfl)
     obtain ⟨x82, hx83, h⟩ := bind_some h
     obtain ⟨x84, hx85, h⟩ := bind_some h
     obtain ⟨y86, hx87, h⟩ := bind_some h
     refine rn 1 rfl ?_
     refine dr mixed (vs 1 rfl (iD hx83 rfl rfl rfl (vs 3 rfl (iD hx85 rfl rfl rfl (vs 2 rfl (cD rfl rfl rfl rfl (W141 _ _ _ _ hx87) rfl (vs 2 rfl .nil))))))) (by kernel_rfl) ?_
     refine spC h rfl (fun hb88 h => ?_) (fun hb88 h => ?_)
     ·refine rn 5 rfl ?_
      exact rt h rfl
     refine rn 2 rfl ?_
     refine ck h (fun hc89 h => ?_)
     refine aops_slice_lst (1) (l9.length) ((l9.drop 1).map encTType) tSl23 wants_none rfl ⟨_, rfl⟩ (List.length_map ..).symm hc89 (Nat.le_of_eq (List.length_map ..).symm) slL_hi rfl ?_
     refine fo (rn 2 rfl ?_)
     exact jX l10 h (gr [0] rfl (hR rfl rfl .nil) rfl)
    intro l76 h
    refine rn 1 rfl ?_
    exact jX (l8, (l9.drop 1), l76) h (gr [0] rfl (hR rfl rfl .nil) rfl)
   rintro ⟨l58, l59, l60⟩ h
   refine rn 1 rfl ?_
   exact jX (l58, l59, l60) h (gr [0] rfl (hR rfl rfl .nil) rfl)
  refine rn 1 rfl ?_
  exact jX l10 h (gr [0] rfl (hR rfl rfl .nil) rfl)
 intro l4 h
 refine rn 6 rfl ?_
 refine awp_ghost (ghost_frzEs 0 [4, 6, 79] rfl (rows_imm imms_encTType) (List.forall_mem_cons.2 ⟨rfl, (List.forall_mem_cons.2 ⟨rfl, (List.forall_mem_cons.2 ⟨rfl, (fun _ hx => nomatch hx)⟩)⟩)⟩) (List.length_map ..).symm) ?_
 refine fa ?_
 exact rt h rfl
theorem W188 (F : Nat) (a1 : (List TCall)) (a2 : (List TCall)) (r : Bool) (h : M188 F a1 a2 = some r) : Pure Tryz.prog 188 [(V.lst 4 (a1.map encTCall)), (V.lst 4 (a2.map encTCall))] (bV r) := by
 refine pin (fun r => (bV r)) r rfl Tryz.func188 rfl rfl rfl rfl rfl (fun w0 m0 hg => ?_)
 unfold M188 at h
 refine rn 8 rfl ?_
 refine ln rfl rfl ?_
 refine rn 1 rfl ?_
 refine ln rfl rfl ?_
 refine rn 2 rfl ?_
 refine spC h rfl (fun hb3 h => ?_) (fun hb3 h => ?_)
 ·refine rn 4 rfl ?_
  exact rt h rfl
 refine rn 5 rfl ?_
 refine ln rfl rfl ?_
 refine rn 2 rfl ?_
 refine jK h (fun _ : Unit => (⟨[], [], 0⟩ : St)) (fun k4 (_ : Unit) => k4 = some r) (fun k4 h => ?_) ?_
 ·refine rn 1 rfl ?_
  refine wl (A := a1) 0 rfl (fun hA13 => ?_)
  refine lC (fun (p : Int) => (⟨[(0, (V.lst 4 (a1.map encTCall))), (1, (V.lst 4 (a2.map encTCall))), (12, (iV ((a1.length : Nat) : Int))), (13, (iV p))], [], 0⟩ : St)) (fun n p => RG a1 (fun tl nn => M188_L1 F a2 k4 tl nn = some r) n p) (fun p h => RG.zero h) (a1.length + 1) 0 (RG.start h) (g0 rfl rfl) (fun n n6 h => ?_)
  refine rn 5 rfl ?_
  refine spL rfl (fun hb7 => ?_) (fun hb7 => ?_)
  ·obtain ⟨x8, tl, hx9, h, hk1⟩ := RG.t hA13 h hb7
   unfold M188_L1 at h
   obtain ⟨x10, hx11, h⟩ := bind_some h
   refine rn 9 rfl ?_
   refine dr mixed (vs 2 rfl (iD hx9 rfl rfl rfl (vs 3 rfl (iD hx11 rfl rfl rfl (vs 1 rfl (xD (OD.mk [(19, (V.agg (encTCall x8))), (23, (V.agg (encTCall x10)))] [] [(24, (bV (!(decide (x8 = x10)))))] []) ⟨⟨rfl, rfl, trivial⟩, trivial⟩ (by exact fun S hn h hh => aops_eqS true (xs := cv109 x8) (ys := cv109 x10) (b := (decide (x8 = x10))) eqk109 ⟨_, rfl⟩ ⟨_, rfl⟩ (eq_b cv109 _ _ (inj_cv109 _ _)) tEqG109 wants_none h.1 h.2.1 rfl (aops_nil ⟨rfl, rfl⟩)) rfl .nil)))))) (by kernel_rfl) ?_
   refine spC h rfl (fun hb12 h => ?_) (fun hb12 h => ?_)
   ·refine rn 4 rfl ?_
    exact rt h rfl
   refine rn 6 rfl ?_
   exact jX (w64 (n6 + 1)) (hk1 _ h) (g0 rfl rfl)
  replace h := RG.f h hb7
  unfold M188_L1 at h
  refine rn 1 rfl ?_
  exact jX () h (g0 rfl rfl)
 intro _ h
 refine rn 4 rfl ?_
 exact rt h rfl
theorem W142 (F : Nat) (a1 : TFunc) (a2 : TFunc) (r : Bool) (h : M142 F a1 a2 = some r) : Pure Tryz.prog 142 [(V.agg (encTFunc a1)), (V.agg (encTFunc a2))] (bV r) := by
 refine pin (fun r => (bV r)) r rfl Tryz.func142 rfl rfl rfl rfl rfl (fun w0 m0 hg => ?_)
 unfold M142 at h
 refine rn 14 rfl ?_
 refine spO 10 h rfl (fun hb3 h => ?_) (fun hb3 h => ?_)
 ·refine rn 4 rfl ?_
  refine cl h rfl rfl rfl (W188 _ _ _) rfl (fun y4 hx5 h => ?_)
  refine rn 2 rfl ?_
  refine spO 17 h rfl (fun hb6 h => ?_) (fun hb6 h => ?_)
  ·refine rn 4 rfl ?_
   refine cl h rfl rfl rfl (W140 _ _ _) rfl (fun y7 hx8 h => ?_)
   refine rn 3 rfl ?_
   exact rt h rfl
  refine rn 8 rfl ?_
  exact rt h rfl
 refine rn 15 rfl ?_
 exact rt h rfl
theorem W76 (F : Nat) (a1 : (List TFunc)) (a2 : (List TFunc)) (r : ((List TFunc) × Bool)) (h : M76 F a1 a2 = some r) : Pure Tryz.prog 76 [(V.lst 4 (a1.map encTFunc)), (V.lst 4 (a2.map encTFunc))] (V.tup [(V.lst 4 ((r.1).map encTFunc)), (bV (r.2))]) := by
 refine pin (fun r => (V.tup [(V.lst 4 ((r.1).map encTFunc)), (bV (r.2))])) r rfl Tryz.func76 rfl rfl rfl rfl rfl (fun w0 m0 hg => ?_)
 unfold M76 at h
 refine rn 10 rfl ?_
 refine jK h (fun (p : (List TFunc)) => (⟨[(6, (V.own 0 p.length))], [(0, (Ob.arr 94 4 (p.map encTFunc)))], 1⟩ : St)) (fun k3 p => k3 p = some r) (fun k3 h => ?_) ?_
 ·refine rn 1 rfl ?_
  refine lC (fun (p : (List TFunc) × (List TFunc) × (List TFunc)) => (⟨[(0, (V.lst 4 ((p.1).map encTFunc))), (1, (V.lst 4 ((p.2.1).map encTFunc))), (6, (V.own 0 (p.2.2).length))], [(0, (Ob.arr 94 4 ((p.2.2).map encTFunc)))], 1⟩ : St)) (fun n p => M76_L1 F k3 n p.1 p.2.1 p.2.2 = some r) (fun p h => by simp [M76_L1] at h) F (a1, a2, ([] : List TFunc)) h (Ghost.trans (ghost_nilE 6 94 4 rfl) (ghost_ren 1 (fun i => ([0] : List Nat).getD i 0) _ _ (by decide) (EnvSub.get (.cons (Sub.imm (Imm.lst _ _)) (.cons (Sub.imm (Imm.lst _ _)) (.cons (Sub.ownE rfl rfl (by simp)) .nil)))) (HpSub.get (.cons rfl (ObSub.rows (rows_imm imms_encTFunc)) .nil)) rfl)) (fun n p h => ?_)
  obtain ⟨l8, l9, l10⟩ := p
  unfold M76_L1 at h
  refine rn 4 rfl ?_
  refine ln rfl rfl ?_
  refine rn 2 rfl ?_
  refine spO 10 h rfl (fun hb11 h => ?_) (fun hb11 h => ?_)
  ·refine rn 8 rfl ?_
   refine jK h (fun (p : (List TFunc) × (List TFunc) × (List TFunc)) => (⟨[(0, (V.lst 4 ((p.1).map encTFunc))), (1, (V.lst 4 ((p.2.1).map encTFunc))), (6, (V.own 0 (p.2.2).length)), (13, (V.con undef))], [(0, (Ob.arr 94 4 ((p.2.2).map encTFunc)))], 1⟩ : St)) (fun k12 p => k12 p.1 p.2.1 p.2.2 = some r) (fun k12 h => ?_) ?_
   ·refine rn 2 rfl ?_
    refine bs h (fun hb16 h => ?_) (fun hb16 h => ?_)
    ·refine dr mixed (vs 1 rfl (nD rfl rfl rfl (vs 1 rfl (vb hb16 rfl (vs 16 rfl .nil))))) (by kernel_rfl) ?_
     obtain ⟨x17, hx18, h⟩ := bind_some h
     refine rn 1 rfl ?_
     refine ck h (fun hc19 h => ?_)
     refine ck h (fun hc20 h => ?_)
     refine awp_ghost ghost_res ?_
     refine fa ?_
     refine dr mixed (vs 2 rfl (iD hx18 rfl rfl rfl (vs 1 rfl (xD (OD.mk [(40, (V.agg (encTFunc x17)))] [] [(41, (V.lst 4 (([x17] : List TFunc).map encTFunc)))] []) ⟨⟨rfl, trivial⟩, trivial⟩ (by exact fun S hn h hh => aops_buildSlice_imm [(0, (V.agg (encTFunc x17)))] [(encTFunc x17)] tEl24 tZ94 wants_none rfl rfl rfl rfl (evp_cons h.1 evp_nil) rfl rfl (by simp) (imms_rows (.cons (imms_encTFunc _) .nil)) rfl (aops_nil ⟨rfl, rfl⟩)) rfl (xD (OD.mk [(37, (V.own 0 l10.length)), (41, (V.lst 4 (([x17] : List TFunc).map encTFunc)))] [(0, (Ob.arr 94 4 (l10.map encTFunc))), (1, Ob.res)] [(42, (V.own 1 (l10 ++ ([x17] : List TFunc)).length))] [(1, (Ob.arr 94 4 ((l10 ++ ([x17] : List TFunc)).map encTFunc))), (0, Ob.dead)]) ⟨⟨rfl, rfl, trivial⟩, ⟨rfl, rfl, trivial⟩⟩ (by exact fun S hn h hh => aops_append_at 1 rfl hn hh.2.1 (([x17] : List TFunc).map encTFunc) ((l10 ++ ([x17] : List TFunc)).map encTFunc) tEl24 tIsSl24 rfl rfl wants_none h.1 hh.1 (by simp) h.2.1 (.lst (rows_one one_encTFunc)) (map_snoc encTFunc l10 ([x17] : List TFunc)) (List.length_map ..) hc19 rfl (aops_nil ⟨rfl, rfl⟩)) rfl (vs 1 rfl (xD (OD.mk [(43, (V.lst 4 (l8.map encTFunc)))] [] [(44, (V.lst 4 ((l8.drop 1).map encTFunc)))] []) ⟨⟨rfl, trivial⟩, trivial⟩ (by exact fun S hn h hh => aops_slice_lst (1) (l8.length) ((l8.drop 1).map encTFunc) tSl24 wants_none h.1 ⟨_, rfl⟩ (List.length_map ..).symm hc20 (Nat.le_of_eq (List.length_map ..).symm) slL_hi rfl (aops_nil ⟨rfl, rfl⟩)) rfl (vs 2 rfl .nil)))))))) (by kernel_rfl) ?_
     refine rn 1 rfl ?_
     exact jX ((l8.drop 1), l9, (l10 ++ ([x17] : List TFunc))) h (gr [1] rfl (hR rfl rfl .nil) rfl)
    obtain ⟨x21, hx22, h⟩ := bind_some h
    obtain ⟨x23, hx24, h⟩ := bind_some h
    refine dr mixed (vs 1 rfl (nD rfl rfl rfl (vs 1 rfl (vb hb16 rfl (vs 1 rfl (nD rfl rfl rfl (vs 1 rfl (vb hb11 rfl (vs 1 rfl (iD hx22 rfl rfl rfl (vs 3 rfl (iD hx24 rfl rfl rfl (vs 6 rfl .nil))))))))))))) (by kernel_rfl) ?_
    refine jK h (fun (p : (List TFunc) × (List TFunc) × (List TFunc)) => (⟨[(0, (V.lst 4 ((p.1).map encTFunc))), (1, (V.lst 4 ((p.2.1).map encTFunc))), (6, (V.own 0 (p.2.2).length)), (13, (V.con undef)), (34, (bV (Op.bytesLess x21.Name x23.Name))), (35, (bV (Op.bytesLess x21.Name x23.Name)))], [(0, (Ob.arr 94 4 ((p.2.2).map encTFunc)))], 1⟩ : St)) (fun k25 p => k25 p.1 p.2.1 p.2.2 = some r) (fun k25 h => ?_) ?_
    ·refine spC h rfl (fun hb29 h => ?_) (fun hb29 h => ?_)
     ·obtain ⟨x30, hx31, h⟩ := bind_some h
      refine ck h (fun hc32 h => ?_)
      refine ck h (fun hc33 h => ?_)
      refine awp_ghost ghost_res ?_
      refine fa ?_
      refine dr mixed (vs 2 rfl (iD hx31 rfl rfl rfl (vs 1 rfl (xD (OD.mk [(40, (V.agg (encTFunc x30)))] [] [(41, (V.lst 4 (([x30] : List TFunc).map encTFunc)))] []) ⟨⟨rfl, trivial⟩, trivial⟩ (by exact fun S hn h hh => aops_buildSlice_imm [(0, (V.agg (encTFunc x30)))] [(encTFunc x30)] tEl24 tZ94 wants_none rfl rfl rfl rfl (evp_cons h.1 evp_nil) rfl rfl (by simp) (imms_rows (.cons (imms_encTFunc _) .nil)) rfl (aops_nil ⟨rfl, rfl⟩)) rfl (xD (OD.mk [(37, (V.own 0 l10.length)), (41, (V.lst 4 (([x30] : List TFunc).map encTFunc)))] [(0, (Ob.arr 94 4 (l10.map encTFunc))), (1, Ob.res)] [(42, (V.own 1 (l10 ++ ([x30] : List TFunc)).length))] [(1, (Ob.arr 94 4 ((l10 ++ ([x30] : List TFunc)).map encTFunc))), (0, Ob.dead)]) ⟨⟨rfl, rfl, trivial⟩, ⟨rfl, rfl, trivial⟩⟩ (by exact fun S hn h hh => aops_append_at 1 rfl hn hh.2.1 (([x30] : List TFunc).map encTFunc) ((l10 ++ ([x30] : List TFunc)).map encTFunc) tEl24 tIsSl24 rfl rfl wants_none h.1 hh.1 (by simp) h.2.1 (.lst (rows_one one_encTFunc)) (map_snoc encTFunc l10 ([x30] : List TFunc)) (List.length_map ..) hc32 rfl (aops_nil ⟨rfl, rfl⟩)) rfl (vs 1 rfl (xD (OD.mk [(43, (V.lst 4 (l8.map encTFunc)))] [] [(44, (V.lst 4 ((l8.drop 1).map encTFunc)))] []) ⟨⟨rfl, trivial⟩, trivial⟩ (by exact fun S hn h hh => aops_slice_lst (1) (l8.length) ((l8.drop 1).map encTFunc) tSl24 wants_none h.1 ⟨_, rfl⟩ (List.length_map ..).symm hc33 (Nat.le_of_eq (List.length_map ..).symm) slL_hi rfl (aops_nil ⟨rfl, rfl⟩)) rfl (vs 2 rfl .nil)))))))) (by kernel_rfl) ?_
      exact jX ((l8.drop 1), l9, (l10 ++ ([x30] : List TFunc))) h (gr [1] rfl (hR rfl rfl .nil) rfl)
     refine rn 1 rfl ?_
     refine bs h (fun hb34 h => ?_) (fun hb34 h => ?_)
     ·refine dr mixed (vs 1 rfl (nD rfl rfl rfl (vs 1 rfl (vb hb34 rfl (vs 11 rfl .nil))))) (by kernel_rfl) ?_
      obtain ⟨x35, hx36, h⟩ := bind_some h
      refine rn 1 rfl ?_
      refine ck h (fun hc37 h => ?_)
      refine ck h (fun hc38 h => ?_)
      refine awp_ghost ghost_res ?_
      refine fa ?_
      refine dr mixed (vs 2 rfl (iD hx36 rfl rfl rfl (vs 1 rfl (xD (OD.mk [(63, (V.agg (encTFunc x35)))] [] [(64, (V.lst 4 (([x35] : List TFunc).map encTFunc)))] []) ⟨⟨rfl, trivial⟩, trivial⟩ (by exact fun S hn h hh => aops_buildSlice_imm [(0, (V.agg (encTFunc x35)))] [(encTFunc x35)] tEl24 tZ94 wants_none rfl rfl rfl rfl (evp_cons h.1 evp_nil) rfl rfl (by simp) (imms_rows (.cons (imms_encTFunc _) .nil)) rfl (aops_nil ⟨rfl, rfl⟩)) rfl (xD (OD.mk [(60, (V.own 0 l10.length)), (64, (V.lst 4 (([x35] : List TFunc).map encTFunc)))] [(0, (Ob.arr 94 4 (l10.map encTFunc))), (1, Ob.res)] [(65, (V.own 1 (l10 ++ ([x35] : List TFunc)).length))] [(1, (Ob.arr 94 4 ((l10 ++ ([x35] : List TFunc)).map encTFunc))), (0, Ob.dead)]) ⟨⟨rfl, rfl, trivial⟩, ⟨rfl, rfl, trivial⟩⟩ (by exact fun S hn h hh => aops_append_at 1 rfl hn hh.2.1 (([x35] : List TFunc).map encTFunc) ((l10 ++ ([x35] : List TFunc)).map encTFunc) tEl24 tIsSl24 rfl rfl wants_none h.1 hh.1 (by simp) h.2.1 (.lst (rows_one one_encTFunc)) (map_snoc encTFunc l10 ([x35] : List TFunc)) (List.length_map ..) hc37 rfl (aops_nil ⟨rfl, rfl⟩)) rfl (vs 1 rfl (xD (OD.mk [(66, (V.lst 4 (l9.map encTFunc)))] [] [(67, (V.lst 4 ((l9.drop 1).map encTFunc)))] []) ⟨⟨rfl, trivial⟩, trivial⟩ (by exact fun S hn h hh => aops_slice_lst (1) (l9.length) ((l9.drop 1).map encTFunc) tSl24 wants_none h.1 ⟨_, rfl⟩ (List.length_map ..).symm hc38 (Nat.le_of_eq (List.length_map ..).symm) slL_hi rfl (aops_nil ⟨rfl, rfl⟩)) rfl (vs 2 rfl .nil)))))))) (by kernel_rfl) ?_
      exact jX (l8, (l9.drop 1), (l10 ++ ([x35] : List TFunc))) h (gr [1] rfl (hR rfl rfl .nil) rfl)
     obtain ⟨x39, hx40, h⟩ := bind_some h
     obtain ⟨x41, hx42, h⟩ := bind_some h
     refine dr mixed (vs 1 rfl (nD rfl rfl rfl (vs 1 rfl (vb hb34 rfl (vs 1 rfl (iD hx40 rfl rfl rfl (vs 3 rfl (iD hx42 rfl rfl rfl (vs 5 rfl .nil))))))))) (by kernel_rfl) ?_
     refine spC h rfl (fun hb43 h => ?_) (fun hb43 h => ?_)
     ·obtain ⟨x44, hx45, h⟩ := bind_some h
      refine ck h (fun hc46 h => ?_)
      refine ck h (fun hc47 h => ?_)
      refine awp_ghost ghost_res ?_
      refine fa ?_
      refine dr mixed (vs 2 rfl (iD hx45 rfl rfl rfl (vs 1 rfl (xD (OD.mk [(63, (V.agg (encTFunc x44)))] [] [(64, (V.lst 4 (([x44] : List TFunc).map encTFunc)))] []) ⟨⟨rfl, trivial⟩, trivial⟩ (by exact fun S hn h hh => aops_buildSlice_imm [(0, (V.agg (encTFunc x44)))] [(encTFunc x44)] tEl24 tZ94 wants_none rfl rfl rfl rfl (evp_cons h.1 evp_nil) rfl rfl (by simp) (imms_rows (.cons (imms_encTFunc _) .nil)) rfl (aops_nil ⟨rfl, rfl⟩)) rfl (xD (OD.mk [(60, (V.own 0 l10.length)), (64, (V.lst 4 (([x44] : List TFunc).map encTFunc)))] [(0, (Ob.arr 94 4 (l10.map encTFunc))), (1, Ob.res)] [(65, (V.own 1 (l10 ++ ([x44] : List TFunc)).length))] [(1, (Ob.arr 94 4 ((l10 ++ ([x44] : List TFunc)).map encTFunc))), (0, Ob.dead)]) ⟨⟨rfl, rfl, trivial⟩, ⟨rfl, rfl, trivial⟩⟩ (by exact fun S hn h hh => aops_append_at 1 rfl hn hh.2.1 (([x44] : List TFunc).map encTFunc) ((l10 ++ ([x44] : List TFunc)).map encTFunc) tEl24 tIsSl24 rfl rfl wants_none h.1 hh.1 (by simp) h.2.1 (.lst (rows_one one_encTFunc)) (map_snoc encTFunc l10 ([x44] : List TFunc)) (List.length_map ..) hc46 rfl (aops_nil ⟨rfl, rfl⟩)) rfl (vs 1 rfl (xD (OD.mk [(66, (V.lst 4 (l9.map encTFunc)))] [] [(67, (V.lst 4 ((l9.drop 1).map encTFunc)))] []) ⟨⟨rfl, trivial⟩, trivial⟩ (by exact fun S hn h hh => aops_slice_lst (1) (l9.length) ((l9.drop 1).map encTFunc) tSl24 wants_none h.1 ⟨_, rfl⟩ (List.length_map ..).symm hc47 (Nat.le_of_eq (List.length_map ..).symm) slL_hi rfl (aops_nil ⟨rfl, rfl⟩)) rfl (vs 2 rfl .nil)))))))) (by kernel_rfl) ?_
      exact jX (l8, (l9.drop 1), (l10 ++ ([x44] : List TFunc))) h (gr [1] rfl (hR rfl rfl .nil) rfl)
     obtain ⟨x48, hx49, h⟩ := bind_some h
     obtain ⟨x50, hx51, h⟩ := bind_some h
     obtain ⟨y52, hx53, h⟩ := bind_some h
     refine rn 1 rfl ?_
     refine dr mixed (vs 1 rfl (iD hx49 rfl rfl rfl (vs 2 rfl (iD hx51 rfl rfl rfl (vs 1 rfl (cD rfl rfl rfl rfl (W142 _ _ _ _ hx53) rfl (vs 2 rfl .nil))))))) (by kernel_rfl) ?_
     refine spC h rfl (fun hb54 h => ?_) (fun hb54 h => ?_)
     ·refine rn 5 rfl ?_
      exact rt h rfl
     refine rn 2 rfl ?_
     refine ck h (fun hc55 h => ?_)
     refine aops_slice_lst (1) (l9.length) ((l9.drop 1).map encTFunc) tSl24 wants_none rfl ⟨_, rfl⟩ (List.length_map ..).symm hc55 (Nat.le_of_eq (List.length_map ..).symm) slL_hi rfl ?_
     refine fo (rn 2 rfl ?_)
     exact jX (l8, (l9.drop 1), l10) h (gr [0] rfl (hR rfl rfl .nil) rfl)
    rintro ⟨l26, l27, l28⟩ h
    refine rn 1 rfl ?_
    exact jX (l26, l27, l28) h (gr [0] rfl (hR rfl rfl .nil) rfl)
   rintro ⟨l13, l14, l15⟩ h
   refine rn 1 rfl ?_
   exact jX (l13, l14, l15) h (gr [0] rfl (hR rfl rfl .nil) rfl)
  refine rn 1 rfl ?_
  refine ln rfl rfl ?_
  refine rn 3 rfl ?_
  refine spC h rfl (fun hb56 h => ?_) (fun hb56 h => ?_)
  ·refine rn 2 rfl ?_
   refine jK h (fun (p : (List TFunc) × (List TFunc) × (List TFunc)) => (⟨[(0, (V.lst 4 ((p.1).map encTFunc))), (1, (V.lst 4 ((p.2.1).map encTFunc))), (6, (V.own 0 (p.2.2).length)), (13, (bV (decide (((l9.length : Nat) : Int) > 0)))), (34, (V.con undef))], [(0, (Ob.arr 94 4 ((p.2.2).map encTFunc)))], 1⟩ : St)) (fun k57 p => k57 p.1 p.2.1 p.2.2 = some r) (fun k57 h => ?_) ?_
   ·refine rn 2 rfl ?_
    refine bs h (fun hb61 h => ?_) (fun hb61 h => ?_)
    ·refine dr mixed (vs 1 rfl (nD rfl rfl rfl (vs 1 rfl (vb hb61 rfl (vs 16 rfl .nil))))) (by kernel_rfl) ?_
     obtain ⟨x62, hx63, h⟩ := bind_some h
     refine rn 1 rfl ?_
     refine ck h (fun hc64 h => ?_)
     refine ck h (fun hc65 h => ?_)
     refine awp_ghost ghost_res ?_
     refine fa ?_
     refine dr mixed (vs 2 rfl (iD hx63 rfl rfl rfl (vs 1 rfl (xD (OD.mk [(40, (V.agg (encTFunc x62)))] [] [(41, (V.lst 4 (([x62] : List TFunc).map encTFunc)))] []) ⟨⟨rfl, trivial⟩, trivial⟩ (by exact fun S hn h hh => aops_buildSlice_imm [(0, (V.agg (encTFunc x62)))] [(encTFunc x62)] tEl24 tZ94 wants_none rfl rfl rfl rfl (evp_cons h.1 evp_nil) rfl rfl (by simp) (imms_rows (.cons (imms_encTFunc _) .nil)) rfl (aops_nil ⟨rfl, rfl⟩)) rfl (xD (OD.mk [(37, (V.own 0 l10.length)), (41, (V.lst 4 (([x62] : List TFunc).map encTFunc)))] [(0, (Ob.arr 94 4 (l10.map encTFunc))), (1, Ob.res)] [(42, (V.own 1 (l10 ++ ([x62] : List TFunc)).length))] [(1, (Ob.arr 94 4 ((l10 ++ ([x62] : List TFunc)).map encTFunc))), (0, Ob.dead)]) ⟨⟨rfl, rfl, trivial⟩, ⟨rfl, rfl, trivial⟩⟩ (by exact fun S hn h hh => aops_append_at 1 rfl hn hh.2.1 (([x62] : List TFunc).map encTFunc) ((l10 ++ ([x62] : List TFunc)).map encTFunc) tEl24 tIsSl24 rfl rfl wants_none h.1 hh.1 (by simp) h.2.1 (.lst (rows_one one_encTFunc)) (map_snoc encTFunc l10 ([x62] : List TFunc)) (List.length_map ..) hc64 rfl (aops_nil ⟨rfl, rfl⟩)) rfl (vs 1 rfl (xD (OD.mk [(43, (V.lst 4 (l8.map encTFunc)))] [] [(44, (V.lst 4 ((l8.drop 1).map encTFunc)))] []) ⟨⟨rfl, trivial⟩, trivial⟩ (by exact fun S hn h hh => aops_slice_lst (1) (l8.length) ((l8.drop 1).map encTFunc) tSl24 wants_none h.1 ⟨_, rfl⟩ (List.length_map ..).symm hc65 (Nat.le_of_eq (List.length_map ..).symm) slL_hi rfl (aops_nil ⟨rfl, rfl⟩)) rfl (vs 2 rfl .nil)))))))) (by kernel_rfl) ?_
     refine rn 1 rfl ?_
     exact jX ((l8.drop 1), l9, (l10 ++ ([x62] : List TFunc))) h (gr [1] rfl (hR rfl rfl .nil) rfl)
    refine dr mixed (vs 1 rfl (nD rfl rfl rfl (vs 1 rfl (vb hb61 rfl (vs 1 rfl (nD rfl rfl rfl (vs 1 rfl (vb hb11 rfl (vs 12 rfl .nil))))))))) (by kernel_rfl) ?_
    refine rn 2 rfl ?_
    refine bs h (fun hb66 h => ?_) (fun hb66 h => ?_)
    ·refine dr mixed (vs 1 rfl (nD rfl rfl rfl (vs 1 rfl (vb hb66 rfl (vs 11 rfl .nil))))) (by kernel_rfl) ?_
     obtain ⟨x67, hx68, h⟩ := bind_some h
     refine rn 1 rfl ?_
     refine ck h (fun hc69 h => ?_)
     refine ck h (fun hc70 h => ?_)
     refine awp_ghost ghost_res ?_
     refine fa ?_
     refine dr mixed (vs 2 rfl (iD hx68 rfl rfl rfl (vs 1 rfl (xD (OD.mk [(63, (V.agg (encTFunc x67)))] [] [(64, (V.lst 4 (([x67] : List TFunc).map encTFunc)))] []) ⟨⟨rfl, trivial⟩, trivial⟩ (by exact fun S hn h hh => aops_buildSlice_imm [(0, (V.agg (encTFunc x67)))] [(encTFunc x67)] tEl24 tZ94 wants_none rfl rfl rfl rfl (evp_cons h.1 evp_nil) rfl rfl (by simp) (imms_rows (.cons (imms_encTFunc _) .nil)) rfl (aops_nil ⟨rfl, rfl⟩)) rfl (xD (OD.mk [(60, (V.own 0 l10.length)), (64, (V.lst 4 (([x67] : List TFunc).map encTFunc)))] [(0, (Ob.arr 94 4 (l10.map encTFunc))), (1, Ob.res)] [(65, (V.own 1 (l10 ++ ([x67] : List TFunc)).length))] [(1, (Ob.arr 94 4 ((l10 ++ ([x67] : List TFunc)).map encTFunc))), (0, Ob.dead)]) ⟨⟨rfl, rfl, trivial⟩, ⟨rfl, rfl, trivial⟩⟩ (by exact fun S hn h hh => aops_append_at 1 rfl hn hh.2.1 (([x67] : List TFunc).map encTFunc) ((l10 ++ ([x67] : List TFunc)).map encTFunc) tEl24 tIsSl24 rfl rfl wants_none h.1 hh.1 (by simp) h.2.1 (.lst (rows_one one_encTFunc)) (map_snoc encTFunc l10 ([x67] : List TFunc)) (List.length_map ..) hc69 rfl (aops_nil ⟨rfl, rfl⟩)) rfl (vs 1 rfl (xD (OD.mk [(66, (V.lst 4 (l9.map encTFunc)))] [] [(67, (V.lst 4 ((l9.drop 1).map encTFunc)))] []) ⟨⟨rfl, trivial⟩, trivial⟩ (by exact fun S hn h hh => aops_slice_lst (1) (l9.length) ((l9.drop 1).map encTFunc) tSl24 wants_none h.1 ⟨_, rfl⟩ (List.length_map ..).symm hc70 (Nat.le_of_eq (List.length_map ..).symm) slL_hi rfl (aops_nil ⟨rfl, rfl⟩)) rfl (vs 2 rfl .nil)))))))) (by kernel_rfl) ?_
     refine rn 1 rfl ?_
     exact jX (l8, (l9.drop 1), (l10 ++ ([x67] : List TFunc))) h (gr [1] rfl (hR rfl rfl .nil) rfl)
    obtain ⟨x71, hx72, h⟩ := bind_some h
    obtain ⟨x73, hx74, h⟩ := bind_some h
    refine dr mixed (vs 1 rfl (nD rfl rfl rfl (vs 1 rfl (vb hb66 rfl (vs 1 rfl (iD hx72 rfl rfl rfl (vs 3 rfl (iD hx74 rfl rfl rfl (vs 5 rfl .nil))))))))) (by kernel_rfl) ?_
    refine jK h (fun (p : (List TFunc)) => (⟨[(0, (V.lst 4 (l8.map encTFunc))), (1, (V.lst 4 ((l9.drop 1).map encTFunc))), (6, (V.own 0 p.length)), (13, (bV (decide (((l9.length : Nat) : Int) > 0)))), (34, (V.con undef)), (35, (bV false)), (58, (bV (!(Op.bytesLess x71.Name x73.Name || x71.Name == x73.Name))))], [(0, (Ob.arr 94 4 (p.map encTFunc)))], 1⟩ : St)) (fun k75 p => k75 p = some r) (fun k75 h => ?_) ?_
    ·refine spC h rfl (fun hb77 h => ?_) (fun hb77 h => ?_)
     ·obtain ⟨x78, hx79, h⟩ := bind_some h
      refine ck h (fun hc80 h => ?_)
      refine ck h (fun hc81 h => ?_)
      refine awp_ghost ghost_res ?_
      refine fa ?_
      refine dr mixed (vs 2 rfl (iD hx79 rfl rfl rfl (vs 1 rfl (xD (OD.mk [(63, (V.agg (encTFunc x78)))] [] [(64, (V.lst 4 (([x78] : List TFunc).map encTFunc)))] []) ⟨⟨rfl, trivial⟩, trivial⟩ (by exact fun S hn h hh => aops_buildSlice_imm [(0, (V.agg (encTFunc x78)))] [(encTFunc x78)] tEl24 tZ94 wants_none rfl rfl rfl rfl (evp_cons h.1 evp_nil) rfl rfl (by simp) (imms_rows (.cons (imms_encTFunc _) .nil)) rfl (aops_nil ⟨rfl, rfl⟩)) rfl (xD (OD.mk [(60, (V.own 0 l10.length)), (64, (V.lst 4 (([x78] : List TFunc).map encTFunc)))] [(0, (Ob.arr 94 4 (l10.map encTFunc))), (1, Ob.res)] [(65, (V.own 1 (l10 ++ ([x78] : List TFunc)).length))] [(1, (Ob.arr 94 4 ((l10 ++ ([x78] : List TFunc)).map encTFunc))), (0, Ob.dead)]) ⟨⟨rfl, rfl, trivial⟩, ⟨rfl, rfl, trivial⟩⟩ (by exact fun S hn h hh => aops_append_at 1 rfl hn hh.2.1 (([x78] : List TFunc).map encTFunc) ((l10 ++ ([x78] : List TFunc)).map encTFunc) tEl24 tIsSl24 rfl rfl wants_none h.1 hh.1 (by simp) h.2.1 (.lst (rows_one one_encTFunc)) (map_snoc encTFunc l10 ([x78] : List TFunc)) (List.length_map ..) hc80 rfl (aops_nil ⟨rfl, rfl⟩)) rfl (vs 1 rfl (xD (OD.mk [(66, (V.lst 4 (l9.map encTFunc)))] [] [(67, (V.lst 4 ((l9.drop 1).map encTFunc)))] []) ⟨⟨rfl, trivial⟩, trivial⟩ (by exact fun S hn h hh => aops_slice_lst (1) (l9.length) ((l9.drop 1).map encTFunc) tSl24 wants_none h.1 ⟨_, rfl⟩ (List.length_map ..).symm hc81 (Nat.le_of_eq (List.length_map ..).symm) slL_hi rfl (aops_nil ⟨rfl, rfl⟩)) rfl (vs 2 rfl .nil)))))))) (by kernel_rfl) ?_
      exact jX (l10 ++ ([x78] : List TFunc)) h (gr [1] rfl (hR rfl rfl .nil) rfl)
     obtain ⟨x82, hx83, h⟩ := bind_some h
     obtain ⟨x84, hx85, h⟩ := bind_some h
     obtain ⟨y86, hx87, h⟩ := bind_some h
     refine rn 1 rfl ?_
     refine dr mixed (vs 1 rfl (iD hx83 rfl rfl rfl (vs 2 rfl (iD hx85 rfl rfl rfl (vs 1 rfl (cD rfl rfl rfl rfl (W142 _ _ _ _ hx87) rfl (vs 2 rfl .nil))))))) (by kernel_rfl) ?_
     refine spC h rfl (fun hb88 h => ?_) (fun hb88 h => ?_)
     ·refine rn 5 rfl ?_
      exact rt h rfl
     refine rn 2 rfl ?_
     refine ck h (fun hc89 h => ?_)
     refine aops_slice_lst (1) (l9.length) ((l9.drop 1).map encTFunc) tSl24 wants_none rfl ⟨_, rfl⟩ (List.length_map ..).symm hc89 (Nat.le_of_eq (List.length_map ..).symm) slL_hi rfl ?_
     refine fo (rn 2 rfl ?_)
     exact jX l10 h (gr [0] rfl (hR rfl rfl .nil) rfl)
    intro l76 h
    refine rn 1 rfl ?_
    exact jX (l8, (l9.drop 1), l76) h (gr [0] rfl (hR rfl rfl .nil) rfl)
   rintro ⟨l58, l59, l60⟩ h
   refine rn 1 rfl ?_
   exact jX (l58, l59, l60) h (gr [0] rfl (hR rfl rfl .nil) rfl)
  refine rn 1 rfl ?_
  exact jX l10 h (gr [0] rfl (hR rfl rfl .nil) rfl)
 intro l4 h
 refine rn 6 rfl ?_
 refine awp_ghost (ghost_frzEs 0 [4, 6, 77] rfl (rows_imm imms_encTFunc) (List.forall_mem_cons.2 ⟨rfl, (List.forall_mem_cons.2 ⟨rfl, (List.forall_mem_cons.2 ⟨rfl, (fun _ hx => nomatch hx)⟩)⟩)⟩) (List.length_map ..).symm) ?_
 refine fa ?_
 exact rt h rfl
end Go.Proofs.YtpbkggamiipdmaaGreat
