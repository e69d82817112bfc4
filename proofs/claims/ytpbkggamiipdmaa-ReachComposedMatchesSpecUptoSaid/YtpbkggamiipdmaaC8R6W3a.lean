/- Part of the proof: R6W3a. -/
import Derived.Test.YtpbkggamiipdmaaC8R6Ord
import Derived.KernelRfl
namespace Go.Proofs.Ytpbkggamiipdmaa
open Go Go.Pv
set_option linter.unusedVariables false
set_option maxRecDepth 100000
theorem W77 (F : Nat) (a1 : TGraph) (a2 : Bool) (r : Treach_checker) (h : M77 F a1 a2 = some r) : Pure Try.prog 77 [(V.agg (encTGraph a1)), (bV a2)] (V.agg (encTreach_checker r)) := by
 refine pin (fun r => (V.agg (encTreach_checker r))) r rfl Try.func77 rfl rfl rfl rfl rfl (fun w0 m0 hg => ?_)
 unfold M77 at h
 refine rn 20 rfl ?_
 refine ln rfl rfl ?_
 refine rn 2 rfl ?_
 refine jK h (fun (p : (List ((List UInt8) × TIface))) => (⟨[(2, (V.ptr 0 4 0 0)), (4, (V.ptr 1 4 0 0)), (5, (V.ptr 2 4 0 0))], [(0, (Ob.arr 27 4 [(encTGraph a1)])), (1, (Ob.arr 160 4 [[(bV false), (V.con (.map none)), (V.con (.map none)), (V.con (.map none))]])), (2, (Ob.arr 160 4 [[(bV a2), (V.map 3), (V.map 4), (V.map 5)]])), (3, (Ob.map (p.map encM9_101))), (4, (Ob.map (([] : List ((List UInt8) × Bool)).map encM9_4))), (5, (Ob.map (([] : List ((List UInt8) × Bool)).map encM9_4)))], 6⟩ : St)) (fun k3 p => k3 p = some r) (fun k3 h => ?_) ?_
 ·refine rn 1 rfl ?_
  refine wl (A := a1.Ifaces) 18 rfl (fun hA12 => ?_)
  refine lC (fun (p : Int × (List ((List UInt8) × TIface))) => (⟨[(2, (V.ptr 0 4 0 0)), (4, (V.ptr 1 4 0 0)), (5, (V.ptr 2 4 0 0)), (18, (V.lst 2 (a1.Ifaces.map encTIface))), (19, (iV ((a1.Ifaces.length : Nat) : Int))), (20, (iV (p.1)))], [(0, (Ob.arr 27 4 [(encTGraph a1)])), (1, (Ob.arr 160 4 [[(bV false), (V.con (.map none)), (V.con (.map none)), (V.con (.map none))]])), (2, (Ob.arr 160 4 [[(bV a2), (V.map 3), (V.map 4), (V.map 5)]])), (3, (Ob.map ((p.2).map encM9_101))), (4, (Ob.map (([] : List ((List UInt8) × Bool)).map encM9_4))), (5, (Ob.map (([] : List ((List UInt8) × Bool)).map encM9_4)))], 6⟩ : St)) (fun n p => RG a1.Ifaces (fun tl nn => M77_L1 F k3 tl p.2 = some r) n p.1) (fun p h => RG.zero h) (a1.Ifaces.length + 1) (0, ([] : List ((List UInt8) × TIface))) (RG.start h) (gr [0, 1, 5, 2, 3, 4] rfl (hB rfl rfl rfl (hB rfl rfl rfl (hB rfl rfl rfl (hM rfl rfl (hM rfl rfl (hM rfl rfl .nil)))))) rfl) (fun n p h => ?_)
  obtain ⟨n7, m8⟩ := p
  refine rn 5 rfl ?_
  refine spL rfl (fun hb9 => ?_) (fun hb9 => ?_)
  ·obtain ⟨x10, tl, hx11, h, hk1⟩ := RG.t hA12 h hb9
   unfold M77_L1 at h
   refine rn 5 rfl ?_
   refine ixh hx11 rfl rfl ?_
   refine rn 10 rfl ?_
   refine aops_mapUpdate (es := m8.map encM9_101) ((mput m8 x10.Name x10).map encM9_101) tMap158 tKey9 wants_none rfl rfl (.con rfl) ⟨_, rfl⟩ encM9_101_good rfl (encM9_101_puts m8 x10.Name x10) ?_
   refine fo (rn 6 rfl ?_)
   exact jX ((w64 (n7 + 1)), (mput m8 x10.Name x10)) (hk1 _ h) (gr [0, 1, 2, 3, 4, 5] rfl (hB rfl rfl rfl (hB rfl rfl rfl (hB rfl rfl rfl (hM rfl rfl (hM rfl rfl (hM rfl rfl .nil)))))) rfl)
  replace h := RG.f h hb9
  unfold M77_L1 at h
  refine rn 1 rfl ?_
  exact jX m8 h (gr [0, 1, 2, 3, 4, 5] rfl (hB rfl rfl rfl (hB rfl rfl rfl (hB rfl rfl rfl (hM rfl rfl (hM rfl rfl (hM rfl rfl .nil)))))) rfl)
 intro m4 h
 refine rn 5 rfl ?_
 refine ln rfl rfl ?_
 refine rn 2 rfl ?_
 refine jK h (fun (p : (List ((List UInt8) × Bool))) => (⟨[(2, (V.ptr 0 4 0 0)), (4, (V.ptr 1 4 0 0)), (5, (V.ptr 2 4 0 0))], [(0, (Ob.arr 27 4 [(encTGraph a1)])), (1, (Ob.arr 160 4 [[(bV false), (V.con (.map none)), (V.con (.map none)), (V.con (.map none))]])), (2, (Ob.arr 160 4 [[(bV a2), (V.map 3), (V.map 4), (V.map 5)]])), (3, (Ob.map (m4.map encM9_101))), (4, (Ob.map (p.map encM9_4))), (5, (Ob.map (([] : List ((List UInt8) × Bool)).map encM9_4)))], 6⟩ : St)) (fun k13 p => k13 p = some r) (fun k13 h => ?_) ?_
 ·refine rn 1 rfl ?_
  refine wl (A := a1.Types) 31 rfl (fun hA22 => ?_)
  refine lC (fun (p : Int × (List ((List UInt8) × Bool))) => (⟨[(2, (V.ptr 0 4 0 0)), (4, (V.ptr 1 4 0 0)), (5, (V.ptr 2 4 0 0)), (31, (V.lst 2 (a1.Types.map encTType))), (32, (iV ((a1.Types.length : Nat) : Int))), (33, (iV (p.1)))], [(0, (Ob.arr 27 4 [(encTGraph a1)])), (1, (Ob.arr 160 4 [[(bV false), (V.con (.map none)), (V.con (.map none)), (V.con (.map none))]])), (2, (Ob.arr 160 4 [[(bV a2), (V.map 3), (V.map 4), (V.map 5)]])), (3, (Ob.map (m4.map encM9_101))), (4, (Ob.map ((p.2).map encM9_4))), (5, (Ob.map (([] : List ((List UInt8) × Bool)).map encM9_4)))], 6⟩ : St)) (fun n p => RG a1.Types (fun tl nn => M77_L2 F k13 tl p.2 = some r) n p.1) (fun p h => RG.zero h) (a1.Types.length + 1) (0, ([] : List ((List UInt8) × Bool))) (RG.start h) (gr [0, 1, 2, 3, 4, 5] rfl (hB rfl rfl rfl (hB rfl rfl rfl (hB rfl rfl rfl (hM rfl rfl (hM rfl rfl (hM rfl rfl .nil)))))) rfl) (fun n p h => ?_)
  obtain ⟨n17, m18⟩ := p
  refine rn 5 rfl ?_
  refine spL rfl (fun hb19 => ?_) (fun hb19 => ?_)
  ·obtain ⟨x20, tl, hx21, h, hk2⟩ := RG.t hA22 h hb19
   unfold M77_L2 at h
   refine rn 5 rfl ?_
   refine ixh hx21 rfl rfl ?_
   refine rn 9 rfl ?_
   refine aops_mapUpdate (es := m18.map encM9_4) ((mput m18 x20.Name true).map encM9_4) tMap72 tKey9 wants_none rfl rfl (.con rfl) ⟨_, rfl⟩ encM9_4_good rfl (encM9_4_puts m18 x20.Name true) ?_
   refine fo (rn 6 rfl ?_)
   exact jX ((w64 (n17 + 1)), (mput m18 x20.Name true)) (hk2 _ h) (gr [0, 1, 2, 3, 4, 5] rfl (hB rfl rfl rfl (hB rfl rfl rfl (hB rfl rfl rfl (hM rfl rfl (hM rfl rfl (hM rfl rfl .nil)))))) rfl)
  replace h := RG.f h hb19
  unfold M77_L2 at h
  refine rn 1 rfl ?_
  exact jX m18 h (gr [0, 1, 2, 3, 4, 5] rfl (hB rfl rfl rfl (hB rfl rfl rfl (hB rfl rfl rfl (hM rfl rfl (hM rfl rfl (hM rfl rfl .nil)))))) rfl)
 intro m14 h
 refine rn 5 rfl ?_
 refine ln rfl rfl ?_
 refine rn 2 rfl ?_
 refine jK h (fun (p : (List ((List UInt8) × Bool))) => (⟨[(4, (V.ptr 0 4 0 0)), (5, (V.ptr 1 4 0 0))], [(0, (Ob.arr 160 4 [[(bV false), (V.con (.map none)), (V.con (.map none)), (V.con (.map none))]])), (1, (Ob.arr 160 4 [[(bV a2), (V.map 2), (V.map 3), (V.map 4)]])), (2, (Ob.map (m4.map encM9_101))), (3, (Ob.map (m14.map encM9_4))), (4, (Ob.map (p.map encM9_4)))], 5⟩ : St)) (fun k23 p => k23 p = some r) (fun k23 h => ?_) ?_
 ·refine rn 1 rfl ?_
  refine wl (A := a1.Funcs) 43 rfl (fun hA32 => ?_)
  refine lC (fun (p : Int × (List ((List UInt8) × Bool))) => (⟨[(4, (V.ptr 0 4 0 0)), (5, (V.ptr 1 4 0 0)), (43, (V.lst 4 (a1.Funcs.map encTFunc))), (44, (iV ((a1.Funcs.length : Nat) : Int))), (45, (iV (p.1)))], [(0, (Ob.arr 160 4 [[(bV false), (V.con (.map none)), (V.con (.map none)), (V.con (.map none))]])), (1, (Ob.arr 160 4 [[(bV a2), (V.map 2), (V.map 3), (V.map 4)]])), (2, (Ob.map (m4.map encM9_101))), (3, (Ob.map (m14.map encM9_4))), (4, (Ob.map ((p.2).map encM9_4)))], 5⟩ : St)) (fun n p => RG a1.Funcs (fun tl nn => M77_L3 F k23 tl p.2 = some r) n p.1) (fun p h => RG.zero h) (a1.Funcs.length + 1) (0, ([] : List ((List UInt8) × Bool))) (RG.start h) (gr [1, 2, 3, 4, 5] rfl (hB rfl rfl rfl (hB rfl rfl rfl (hM rfl rfl (hM rfl rfl (hM rfl rfl .nil))))) rfl) (fun n p h => ?_)
  obtain ⟨n27, m28⟩ := p
  refine rn 5 rfl ?_
  refine spL rfl (fun hb29 => ?_) (fun hb29 => ?_)
  ·obtain ⟨x30, tl, hx31, h, hk3⟩ := RG.t hA32 h hb29
   unfold M77_L3 at h
   refine rn 5 rfl ?_
   refine ixh hx31 rfl rfl ?_
   refine rn 9 rfl ?_
   refine aops_mapUpdate (es := m28.map encM9_4) ((mput m28 x30.Name true).map encM9_4) tMap72 tKey9 wants_none rfl rfl (.con rfl) ⟨_, rfl⟩ encM9_4_good rfl (encM9_4_puts m28 x30.Name true) ?_
   refine fo (rn 6 rfl ?_)
   exact jX ((w64 (n27 + 1)), (mput m28 x30.Name true)) (hk3 _ h) (gr [0, 1, 2, 3, 4] rfl (hB rfl rfl rfl (hB rfl rfl rfl (hM rfl rfl (hM rfl rfl (hM rfl rfl .nil))))) rfl)
  replace h := RG.f h hb29
  unfold M77_L3 at h
  refine rn 1 rfl ?_
  exact jX m28 h (gr [0, 1, 2, 3, 4] rfl (hB rfl rfl rfl (hB rfl rfl rfl (hM rfl rfl (hM rfl rfl (hM rfl rfl .nil))))) rfl)
 intro m24 h
 refine rn 5 rfl ?_
 refine awp_ghost (ghost_frzMC 2 0 (Ob.arr 160 4 [[(bV a2), (V.imap (m4.map encM9_101)), (V.map 3), (V.map 4)]]) rfl encM9_101_imm (ObSub.box (.cons Sub.keepM (.cons Sub.frzM (.cons Sub.keepM (.cons Sub.keepM .nil)))))) ?_
 refine awp_ghost (ghost_frzMC 3 0 (Ob.arr 160 4 [[(bV a2), (V.imap (m4.map encM9_101)), (V.imap (m14.map encM9_4)), (V.map 4)]]) rfl encM9_4_imm (ObSub.box (.cons Sub.keepM (.cons Sub.keepM (.cons Sub.frzM (.cons Sub.keepM .nil)))))) ?_
 refine awp_ghost (ghost_frzMC 4 0 (Ob.arr 160 4 [[(bV a2), (V.imap (m4.map encM9_101)), (V.imap (m14.map encM9_4)), (V.imap (m24.map encM9_4))]]) rfl encM9_4_imm (ObSub.box (.cons Sub.keepM (.cons Sub.keepM (.cons Sub.keepM (.cons Sub.frzM .nil)))))) ?_
 refine fa ?_
 exact rt h rfl
theorem W120 (F : Nat) (a1 : (List UInt8)) (r : Bool) (h : M120 F a1 = some r) : Pure Try.prog 120 [(sV a1)] (bV r) := by
 refine pin (fun r => (bV r)) r rfl Try.func120 rfl rfl rfl rfl rfl (fun w0 m0 hg => ?_)
 unfold M120 at h
 refine rn 11 rfl ?_
 refine jK h (fun _ : Unit => (⟨[(0, (sV a1))], [], 0⟩ : St)) (fun k2 (_ : Unit) => k2 = some r) (fun k2 h => ?_) ?_
 ·refine rn 1 rfl ?_
  refine ck h (fun hA15 h => ?_)
  refine lC (fun (p : Int) => (⟨[(0, (sV a1)), (5, (iV (a1.length : Int))), (6, (iV p))], [], 0⟩ : St)) (fun n p => RC (a1.length : Int) (fun tl nn => M120_L1 F a1 k2 tl nn = some r) n p) (fun p h => RC.zero h) (Int.toNat (a1.length : Int) + 1) 0 (RC.start h) (g0 rfl rfl) (fun n n4 h => ?_)
  refine rn 5 rfl ?_
  refine spL rfl (fun hb5 => ?_) (fun hb5 => ?_)
  ·obtain ⟨tl, h, hk1⟩ := RC.t hA15 h hb5
   unfold M120_L1 at h
   refine rn 12 rfl ?_
   refine ixs h rfl rfl (fun c6 hx7 h => ?_)
   refine rn 2 rfl ?_
   refine spO 13 h rfl (fun hb8 h => ?_) (fun hb8 h => ?_)
   ·refine rn 17 rfl ?_
    exact rt h rfl
   refine rn 2 rfl ?_
   refine ixs h rfl rfl (fun c9 hx10 h => ?_)
   refine rn 3 rfl ?_
   refine spO 19 h rfl (fun hb11 h => ?_) (fun hb11 h => ?_)
   ·refine rn 11 rfl ?_
    exact rt h rfl
   refine rn 2 rfl ?_
   refine ixs h rfl rfl (fun c12 hx13 h => ?_)
   refine rn 3 rfl ?_
   refine spC h rfl (fun hb14 h => ?_) (fun hb14 h => ?_)
   ·refine rn 4 rfl ?_
    exact rt h rfl
   refine rn 6 rfl ?_
   exact jX (w64 (n4 + 1)) (hk1 _ h) (g0 rfl rfl)
  replace h := RC.f h hb5
  unfold M120_L1 at h
  refine rn 1 rfl ?_
  exact jX () h (g0 rfl rfl)
 intro _ h
 refine rn 5 rfl ?_
 refine spO 28 h rfl (fun hb16 h => ?_) (fun hb16 h => ?_)
 ·refine rn 6 rfl ?_
  exact rt h rfl
 refine rn 6 rfl ?_
 exact rt h rfl
theorem W93 (F : Nat) (a1 : (List UInt8)) (a2 : (List UInt8)) (a3 : Bool) (r : Int) (h : M93 F a1 a2 a3 = some r) : Pure Try.prog 93 [(sV a1), (sV a2), (bV a3)] (iV r) := by
 refine pin (fun r => (iV r)) r rfl Try.func93 rfl rfl rfl rfl rfl (fun w0 m0 hg => ?_)
 unfold M93 at h
 refine rn 9 rfl ?_
 refine cl h rfl rfl rfl (W120 _ _) rfl (fun y4 hx5 h => ?_)
 refine rn 3 rfl ?_
 refine jK h (fun _ : Unit => (⟨[], [], 0⟩ : St)) (fun k6 (_ : Unit) => k6 = some r) (fun k6 h => ?_) ?_
 ·refine spC h rfl (fun hb7 h => ?_) (fun hb7 h => ?_)
  ·refine rn 4 rfl ?_
   exact rt h rfl
  refine rn 5 rfl ?_
  refine spO 14 h rfl (fun hb8 h => ?_) (fun hb8 h => ?_)
  ·refine rn 6 rfl ?_
   refine spC h rfl (fun hb9 h => ?_) (fun hb9 h => ?_)
   ·refine rn 4 rfl ?_
    exact rt h rfl
   refine rn 1 rfl ?_
   exact jX () h (g0 rfl rfl)
  refine rn 8 rfl ?_
  exact jX () h (g0 rfl rfl)
 intro _ h
 refine rn 5 rfl ?_
 exact rt h rfl
theorem W105 (F : Nat) (a1 : Treach_checker) (a2 : (List TIface)) (r : Int) (h : M105 F a1 a2 = some r) : Pure Try.prog 105 [(V.agg (encTreach_checker a1)), (V.lst 2 (a2.map encTIface))] (iV r) := by
 refine pin (fun r => (iV r)) r rfl Try.func105 rfl rfl rfl rfl rfl (fun w0 m0 hg => ?_)
 unfold M105 at h
 refine rn 13 rfl ?_
 refine ln rfl rfl ?_
 refine rn 2 rfl ?_
 refine jK h (fun _ : Unit => (⟨[], [], 0⟩ : St)) (fun k3 (_ : Unit) => k3 = some r) (fun k3 h => ?_) ?_
 ·refine rn 1 rfl ?_
  refine wl (A := a2) 1 rfl (fun hA30 => ?_)
  refine lC (fun (p : (List UInt8) × Int) => (⟨[(5, (sV (p.1))), (13, (V.lst 2 (a2.map encTIface))), (14, (iV ((a2.length : Nat) : Int))), (15, (iV (p.2)))], [], 0⟩ : St)) (fun n p => RG a2 (fun tl nn => M105_L1 F k3 tl nn p.1 = some r) n p.2) (fun p h => RG.zero h) (a2.length + 1) (([] : List UInt8), 0) (RG.start h) (g0 rfl rfl) (fun n p h => ?_)
  obtain ⟨s6, n7⟩ := p
  refine rn 5 rfl ?_
  refine spL rfl (fun hb8 => ?_) (fun hb8 => ?_)
  ·obtain ⟨x11, tl, hx12, h, hk1⟩ := RG.t hA30 h hb8
   unfold M105_L1 at h
   refine rn 2 rfl ?_
   refine jK h (fun (p : (List UInt8)) => (⟨[(5, (sV p)), (13, (V.lst 2 (a2.map encTIface))), (14, (iV ((a2.length : Nat) : Int))), (15, (iV n7))], [], 0⟩ : St)) (fun k9 p => k9 p = some r) (fun k9 h => ?_) ?_
   ·refine rn 4 rfl ?_
    refine ixh hx12 rfl rfl ?_
    refine rn 13 rfl ?_
    refine cl h rfl rfl rfl (W93 _ _ _ _) rfl (fun y13 hx14 h => ?_)
    refine rn 7 rfl ?_
    refine spC h rfl (fun hb15 h => ?_) (fun hb15 h => ?_)
    ·refine rn 5 rfl ?_
     exact rt h rfl
    refine rn 13 rfl ?_
    refine ln rfl rfl ?_
    refine rn 3 rfl ?_
    refine spC h rfl (fun hb16 h => ?_) (fun hb16 h => ?_)
    ·refine rn 4 rfl ?_
     exact rt h rfl
    refine rn 4 rfl ?_
    refine ln rfl rfl ?_
    refine rn 3 rfl ?_
    refine spC h rfl (fun hb17 h => ?_) (fun hb17 h => ?_)
    ·refine rn 4 rfl ?_
     exact rt h rfl
    refine rn 10 rfl ?_
    refine ln rfl rfl ?_
    refine rn 2 rfl ?_
    refine jK h (fun _ : Unit => (⟨[(5, (sV x11.Name)), (13, (V.lst 2 (a2.map encTIface))), (14, (iV ((a2.length : Nat) : Int))), (15, (iV n7))], [], 0⟩ : St)) (fun k18 (_ : Unit) => k18 = some r) (fun k18 h => ?_) ?_
    ·refine rn 1 rfl ?_
     refine wl (A := x11.Methods) 33 rfl (fun hA29 => ?_)
     refine lC (fun (p : (List UInt8) × Int) => (⟨[(5, (sV x11.Name)), (9, (sV (p.1))), (13, (V.lst 2 (a2.map encTIface))), (14, (iV ((a2.length : Nat) : Int))), (15, (iV n7)), (42, (V.lst 1 (x11.Methods.map encS))), (43, (iV ((x11.Methods.length : Nat) : Int))), (44, (iV (p.2)))], [], 0⟩ : St)) (fun n p => RG x11.Methods (fun tl nn => M105_L2 F k18 tl nn p.1 = some r) n p.2) (fun p h => RG.zero h) (x11.Methods.length + 1) (([] : List UInt8), 0) (RG.start h) (g0 rfl rfl) (fun n p h => ?_)
     obtain ⟨s21, n22⟩ := p
     refine rn 5 rfl ?_
     refine spL rfl (fun hb23 => ?_) (fun hb23 => ?_)
     ·obtain ⟨x24, tl, hx25, h, hk2⟩ := RG.t hA29 h hb23
      unfold M105_L2 at h
      refine rn 6 rfl ?_
      refine ixh hx25 rfl rfl ?_
      refine rn 11 rfl ?_
      refine cl h rfl rfl rfl (W93 _ _ _ _) rfl (fun y26 hx27 h => ?_)
      refine rn 7 rfl ?_
      refine spC h rfl (fun hb28 h => ?_) (fun hb28 h => ?_)
      ·refine rn 5 rfl ?_
       exact rt h rfl
      refine rn 10 rfl ?_
      exact jX (x24, (w64 (n22 + 1))) (hk2 _ h) (g0 rfl rfl)
     replace h := RG.f h hb23
     unfold M105_L2 at h
     refine rn 1 rfl ?_
     exact jX () h (g0 rfl rfl)
    intro _ h
    refine rn 1 rfl ?_
    exact jX x11.Name h (g0 rfl rfl)
   intro s10 h
   refine rn 4 rfl ?_
   exact jX (s10, (w64 (n7 + 1))) (hk1 _ h) (g0 rfl rfl)
  replace h := RG.f h hb8
  unfold M105_L1 at h
  refine rn 1 rfl ?_
  exact jX () h (g0 rfl rfl)
 intro _ h
 refine rn 4 rfl ?_
 exact rt h rfl
theorem W106 (F : Nat) (a1 : Treach_checker) (a2 : (List TType)) (r : Int) (h : M106 F a1 a2 = some r) : Pure Try.prog 106 [(V.agg (encTreach_checker a1)), (V.lst 2 (a2.map encTType))] (iV r) := by
 refine pin (fun r => (iV r)) r rfl Try.func106 rfl rfl rfl rfl rfl (fun w0 m0 hg => ?_)
 unfold M106 at h
 refine rn 13 rfl ?_
 refine ln rfl rfl ?_
 refine rn 2 rfl ?_
 refine jK h (fun _ : Unit => (⟨[], [], 0⟩ : St)) (fun k3 (_ : Unit) => k3 = some r) (fun k3 h => ?_) ?_
 ·refine rn 1 rfl ?_
  refine wl (A := a2) 1 rfl (fun hA33 => ?_)
  refine lC (fun (p : (List UInt8) × Int) => (⟨[(2, (V.ptr 0 4 0 0)), (5, (sV (p.1))), (13, (V.lst 2 (a2.map encTType))), (14, (iV ((a2.length : Nat) : Int))), (15, (iV (p.2)))], [(0, (Ob.arr 160 4 [(encTreach_checker a1)]))], 1⟩ : St)) (fun n p => RG a2 (fun tl nn => M106_L1 F a1 k3 tl nn p.1 = some r) n p.2) (fun p h => RG.zero h) (a2.length + 1) (([] : List UInt8), 0) (RG.start h) (gr [0] rfl (hB rfl rfl rfl .nil) rfl) (fun n p h => ?_)
  obtain ⟨s6, n7⟩ := p
  refine rn 5 rfl ?_
  refine spL rfl (fun hb8 => ?_) (fun hb8 => ?_)
  ·obtain ⟨x11, tl, hx12, h, hk1⟩ := RG.t hA33 h hb8
   unfold M106_L1 at h
   refine rn 2 rfl ?_
   refine jK h (fun (p : (List UInt8)) => (⟨[(2, (V.ptr 0 4 0 0)), (5, (sV p)), (13, (V.lst 2 (a2.map encTType))), (14, (iV ((a2.length : Nat) : Int))), (15, (iV n7))], [(0, (Ob.arr 160 4 [(encTreach_checker a1)]))], 1⟩ : St)) (fun k9 p => k9 p = some r) (fun k9 h => ?_) ?_
   ·refine rn 4 rfl ?_
    refine ixh hx12 rfl rfl ?_
    refine rn 13 rfl ?_
    refine cl h rfl rfl rfl (W93 _ _ _ _) rfl (fun y13 hx14 h => ?_)
    refine rn 7 rfl ?_
    refine spC h rfl (fun hb15 h => ?_) (fun hb15 h => ?_)
    ·refine rn 5 rfl ?_
     exact rt h rfl
    refine rn 12 rfl ?_
    refine ln rfl rfl ?_
    refine rn 2 rfl ?_
    refine spC h rfl (fun hb16 h => ?_) (fun hb16 h => ?_)
    ·refine rn 4 rfl ?_
     exact rt h rfl
    refine rn 9 rfl ?_
    refine ln rfl rfl ?_
    refine rn 2 rfl ?_
    refine jK h (fun _ : Unit => (⟨[(2, (V.ptr 0 4 0 0)), (5, (sV x11.Name)), (13, (V.lst 2 (a2.map encTType))), (14, (iV ((a2.length : Nat) : Int))), (15, (iV n7))], [(0, (Ob.arr 160 4 [(encTreach_checker a1)]))], 1⟩ : St)) (fun k17 (_ : Unit) => k17 = some r) (fun k17 h => ?_) ?_
    ·refine rn 1 rfl ?_
     refine wl (A := x11.Methods) 32 rfl (fun hA32 => ?_)
     refine lC (fun (p : (List UInt8) × Int) => (⟨[(2, (V.ptr 0 4 0 0)), (5, (sV x11.Name)), (9, (sV (p.1))), (13, (V.lst 2 (a2.map encTType))), (14, (iV ((a2.length : Nat) : Int))), (15, (iV n7)), (36, (V.lst 2 (x11.Methods.map encTMethod))), (37, (iV ((x11.Methods.length : Nat) : Int))), (38, (iV (p.2)))], [(0, (Ob.arr 160 4 [(encTreach_checker a1)]))], 1⟩ : St)) (fun n p => RG x11.Methods (fun tl nn => M106_L2 F a1 k17 tl nn p.1 = some r) n p.2) (fun p h => RG.zero h) (x11.Methods.length + 1) (([] : List UInt8), 0) (RG.start h) (gr [0] rfl (hB rfl rfl rfl .nil) rfl) (fun n p h => ?_)
     obtain ⟨s20, n21⟩ := p
     refine rn 5 rfl ?_
     refine spL rfl (fun hb22 => ?_) (fun hb22 => ?_)
     ·obtain ⟨x25, tl, hx26, h, hk2⟩ := RG.t hA32 h hb22
      unfold M106_L2 at h
      refine rn 2 rfl ?_
      refine jK h (fun (p : (List UInt8)) => (⟨[(2, (V.ptr 0 4 0 0)), (5, (sV x11.Name)), (9, (sV p)), (13, (V.lst 2 (a2.map encTType))), (14, (iV ((a2.length : Nat) : Int))), (15, (iV n7)), (36, (V.lst 2 (x11.Methods.map encTMethod))), (37, (iV ((x11.Methods.length : Nat) : Int))), (38, (iV n21))], [(0, (Ob.arr 160 4 [(encTreach_checker a1)]))], 1⟩ : St)) (fun k23 p => k23 p = some r) (fun k23 h => ?_) ?_
      ·refine rn 4 rfl ?_
       refine ixh hx26 rfl rfl ?_
       refine rn 13 rfl ?_
       refine cl h rfl rfl rfl (W93 _ _ _ _) rfl (fun y27 hx28 h => ?_)
       refine rn 7 rfl ?_
       refine spC h rfl (fun hb29 h => ?_) (fun hb29 h => ?_)
       ·refine rn 5 rfl ?_
        exact rt h rfl
       refine rn 13 rfl ?_
       refine spO 57 h rfl (fun hb30 h => ?_) (fun hb30 h => ?_)
       ·refine rn 4 rfl ?_
        refine aops_lookup _ (bV false) (bV ((mget a1.funcs x25.Func).getD false)) tMap72 tKey9 tZo4 (irel_con _) (wants_some (c := true) (b := true) 57 rfl rfl rfl) rfl .imm (.con rfl) ⟨_, rfl⟩ encM9_4_good (encM9_4_look a1.funcs x25.Func) (getD_map (encM9_4_val) (mget a1.funcs x25.Func) false) rfl ?_
        refine fo (rn 3 rfl ?_)
        refine spC h rfl (fun hb31 h => ?_) (fun hb31 h => ?_)
        ·refine rn 4 rfl ?_
         exact rt h rfl
        refine rn 2 rfl ?_
        exact jX x25.Name h (gr [0] rfl (hB rfl rfl rfl .nil) rfl)
       refine rn 11 rfl ?_
       exact jX x25.Name h (gr [0] rfl (hB rfl rfl rfl .nil) rfl)
      intro s24 h
      refine rn 4 rfl ?_
      exact jX (s24, (w64 (n21 + 1))) (hk2 _ h) (gr [0] rfl (hB rfl rfl rfl .nil) rfl)
     replace h := RG.f h hb22
     unfold M106_L2 at h
     refine rn 1 rfl ?_
     exact jX () h (gr [0] rfl (hB rfl rfl rfl .nil) rfl)
    intro _ h
    refine rn 1 rfl ?_
    exact jX x11.Name h (gr [0] rfl (hB rfl rfl rfl .nil) rfl)
   intro s10 h
   refine rn 4 rfl ?_
   exact jX (s10, (w64 (n7 + 1))) (hk1 _ h) (gr [0] rfl (hB rfl rfl rfl .nil) rfl)
  replace h := RG.f h hb8
  unfold M106_L1 at h
  refine rn 1 rfl ?_
  exact jX () h (g0 rfl rfl)
 intro _ h
 refine rn 4 rfl ?_
 exact rt h rfl
theorem W41 (F : Nat) (a1 : (List (List UInt8))) (a2 : (List UInt8)) (r : Int) (h : M41 F a1 a2 = some r) : Pure Try.prog 41 [(V.lst 1 (a1.map encS)), (sV a2)] (iV r) := by
 refine pin (fun r => (iV r)) r rfl Try.func41 rfl rfl rfl rfl rfl (fun w0 m0 hg => ?_)
 unfold M41 at h
 refine rn 8 rfl ?_
 refine ln rfl rfl ?_
 refine rn 2 rfl ?_
 refine jK h (fun _ : Unit => (⟨[], [], 0⟩ : St)) (fun k3 (_ : Unit) => k3 = some r) (fun k3 h => ?_) ?_
 ·refine rn 1 rfl ?_
  refine wl (A := a1) 0 rfl (fun hA10 => ?_)
  refine lC (fun (p : Int) => (⟨[(0, (V.lst 1 (a1.map encS))), (1, (sV a2)), (7, (iV ((a1.length : Nat) : Int))), (8, (iV p))], [], 0⟩ : St)) (fun n p => RG a1 (fun tl nn => M41_L1 F a2 k3 tl nn = some r) n p) (fun p h => RG.zero h) (a1.length + 1) 0 (RG.start h) (g0 rfl rfl) (fun n n5 h => ?_)
  refine rn 5 rfl ?_
  refine spL rfl (fun hb6 => ?_) (fun hb6 => ?_)
  ·obtain ⟨x7, tl, hx8, h, hk1⟩ := RG.t hA10 h hb6
   unfold M41_L1 at h
   refine rn 13 rfl ?_
   refine ixh hx8 rfl rfl ?_
   refine rn 3 rfl ?_
   refine spC h rfl (fun hb9 h => ?_) (fun hb9 h => ?_)
   ·refine rn 5 rfl ?_
    exact rt h rfl
   refine rn 6 rfl ?_
   exact jX (w64 (n5 + 1)) (hk1 _ h) (g0 rfl rfl)
  replace h := RG.f h hb6
  unfold M41_L1 at h
  refine rn 1 rfl ?_
  exact jX () h (g0 rfl rfl)
 intro _ h
 refine rn 4 rfl ?_
 exact rt h rfl
theorem W16 (F : Nat) (a1 : (List (List UInt8))) (a2 : (List UInt8)) (r : Bool) (h : M16 F a1 a2 = some r) : Pure Try.prog 16 [(V.lst 1 (a1.map encS)), (sV a2)] (bV r) := by
 refine pin (fun r => (bV r)) r rfl Try.func16 rfl rfl rfl rfl rfl (fun w0 m0 hg => ?_)
 unfold M16 at h
 refine rn 8 rfl ?_
 refine cl h rfl rfl rfl (W41 _ _ _) rfl (fun y3 hx4 h => ?_)
 refine rn 3 rfl ?_
 exact rt h rfl
theorem W127 (F : Nat) (a1 : Treach_checker) (a2 : TCall) (r : Int) (h : M127 F a1 a2 = some r) : Pure Try.prog 127 [(V.agg (encTreach_checker a1)), (V.agg (encTCall a2))] (iV r) := by
 refine pin (fun r => (iV r)) r rfl Try.func127 rfl rfl rfl rfl rfl (fun w0 m0 hg => ?_)
 unfold M127 at h
 refine rn 18 rfl ?_
 refine jK h (fun _ : Unit => (⟨[(3, (V.ptr 0 4 0 0))], [(0, (Ob.arr 82 4 [(encTCall a2)]))], 1⟩ : St)) (fun k3 (_ : Unit) => k3 = some r) (fun k3 h => ?_) ?_
 ·refine spC h rfl (fun hb4 h => ?_) (fun hb4 h => ?_)
  ·refine rn 7 rfl ?_
   refine spO 14 h rfl (fun hb5 h => ?_) (fun hb5 h => ?_)
   ·refine rn 4 rfl ?_
    refine aops_lookup _ (bV false) (bV ((mget a1.funcs a2.Target).getD false)) tMap72 tKey9 tZo4 (irel_con _) (wants_some (c := true) (b := true) 14 rfl rfl rfl) rfl .imm (.con rfl) ⟨_, rfl⟩ encM9_4_good (encM9_4_look a1.funcs a2.Target) (getD_map (encM9_4_val) (mget a1.funcs a2.Target) false) rfl ?_
    refine fo (rn 3 rfl ?_)
    refine spC h rfl (fun hb6 h => ?_) (fun hb6 h => ?_)
    ·refine rn 4 rfl ?_
     exact rt h rfl
    refine rn 7 rfl ?_
    refine spC h rfl (fun hb7 h => ?_) (fun hb7 h => ?_)
    ·refine rn 4 rfl ?_
     exact rt h rfl
    refine rn 1 rfl ?_
    exact jX () h (gr [1] rfl (hB rfl rfl rfl .nil) rfl)
   refine rn 16 rfl ?_
   refine spC h rfl (fun hb8 h => ?_) (fun hb8 h => ?_)
   ·refine rn 4 rfl ?_
    exact rt h rfl
   refine rn 1 rfl ?_
   exact jX () h (gr [1] rfl (hB rfl rfl rfl .nil) rfl)
  refine rn 5 rfl ?_
  refine spC h rfl (fun hb9 h => ?_) (fun hb9 h => ?_)
  ·refine rn 6 rfl ?_
   refine aops_lookup_okB _ (V.agg [(sV ([] : List UInt8)), (V.lst 1 (([] : List (List UInt8)).map encS))]) (V.agg (encTIface ((mget a1.ifaces a2.Target).getD (TIface.mk ([] : List UInt8) ([] : (List (List UInt8))))))) tMap158 tKey9 tZo101 (irel_aggZ (.con (.sl .nil))) wants_none rfl .imm (.con rfl) ⟨_, rfl⟩ encM9_101_good (encM9_101_look a1.ifaces a2.Target) (getD_map (encM9_101_val) (mget a1.ifaces a2.Target) (TIface.mk ([] : List UInt8) ([] : (List (List UInt8))))) (isSome_map ..) rfl ?_
   refine fo (rn 13 rfl ?_)
   refine spO 38 h rfl (fun hb10 h => ?_) (fun hb10 h => ?_)
   ·refine rn 3 rfl ?_
    refine spO 41 h rfl (fun hb11 h => ?_) (fun hb11 h => ?_)
    ·refine rn 14 rfl ?_
     exact rt h rfl
    refine rn 4 rfl ?_
    refine cl h rfl rfl rfl (W16 _ _ _) rfl (fun y12 hx13 h => ?_)
    refine rn 4 rfl ?_
    refine spC h rfl (fun hb14 h => ?_) (fun hb14 h => ?_)
    ·refine rn 4 rfl ?_
     exact rt h rfl
    refine rn 1 rfl ?_
    exact jX () h (gr [1] rfl (hB rfl rfl rfl .nil) rfl)
   refine rn 14 rfl ?_
   exact jX () h (gr [1] rfl (hB rfl rfl rfl .nil) rfl)
  refine rn 4 rfl ?_
  exact rt h rfl
 intro _ h
 refine rn 8 rfl ?_
 refine spO 53 h rfl (fun hb15 h => ?_) (fun hb15 h => ?_)
 ·refine rn 2 rfl ?_
  refine cl h rfl rfl rfl (W120 _ _) rfl (fun y16 hx17 h => ?_)
  refine rn 3 rfl ?_
  refine spC h rfl (fun hb18 h => ?_) (fun hb18 h => ?_)
  ·refine rn 4 rfl ?_
   exact rt h rfl
  refine rn 5 rfl ?_
  exact rt h rfl
 refine rn 12 rfl ?_
 exact rt h rfl
theorem W108 (F : Nat) (a1 : Treach_checker) (a2 : (List (List UInt8))) (a3 : (List ((List UInt8) × Bool))) (r : Int) (h : M108 F a1 a2 a3 = some r) : Pure Try.prog 108 [(V.agg (encTreach_checker a1)), (V.lst 1 (a2.map encS)), (V.imap (a3.map encM9_4))] (iV r) := by
 refine pin (fun r => (iV r)) r rfl Try.func108 rfl rfl rfl rfl rfl (fun w0 m0 hg => ?_)
 unfold M108 at h
 refine rn 9 rfl ?_
 refine ln rfl rfl ?_
 refine rn 2 rfl ?_
 refine jK h (fun _ : Unit => (⟨[], [], 0⟩ : St)) (fun k4 (_ : Unit) => k4 = some r) (fun k4 h => ?_) ?_
 ·refine rn 1 rfl ?_
  refine wl (A := a2) 1 rfl (fun hA22 => ?_)
  refine lC (fun (p : Int) => (⟨[(1, (V.lst 1 (a2.map encS))), (2, (V.imap (a3.map encM9_4))), (3, (V.ptr 0 4 0 0)), (9, (V.lst 1 (a2.map encS))), (10, (iV ((a2.length : Nat) : Int))), (11, (iV p))], [(0, (Ob.arr 160 4 [(encTreach_checker a1)]))], 1⟩ : St)) (fun n p => RG a2 (fun tl nn => M108_L1 F a1 a2 a3 k4 tl nn = some r) n p) (fun p h => RG.zero h) (a2.length + 1) 0 (RG.start h) (gr [0] rfl (hB rfl rfl rfl .nil) rfl) (fun n n6 h => ?_)
  refine rn 5 rfl ?_
  refine spL rfl (fun hb7 => ?_) (fun hb7 => ?_)
  ·obtain ⟨x8, tl, hx9, h, hk1⟩ := RG.t hA22 h hb7
   unfold M108_L1 at h
   refine rn 6 rfl ?_
   refine ixh hx9 rfl rfl ?_
   refine rn 4 rfl ?_
   refine jK h (fun _ : Unit => (⟨[(1, (V.lst 1 (a2.map encS))), (2, (V.imap (a3.map encM9_4))), (3, (V.ptr 0 4 0 0)), (9, (V.lst 1 (a2.map encS))), (10, (iV ((a2.length : Nat) : Int))), (11, (iV n6))], [(0, (Ob.arr 160 4 [(encTreach_checker a1)]))], 1⟩ : St)) (fun k10 (_ : Unit) => k10 = some r) (fun k10 h => ?_) ?_
   ·refine rn 7 rfl ?_
    refine spO 20 h rfl (fun hb11 h => ?_) (fun hb11 h => ?_)
    ·refine rn 2 rfl ?_
     refine aops_lookup _ (bV false) (bV ((mget a3 x8).getD false)) tMap72 tKey9 tZo4 (irel_con _) (wants_some (c := true) (b := true) 20 rfl rfl rfl) rfl .imm (.con rfl) ⟨_, rfl⟩ encM9_4_good (encM9_4_look a3 x8) (getD_map (encM9_4_val) (mget a3 x8) false) rfl ?_
     refine fo (rn 4 rfl ?_)
     refine jK h (fun _ : Unit => (⟨[(1, (V.lst 1 (a2.map encS))), (2, (V.imap (a3.map encM9_4))), (3, (V.ptr 0 4 0 0)), (9, (V.lst 1 (a2.map encS))), (10, (iV ((a2.length : Nat) : Int))), (11, (iV n6)), (21, (V.imap (a3.map encM9_4))), (22, (sV x8)), (23, (bV ((mget a3 x8).getD false))), (24, (bV (!((mget a3 x8).getD false))))], [(0, (Ob.arr 160 4 [(encTreach_checker a1)]))], 1⟩ : St)) (fun k12 (_ : Unit) => k12 = some r) (fun k12 h => ?_) ?_
     ·refine spC h rfl (fun hb13 h => ?_) (fun hb13 h => ?_)
      ·refine rn 4 rfl ?_
       exact rt h rfl
      refine rn 5 rfl ?_
      refine spO 29 h rfl (fun hb14 h => ?_) (fun hb14 h => ?_)
      ·refine rn 4 rfl ?_
       refine ixl h rfl rfl (fun x15 hx16 h => ?_)
       refine rn 5 rfl ?_
       refine spC h rfl (fun hb17 h => ?_) (fun hb17 h => ?_)
       ·refine rn 4 rfl ?_
        exact rt h rfl
       refine rn 1 rfl ?_
       exact jX () h (gr [0] rfl (hB rfl rfl rfl .nil) rfl)
      refine rn 12 rfl ?_
      exact jX () h (gr [0] rfl (hB rfl rfl rfl .nil) rfl)
     intro _ h
     refine rn 1 rfl ?_
     exact jX () h (gr [0] rfl (hB rfl rfl rfl .nil) rfl)
    refine rn 13 rfl ?_
    refine spO 29 h rfl (fun hb18 h => ?_) (fun hb18 h => ?_)
    ·refine rn 4 rfl ?_
     refine ixl h rfl rfl (fun x19 hx20 h => ?_)
     refine rn 5 rfl ?_
     refine spC h rfl (fun hb21 h => ?_) (fun hb21 h => ?_)
     ·refine rn 4 rfl ?_
      exact rt h rfl
     refine rn 2 rfl ?_
     exact jX () h (gr [0] rfl (hB rfl rfl rfl .nil) rfl)
    refine rn 13 rfl ?_
    exact jX () h (gr [0] rfl (hB rfl rfl rfl .nil) rfl)
   intro _ h
   refine rn 5 rfl ?_
   exact jX (w64 (n6 + 1)) (hk1 _ h) (gr [0] rfl (hB rfl rfl rfl .nil) rfl)
  replace h := RG.f h hb7
  unfold M108_L1 at h
  refine rn 1 rfl ?_
  exact jX () h (g0 rfl rfl)
 intro _ h
 refine rn 4 rfl ?_
 exact rt h rfl
theorem W107 (F : Nat) (a1 : Treach_checker) (a2 : (List TFunc)) (r : Int) (h : M107 F a1 a2 = some r) : Pure Try.prog 107 [(V.agg (encTreach_checker a1)), (V.lst 4 (a2.map encTFunc))] (iV r) := by
 refine pin (fun r => (iV r)) r rfl Try.func107 rfl rfl rfl rfl rfl (fun w0 m0 hg => ?_)
 unfold M107 at h
 refine rn 13 rfl ?_
 refine ln rfl rfl ?_
 refine rn 2 rfl ?_
 refine jK h (fun _ : Unit => (⟨[], [], 0⟩ : St)) (fun k3 (_ : Unit) => k3 = some r) (fun k3 h => ?_) ?_
 ·refine rn 1 rfl ?_
  refine wl (A := a2) 1 rfl (fun hA33 => ?_)
  refine lC (fun (p : (List UInt8) × Int) => (⟨[(2, (V.ptr 0 4 0 0)), (5, (sV (p.1))), (13, (V.lst 4 (a2.map encTFunc))), (14, (iV ((a2.length : Nat) : Int))), (15, (iV (p.2)))], [(0, (Ob.arr 160 4 [(encTreach_checker a1)]))], 1⟩ : St)) (fun n p => RG a2 (fun tl nn => M107_L1 F a1 k3 tl nn p.1 = some r) n p.2) (fun p h => RG.zero h) (a2.length + 1) (([] : List UInt8), 0) (RG.start h) (gr [0] rfl (hB rfl rfl rfl .nil) rfl) (fun n p h => ?_)
  obtain ⟨s6, n7⟩ := p
  refine rn 5 rfl ?_
  refine spL rfl (fun hb8 => ?_) (fun hb8 => ?_)
  ·obtain ⟨x11, tl, hx12, h, hk1⟩ := RG.t hA33 h hb8
   unfold M107_L1 at h
   refine rn 2 rfl ?_
   refine jK h (fun (p : (List UInt8)) => (⟨[(2, (V.ptr 0 4 0 0)), (5, (sV p)), (13, (V.lst 4 (a2.map encTFunc))), (14, (iV ((a2.length : Nat) : Int))), (15, (iV n7))], [(0, (Ob.arr 160 4 [(encTreach_checker a1)]))], 1⟩ : St)) (fun k9 p => k9 p = some r) (fun k9 h => ?_) ?_
   ·refine rn 4 rfl ?_
    refine ixh hx12 rfl rfl ?_
    refine rn 13 rfl ?_
    refine cl h rfl rfl rfl (W93 _ _ _ _) rfl (fun y13 hx14 h => ?_)
    refine rn 7 rfl ?_
    refine spC h rfl (fun hb15 h => ?_) (fun hb15 h => ?_)
    ·refine rn 5 rfl ?_
     exact rt h rfl
    refine rn 13 rfl ?_
    refine cl h rfl rfl rfl (W120 _ _) rfl (fun y16 hx17 h => ?_)
    refine rn 3 rfl ?_
    refine spC h rfl (fun hb18 h => ?_) (fun hb18 h => ?_)
    ·refine rn 4 rfl ?_
     exact rt h rfl
    refine rn 4 rfl ?_
    refine ln rfl rfl ?_
    refine rn 3 rfl ?_
    refine spC h rfl (fun hb19 h => ?_) (fun hb19 h => ?_)
    ·refine rn 4 rfl ?_
     exact rt h rfl
    refine rn 7 rfl ?_
    refine ln rfl rfl ?_
    refine rn 2 rfl ?_
    refine jK h (fun _ : Unit => (⟨[(2, (V.ptr 0 4 0 0)), (5, (sV x11.Name)), (7, (V.ptr 1 4 0 0)), (13, (V.lst 4 (a2.map encTFunc))), (14, (iV ((a2.length : Nat) : Int))), (15, (iV n7))], [(0, (Ob.arr 160 4 [(encTreach_checker a1)])), (1, (Ob.arr 69 4 [(encTFunc x11)]))], 2⟩ : St)) (fun k20 (_ : Unit) => k20 = some r) (fun k20 h => ?_) ?_
    ·refine rn 1 rfl ?_
     refine wl (A := x11.Calls) 38 rfl (fun hA29 => ?_)
     refine lC (fun (p : Int) => (⟨[(2, (V.ptr 0 4 0 0)), (5, (sV x11.Name)), (7, (V.ptr 1 4 0 0)), (13, (V.lst 4 (a2.map encTFunc))), (14, (iV ((a2.length : Nat) : Int))), (15, (iV n7)), (42, (V.lst 4 (x11.Calls.map encTCall))), (43, (iV ((x11.Calls.length : Nat) : Int))), (44, (iV p))], [(0, (Ob.arr 160 4 [(encTreach_checker a1)])), (1, (Ob.arr 69 4 [(encTFunc x11)]))], 2⟩ : St)) (fun n p => RG x11.Calls (fun tl nn => M107_L2 F a1 k20 tl = some r) n p) (fun p h => RG.zero h) (x11.Calls.length + 1) 0 (RG.start h) (gr [0, 1] rfl (hB rfl rfl rfl (hB rfl rfl rfl .nil)) rfl) (fun n n22 h => ?_)
     refine rn 5 rfl ?_
     refine spL rfl (fun hb23 => ?_) (fun hb23 => ?_)
     ·obtain ⟨x24, tl, hx25, h, hk2⟩ := RG.t hA29 h hb23
      unfold M107_L2 at h
      refine rn 5 rfl ?_
      refine ixh hx25 rfl rfl ?_
      refine rn 8 rfl ?_
      refine cl h rfl rfl rfl (W127 _ _ _) rfl (fun y26 hx27 h => ?_)
      refine rn 7 rfl ?_
      refine spC h rfl (fun hb28 h => ?_) (fun hb28 h => ?_)
      ·refine rn 5 rfl ?_
       exact rt h rfl
      refine rn 6 rfl ?_
      exact jX (w64 (n22 + 1)) (hk2 _ h) (gr [0, 1] rfl (hB rfl rfl rfl (hB rfl rfl rfl .nil)) rfl)
     replace h := RG.f h hb23
     unfold M107_L2 at h
     refine rn 1 rfl ?_
     exact jX () h (gr [0, 1] rfl (hB rfl rfl rfl (hB rfl rfl rfl .nil)) rfl)
    intro _ h
    refine rn 7 rfl ?_
    refine cl h rfl rfl rfl (W108 _ _ _ _) rfl (fun y30 hx31 h => ?_)
    refine rn 7 rfl ?_
    refine spC h rfl (fun hb32 h => ?_) (fun hb32 h => ?_)
    ·refine rn 5 rfl ?_
     exact rt h rfl
    refine rn 2 rfl ?_
    exact jX x11.Name h (gr [0] rfl (hB rfl rfl rfl .nil) rfl)
   intro s10 h
   refine rn 4 rfl ?_
   exact jX (s10, (w64 (n7 + 1))) (hk1 _ h) (gr [0] rfl (hB rfl rfl rfl .nil) rfl)
  replace h := RG.f h hb8
  unfold M107_L1 at h
  refine rn 1 rfl ?_
  exact jX () h (g0 rfl rfl)
 intro _ h
 refine rn 4 rfl ?_
 exact rt h rfl
theorem W78 (F : Nat) (a1 : Treach_checker) (a2 : TGraph) (r : Int) (h : M78 F a1 a2 = some r) : Pure Try.prog 78 [(V.agg (encTreach_checker a1)), (V.agg (encTGraph a2))] (iV r) := by
 refine pin (fun r => (iV r)) r rfl Try.func78 rfl rfl rfl rfl rfl (fun w0 m0 hg => ?_)
 unfold M78 at h
 refine rn 11 rfl ?_
 refine ln rfl rfl ?_
 refine rn 2 rfl ?_
 refine spO 12 h rfl (fun hb3 h => ?_) (fun hb3 h => ?_)
 ·refine rn 17 rfl ?_
  exact rt h rfl
 refine rn 2 rfl ?_
 refine ln rfl rfl ?_
 refine rn 3 rfl ?_
 refine spO 18 h rfl (fun hb4 h => ?_) (fun hb4 h => ?_)
 ·refine rn 11 rfl ?_
  exact rt h rfl
 refine rn 2 rfl ?_
 refine ln rfl rfl ?_
 refine rn 3 rfl ?_
 refine spC h rfl (fun hb5 h => ?_) (fun hb5 h => ?_)
 ·refine rn 4 rfl ?_
  exact rt h rfl
 refine rn 7 rfl ?_
 refine cl h rfl rfl rfl (W105 _ _ _) rfl (fun y6 hx7 h => ?_)
 refine rn 7 rfl ?_
 refine spC h rfl (fun hb8 h => ?_) (fun hb8 h => ?_)
 ·refine rn 5 rfl ?_
  exact rt h rfl
 refine rn 7 rfl ?_
 refine cl h rfl rfl rfl (W106 _ _ _) rfl (fun y9 hx10 h => ?_)
 refine rn 7 rfl ?_
 refine spC h rfl (fun hb11 h => ?_) (fun hb11 h => ?_)
 ·refine rn 5 rfl ?_
  exact rt h rfl
 refine rn 7 rfl ?_
 refine cl h rfl rfl rfl (W107 _ _ _) rfl (fun y12 hx13 h => ?_)
 refine rn 7 rfl ?_
 refine spC h rfl (fun hb14 h => ?_) (fun hb14 h => ?_)
 ·refine rn 5 rfl ?_
  exact rt h rfl
 refine rn 8 rfl ?_
 refine cl h rfl rfl rfl (W108 _ _ _ _) rfl (fun y15 hx16 h => ?_)
 refine rn 2 rfl ?_
 exact rt h rfl
theorem W44 (F : Nat) (a1 : TGraph) (r : Int) (h : M44 F a1 = some r) : Pure Try.prog 44 [(V.agg (encTGraph a1))] (iV r) := by
 refine pin (fun r => (iV r)) r rfl Try.func44 rfl rfl rfl rfl rfl (fun w0 m0 hg => ?_)
 unfold M44 at h
 obtain ⟨y2, hx3, h⟩ := bind_some h
 obtain ⟨y4, hx5, h⟩ := bind_some h
 refine rn 6 rfl ?_
 refine dr mixed (vs 1 rfl (cD rfl rfl rfl rfl (W77 _ _ _ _ hx3) rfl (vs 1 rfl (cD rfl rfl rfl rfl (W78 _ _ _ _ hx5) rfl (vs 1 rfl .nil))))) (by kernel_rfl) ?_
 exact rt h rfl
theorem W67 (F : Nat) (a1 : (List (List UInt8))) (r : Int) (h : M67 F a1 = some r) : Pure Try.prog 67 [(V.lst 1 (a1.map encS))] (iV r) := by
 refine pin (fun r => (iV r)) r rfl Try.func67 rfl rfl rfl rfl rfl (fun w0 m0 hg => ?_)
 unfold M67 at h
 refine rn 8 rfl ?_
 refine ln rfl rfl ?_
 refine rn 2 rfl ?_
 refine spC h rfl (fun hb2 h => ?_) (fun hb2 h => ?_)
 ·refine rn 4 rfl ?_
  exact rt h rfl
 refine rn 9 rfl ?_
 refine ln rfl rfl ?_
 refine rn 2 rfl ?_
 refine jK h (fun _ : Unit => (⟨[], [], 0⟩ : St)) (fun k3 (_ : Unit) => k3 = some r) (fun k3 h => ?_) ?_
 ·refine rn 1 rfl ?_
  refine wl (A := a1) 0 rfl (fun hA14 => ?_)
  refine lC (fun (p : (List UInt8) × Int) => (⟨[(3, (sV (p.1))), (10, (V.lst 1 (a1.map encS))), (11, (iV ((a1.length : Nat) : Int))), (12, (iV (p.2)))], [], 0⟩ : St)) (fun n p => RG a1 (fun tl nn => M67_L1 F k3 tl nn p.1 = some r) n p.2) (fun p h => RG.zero h) (a1.length + 1) (([] : List UInt8), 0) (RG.start h) (g0 rfl rfl) (fun n p h => ?_)
  obtain ⟨s6, n7⟩ := p
  refine rn 5 rfl ?_
  refine spL rfl (fun hb8 => ?_) (fun hb8 => ?_)
  ·obtain ⟨x9, tl, hx10, h, hk1⟩ := RG.t hA14 h hb8
   unfold M67_L1 at h
   refine rn 6 rfl ?_
   refine ixh hx10 rfl rfl ?_
   refine rn 11 rfl ?_
   refine cl h rfl rfl rfl (W93 _ _ _ _) rfl (fun y11 hx12 h => ?_)
   refine rn 7 rfl ?_
   refine spC h rfl (fun hb13 h => ?_) (fun hb13 h => ?_)
   ·refine rn 5 rfl ?_
    exact rt h rfl
   refine rn 10 rfl ?_
   exact jX (x9, (w64 (n7 + 1))) (hk1 _ h) (g0 rfl rfl)
  replace h := RG.f h hb8
  unfold M67_L1 at h
  refine rn 1 rfl ?_
  exact jX () h (g0 rfl rfl)
 intro _ h
 refine rn 4 rfl ?_
 exact rt h rfl
theorem W126 (F : Nat) (a1 : (List UInt8)) (r : Bool) (h : M126 F a1 = some r) : Pure Try.prog 126 [(sV a1)] (bV r) := by
 refine pin (fun r => (bV r)) r rfl Try.func126 rfl rfl rfl rfl rfl (fun w0 m0 hg => ?_)
 unfold M126 at h
 refine rn 11 rfl ?_
 exact rt h rfl
theorem W111 (F : Nat) (a1 : (List UInt8)) (a2 : (List UInt8)) (r : Int) (h : M111 F a1 a2 = some r) : Pure Try.prog 111 [(sV a1), (sV a2)] (iV r) := by
 refine pin (fun r => (iV r)) r rfl Try.func111 rfl rfl rfl rfl rfl (fun w0 m0 hg => ?_)
 unfold M111 at h
 refine rn 7 rfl ?_
 refine cl h rfl rfl rfl (W126 _ _) rfl (fun y3 hx4 h => ?_)
 refine rn 5 rfl ?_
 refine cl h rfl rfl rfl (W126 _ _) rfl (fun y5 hx6 h => ?_)
 refine rn 7 rfl ?_
 refine spC h rfl (fun hb7 h => ?_) (fun hb7 h => ?_)
 ·refine rn 5 rfl ?_
  refine spC h rfl (fun hb8 h => ?_) (fun hb8 h => ?_)
  ·refine rn 4 rfl ?_
   exact rt h rfl
  refine rn 5 rfl ?_
  exact rt h rfl
 refine rn 6 rfl ?_
 refine spC h rfl (fun hb9 h => ?_) (fun hb9 h => ?_)
 ·refine rn 4 rfl ?_
  exact rt h rfl
 refine rn 8 rfl ?_
 refine spC h rfl (fun hb10 h => ?_) (fun hb10 h => ?_)
 ·refine rn 4 rfl ?_
  exact rt h rfl
 refine rn 8 rfl ?_
 refine spC h rfl (fun hb11 h => ?_) (fun hb11 h => ?_)
 ·refine rn 4 rfl ?_
  exact rt h rfl
 refine rn 5 rfl ?_
 exact rt h rfl
theorem W110 (F : Nat) (a1 : TMethod) (a2 : (List UInt8)) (r : Int) (h : M110 F a1 a2 = some r) : Pure Try.prog 110 [(V.agg (encTMethod a1)), (sV a2)] (iV r) := by
 refine pin (fun r => (iV r)) r rfl Try.func110 rfl rfl rfl rfl rfl (fun w0 m0 hg => ?_)
 unfold M110 at h
 refine rn 10 rfl ?_
 refine cl h rfl rfl rfl (W111 _ _ _) rfl (fun y3 hx4 h => ?_)
 refine rn 2 rfl ?_
 exact rt h rfl
theorem W109 (F : Nat) (a1 : (List TMethod)) (a2 : (List UInt8)) (r : (Int × Bool)) (h : M109 F a1 a2 = some r) : Pure Try.prog 109 [(V.lst 2 (a1.map encTMethod)), (sV a2), (V.fn (.func 110) [] [])] (V.tup [(iV (r.1)), (bV (r.2))]) := by
 refine pin (fun r => (V.tup [(iV (r.1)), (bV (r.2))])) r rfl Try.func109 rfl rfl rfl rfl rfl (fun w0 m0 hg => ?_)
 unfold M109 at h
 refine rn 8 rfl ?_
 refine ln rfl rfl ?_
 refine rn 9 rfl ?_
 refine jK h (fun (p : Int) => (⟨[(0, (V.lst 2 (a1.map encTMethod))), (1, (sV a2)), (2, (V.fn (.func 110) [] [])), (8, (iV ((a1.length : Nat) : Int))), (9, (iV p))], [], 0⟩ : St)) (fun k3 p => k3 p = some r) (fun k3 h => ?_) ?_
 ·refine rn 1 rfl ?_
  refine lC (fun (p : Int × Int) => (⟨[(0, (V.lst 2 (a1.map encTMethod))), (1, (sV a2)), (2, (V.fn (.func 110) [] [])), (8, (iV ((a1.length : Nat) : Int))), (9, (iV (p.1))), (10, (iV (p.2)))], [], 0⟩ : St)) (fun n p => M109_L1 F a1 a2 k3 n p.1 p.2 = some r) (fun p h => by simp [M109_L1] at h) F (0, ((a1.length : Nat) : Int)) h (g0 rfl rfl) (fun n p h => ?_)
  obtain ⟨n7, n8⟩ := p
  unfold M109_L1 at h
  refine rn 7 rfl ?_
  refine spC h rfl (fun hb9 h => ?_) (fun hb9 h => ?_)
  ·refine rn 17 rfl ?_
   refine ixl h rfl rfl (fun x10 hx11 h => ?_)
   refine rn 2 rfl ?_
   refine cl h rfl rfl rfl (W110 _ _ _) rfl (fun y12 hx13 h => ?_)
   refine rn 2 rfl ?_
   refine jK h (fun (p : Int × Int) => (⟨[(0, (V.lst 2 (a1.map encTMethod))), (1, (sV a2)), (2, (V.fn (.func 110) [] [])), (8, (iV ((a1.length : Nat) : Int))), (9, (iV (p.1))), (10, (iV (p.2)))], [], 0⟩ : St)) (fun k14 p => k14 p.1 p.2 = some r) (fun k14 h => ?_) ?_
   ·refine spC h rfl (fun hb17 h => ?_) (fun hb17 h => ?_)
    ·refine rn 5 rfl ?_
     exact jX ((w64 ((w64 (Int.fdiv (IntKind.wrap .u64 (w64 (n7 + n8))) (2 ^ (min (Int.toNat 1) (IntKind.bits .u64))))) + 1)), n8) h (g0 rfl rfl)
    refine rn 4 rfl ?_
    exact jX (n7, (w64 (Int.fdiv (IntKind.wrap .u64 (w64 (n7 + n8))) (2 ^ (min (Int.toNat 1) (IntKind.bits .u64)))))) h (g0 rfl rfl)
   rintro ⟨n15, n16⟩ h
   refine rn 1 rfl ?_
   exact jX (n15, n16) h (g0 rfl rfl)
  refine rn 1 rfl ?_
  exact jX n7 h (g0 rfl rfl)
 intro n4 h
 refine rn 7 rfl ?_
 refine spO 39 h rfl (fun hb18 h => ?_) (fun hb18 h => ?_)
 ·refine rn 3 rfl ?_
  refine ixl h rfl rfl (fun x19 hx20 h => ?_)
  refine rn 2 rfl ?_
  refine cl h rfl rfl rfl (W110 _ _ _) rfl (fun y21 hx22 h => ?_)
  refine rn 5 rfl ?_
  exact rt h rfl
 refine rn 12 rfl ?_
 exact rt h rfl
theorem W79 (F : Nat) (a1 : TType) (a2 : (List UInt8)) (r : ((List UInt8) × Bool)) (h : M79 F a1 a2 = some r) : Pure Try.prog 79 [(V.agg (encTType a1)), (sV a2)] (V.tup [(sV (r.1)), (bV (r.2))]) := by
 refine pin (fun r => (V.tup [(sV (r.1)), (bV (r.2))])) r rfl Try.func79 rfl rfl rfl rfl rfl (fun w0 m0 hg => ?_)
 unfold M79 at h
 refine rn 11 rfl ?_
 refine cl h rfl rfl rfl (W109 _ _ _) rfl (fun y3 hx4 h => ?_)
 refine rn 12 rfl ?_
 refine spC h rfl (fun hb5 h => ?_) (fun hb5 h => ?_)
 ·refine rn 5 rfl ?_
  exact rt h rfl
 refine rn 6 rfl ?_
 refine ixl h rfl rfl (fun x6 hx7 h => ?_)
 refine rn 5 rfl ?_
 exact rt h rfl
theorem W49 (F : Nat) (a1 : TType) (a2 : TIface) (r : Bool) (h : M49 F a1 a2 = some r) : Pure Try.prog 49 [(V.agg (encTType a1)), (V.agg (encTIface a2))] (bV r) := by
 refine pin (fun r => (bV r)) r rfl Try.func49 rfl rfl rfl rfl rfl (fun w0 m0 hg => ?_)
 unfold M49 at h
 refine rn 11 rfl ?_
 refine ln rfl rfl ?_
 refine rn 2 rfl ?_
 refine jK h (fun _ : Unit => (⟨[], [], 0⟩ : St)) (fun k3 (_ : Unit) => k3 = some r) (fun k3 h => ?_) ?_
 ·refine rn 1 rfl ?_
  refine wl (A := a2.Methods) 10 rfl (fun hA12 => ?_)
  refine lC (fun (p : Int) => (⟨[(2, (V.ptr 0 2 0 0)), (10, (V.lst 1 (a2.Methods.map encS))), (11, (iV ((a2.Methods.length : Nat) : Int))), (12, (iV p))], [(0, (Ob.arr 94 2 [(encTType a1)]))], 1⟩ : St)) (fun n p => RG a2.Methods (fun tl nn => M49_L1 F a1 k3 tl = some r) n p) (fun p h => RG.zero h) (a2.Methods.length + 1) 0 (RG.start h) (gr [0] rfl (hB rfl rfl rfl .nil) rfl) (fun n n5 h => ?_)
  refine rn 5 rfl ?_
  refine spL rfl (fun hb6 => ?_) (fun hb6 => ?_)
  ·obtain ⟨x7, tl, hx8, h, hk1⟩ := RG.t hA12 h hb6
   unfold M49_L1 at h
   refine rn 5 rfl ?_
   refine ixh hx8 rfl rfl ?_
   refine rn 7 rfl ?_
   refine cl h rfl rfl rfl (W79 _ _ _) rfl (fun y9 hx10 h => ?_)
   refine rn 11 rfl ?_
   refine spC h rfl (fun hb11 h => ?_) (fun hb11 h => ?_)
   ·refine rn 4 rfl ?_
    exact rt h rfl
   refine rn 6 rfl ?_
   exact jX (w64 (n5 + 1)) (hk1 _ h) (gr [0] rfl (hB rfl rfl rfl .nil) rfl)
  replace h := RG.f h hb6
  unfold M49_L1 at h
  refine rn 1 rfl ?_
  exact jX () h (g0 rfl rfl)
 intro _ h
 refine rn 4 rfl ?_
 exact rt h rfl
theorem W54 (F : Nat) (a1 : TGraph) (a2 : Int) (a3 : (List (List UInt8))) (r : (Option Treach_world)) (h : M54 F a1 a2 a3 = some r) : Pure Try.prog 54 [(V.agg (encTGraph a1)), (iV a2), (V.lst 1 (a3.map encS))] (optr encTreach_world r) := by
 refine pin (fun r => (optr encTreach_world r)) r rfl Try.func54 rfl rfl rfl rfl rfl (fun w0 m0 hg => ?_)
 unfold M54 at h
 refine rn 12 rfl ?_
 refine aops_insert (es := ([] : List ((List UInt8) × Bool)).map encM9_4) ((mput ([] : List ((List UInt8) × Bool)) ([] : List UInt8) true).map encM9_4) tMap72 tKey9 wants_none rfl rfl (.con rfl) ⟨_, rfl⟩ encM9_4_good rfl (encM9_4_puts ([] : List ((List UInt8) × Bool)) ([] : List UInt8) true) ?_
 refine fo (rn 12 rfl ?_)
 refine ln rfl rfl ?_
 refine rn 2 rfl ?_
 refine jK h (fun (p : (List ((List UInt8) × Int))) => (⟨[(2, (V.lst 1 (a3.map encS))), (3, (V.ptr 0 4 0 0)), (7, (V.ptr 1 9 0 0))], [(0, (Ob.arr 27 4 [(encTGraph a1)])), (1, (Ob.arr 88 9 [[(V.lst 2 (a1.Ifaces.map encTIface)), (V.lst 2 (a1.Types.map encTType)), (V.lst 4 (a1.Funcs.map encTFunc)), (V.lst 1 (a1.Entries.map encS)), (V.map 2), (V.map 3), (V.map 4), (V.map 5), (bV (a2 == 2))]])), (2, (Ob.map (p.map encM9_3))), (3, (Ob.map (([] : List ((List UInt8) × Int)).map encM9_3))), (4, (Ob.map (([] : List ((List UInt8) × (List Int))).map encM9_242))), (5, (Ob.map ((mput ([] : List ((List UInt8) × Bool)) ([] : List UInt8) true).map encM9_4)))], 6⟩ : St)) (fun k4 p => k4 p = some r) (fun k4 h => ?_) ?_
 ·refine rn 1 rfl ?_
  refine wl (A := a1.Funcs) 29 rfl (fun hA13 => ?_)
  refine lC (fun (p : Int × (List ((List UInt8) × Int))) => (⟨[(2, (V.lst 1 (a3.map encS))), (3, (V.ptr 0 4 0 0)), (7, (V.ptr 1 9 0 0)), (29, (V.lst 4 (a1.Funcs.map encTFunc))), (30, (iV ((a1.Funcs.length : Nat) : Int))), (31, (iV (p.1)))], [(0, (Ob.arr 27 4 [(encTGraph a1)])), (1, (Ob.arr 88 9 [[(V.lst 2 (a1.Ifaces.map encTIface)), (V.lst 2 (a1.Types.map encTType)), (V.lst 4 (a1.Funcs.map encTFunc)), (V.lst 1 (a1.Entries.map encS)), (V.map 2), (V.map 3), (V.map 4), (V.map 5), (bV (a2 == 2))]])), (2, (Ob.map ((p.2).map encM9_3))), (3, (Ob.map (([] : List ((List UInt8) × Int)).map encM9_3))), (4, (Ob.map (([] : List ((List UInt8) × (List Int))).map encM9_242))), (5, (Ob.map ((mput ([] : List ((List UInt8) × Bool)) ([] : List UInt8) true).map encM9_4)))], 6⟩ : St)) (fun n p => RG a1.Funcs (fun tl nn => M54_L1 F k4 tl nn p.2 = some r) n p.1) (fun p h => RG.zero h) (a1.Funcs.length + 1) (0, ([] : List ((List UInt8) × Int))) (RG.start h) (gr [0, 5, 1, 2, 3, 4] rfl (hB rfl rfl rfl (hB rfl rfl rfl (hM rfl rfl (hM rfl rfl (hM rfl rfl (hM rfl rfl .nil)))))) rfl) (fun n p h => ?_)
  obtain ⟨n8, m9⟩ := p
  refine rn 5 rfl ?_
  refine spL rfl (fun hb10 => ?_) (fun hb10 => ?_)
  ·obtain ⟨x11, tl, hx12, h, hk1⟩ := RG.t hA13 h hb10
   unfold M54_L1 at h
   refine rn 6 rfl ?_
   refine ixh hx12 rfl rfl ?_
   refine rn 5 rfl ?_
   refine dr mixed (vs 7 rfl (xD (OD.mk [(39, (V.map 2)), (41, (sV x11.Name)), (42, (iV n8))] [(2, (Ob.map (m9.map encM9_3)))] [] [(2, (Ob.map ((mput m9 x11.Name n8).map encM9_3)))]) ⟨⟨rfl, rfl, rfl, trivial⟩, ⟨rfl, trivial⟩⟩ (by exact fun S hn h hh => aops_mapUpdate (es := m9.map encM9_3) ((mput m9 x11.Name n8).map encM9_3) tMap85 tKey9 wants_none h.1 hh.1 (.con h.2.1) ⟨_, rfl⟩ encM9_3_good h.2.2.1 (encM9_3_puts m9 x11.Name n8) (aops_nil ⟨rfl, rfl⟩)) rfl .nil)) (by kernel_rfl) ?_
   refine rn 5 rfl ?_
   exact jX ((w64 (n8 + 1)), (mput m9 x11.Name n8)) (hk1 _ h) (gr [0, 1, 2, 3, 4, 5] rfl (hB rfl rfl rfl (hB rfl rfl rfl (hM rfl rfl (hM rfl rfl (hM rfl rfl (hM rfl rfl .nil)))))) rfl)
  replace h := RG.f h hb10
  unfold M54_L1 at h
  refine rn 1 rfl ?_
  exact jX m9 h (gr [0, 1, 2, 3, 4, 5] rfl (hB rfl rfl rfl (hB rfl rfl rfl (hM rfl rfl (hM rfl rfl (hM rfl rfl (hM rfl rfl .nil)))))) rfl)
 intro m5 h
 refine rn 5 rfl ?_
 refine ln rfl rfl ?_
 refine rn 2 rfl ?_
 refine jK h (fun (p : (List ((List UInt8) × Int))) => (⟨[(2, (V.lst 1 (a3.map encS))), (3, (V.ptr 0 4 0 0)), (7, (V.ptr 1 9 0 0))], [(0, (Ob.arr 27 4 [(encTGraph a1)])), (1, (Ob.arr 88 9 [[(V.lst 2 (a1.Ifaces.map encTIface)), (V.lst 2 (a1.Types.map encTType)), (V.lst 4 (a1.Funcs.map encTFunc)), (V.lst 1 (a1.Entries.map encS)), (V.map 2), (V.map 3), (V.map 4), (V.map 5), (bV (a2 == 2))]])), (2, (Ob.map (m5.map encM9_3))), (3, (Ob.map (p.map encM9_3))), (4, (Ob.map (([] : List ((List UInt8) × (List Int))).map encM9_242))), (5, (Ob.map ((mput ([] : List ((List UInt8) × Bool)) ([] : List UInt8) true).map encM9_4)))], 6⟩ : St)) (fun k14 p => k14 p = some r) (fun k14 h => ?_) ?_
 ·refine rn 1 rfl ?_
  refine wl (A := a1.Types) 45 rfl (fun hA23 => ?_)
  refine lC (fun (p : Int × (List ((List UInt8) × Int))) => (⟨[(2, (V.lst 1 (a3.map encS))), (3, (V.ptr 0 4 0 0)), (7, (V.ptr 1 9 0 0)), (45, (V.lst 2 (a1.Types.map encTType))), (46, (iV ((a1.Types.length : Nat) : Int))), (47, (iV (p.1)))], [(0, (Ob.arr 27 4 [(encTGraph a1)])), (1, (Ob.arr 88 9 [[(V.lst 2 (a1.Ifaces.map encTIface)), (V.lst 2 (a1.Types.map encTType)), (V.lst 4 (a1.Funcs.map encTFunc)), (V.lst 1 (a1.Entries.map encS)), (V.map 2), (V.map 3), (V.map 4), (V.map 5), (bV (a2 == 2))]])), (2, (Ob.map (m5.map encM9_3))), (3, (Ob.map ((p.2).map encM9_3))), (4, (Ob.map (([] : List ((List UInt8) × (List Int))).map encM9_242))), (5, (Ob.map ((mput ([] : List ((List UInt8) × Bool)) ([] : List UInt8) true).map encM9_4)))], 6⟩ : St)) (fun n p => RG a1.Types (fun tl nn => M54_L2 F k14 tl nn p.2 = some r) n p.1) (fun p h => RG.zero h) (a1.Types.length + 1) (0, ([] : List ((List UInt8) × Int))) (RG.start h) (gr [0, 1, 2, 3, 4, 5] rfl (hB rfl rfl rfl (hB rfl rfl rfl (hM rfl rfl (hM rfl rfl (hM rfl rfl (hM rfl rfl .nil)))))) rfl) (fun n p h => ?_)
  obtain ⟨n18, m19⟩ := p
  refine rn 5 rfl ?_
  refine spL rfl (fun hb20 => ?_) (fun hb20 => ?_)
  ·obtain ⟨x21, tl, hx22, h, hk2⟩ := RG.t hA23 h hb20
   unfold M54_L2 at h
   refine rn 6 rfl ?_
   refine ixh hx22 rfl rfl ?_
   refine rn 5 rfl ?_
   refine dr mixed (vs 7 rfl (xD (OD.mk [(55, (V.map 3)), (57, (sV x21.Name)), (58, (iV n18))] [(3, (Ob.map (m19.map encM9_3)))] [] [(3, (Ob.map ((mput m19 x21.Name n18).map encM9_3)))]) ⟨⟨rfl, rfl, rfl, trivial⟩, ⟨rfl, trivial⟩⟩ (by exact fun S hn h hh => aops_mapUpdate (es := m19.map encM9_3) ((mput m19 x21.Name n18).map encM9_3) tMap85 tKey9 wants_none h.1 hh.1 (.con h.2.1) ⟨_, rfl⟩ encM9_3_good h.2.2.1 (encM9_3_puts m19 x21.Name n18) (aops_nil ⟨rfl, rfl⟩)) rfl .nil)) (by kernel_rfl) ?_
   refine rn 5 rfl ?_
   exact jX ((w64 (n18 + 1)), (mput m19 x21.Name n18)) (hk2 _ h) (gr [0, 1, 2, 3, 4, 5] rfl (hB rfl rfl rfl (hB rfl rfl rfl (hM rfl rfl (hM rfl rfl (hM rfl rfl (hM rfl rfl .nil)))))) rfl)
  replace h := RG.f h hb20
  unfold M54_L2 at h
  refine rn 1 rfl ?_
  exact jX m19 h (gr [0, 1, 2, 3, 4, 5] rfl (hB rfl rfl rfl (hB rfl rfl rfl (hM rfl rfl (hM rfl rfl (hM rfl rfl (hM rfl rfl .nil)))))) rfl)
 intro m15 h
 refine rn 5 rfl ?_
 refine ln rfl rfl ?_
 refine rn 2 rfl ?_
 refine jK h (fun (p : (List ((List UInt8) × (List Int)))) => (⟨[(2, (V.lst 1 (a3.map encS))), (7, (V.ptr 0 9 0 0))], [(0, (Ob.arr 88 9 [[(V.lst 2 (a1.Ifaces.map encTIface)), (V.lst 2 (a1.Types.map encTType)), (V.lst 4 (a1.Funcs.map encTFunc)), (V.lst 1 (a1.Entries.map encS)), (V.map 1), (V.map 2), (V.map 3), (V.map 4), (bV (a2 == 2))]])), (1, (Ob.map (m5.map encM9_3))), (2, (Ob.map (m15.map encM9_3))), (3, (Ob.map (p.map encM9_242))), (4, (Ob.map ((mput ([] : List ((List UInt8) × Bool)) ([] : List UInt8) true).map encM9_4)))], 5⟩ : St)) (fun k24 p => k24 p = some r) (fun k24 h => ?_) ?_
 ·refine rn 1 rfl ?_
  refine wl (A := a1.Ifaces) 61 rfl (fun hA51 => ?_)
  refine lC (fun (p : Int × (List ((List UInt8) × (List Int)))) => (⟨[(2, (V.lst 1 (a3.map encS))), (3, (V.ptr 0 4 0 0)), (7, (V.ptr 1 9 0 0)), (61, (V.lst 2 (a1.Ifaces.map encTIface))), (62, (iV ((a1.Ifaces.length : Nat) : Int))), (63, (iV (p.1)))], [(0, (Ob.arr 27 4 [(encTGraph a1)])), (1, (Ob.arr 88 9 [[(V.lst 2 (a1.Ifaces.map encTIface)), (V.lst 2 (a1.Types.map encTType)), (V.lst 4 (a1.Funcs.map encTFunc)), (V.lst 1 (a1.Entries.map encS)), (V.map 2), (V.map 3), (V.map 4), (V.map 5), (bV (a2 == 2))]])), (2, (Ob.map (m5.map encM9_3))), (3, (Ob.map (m15.map encM9_3))), (4, (Ob.map ((p.2).map encM9_242))), (5, (Ob.map ((mput ([] : List ((List UInt8) × Bool)) ([] : List UInt8) true).map encM9_4)))], 6⟩ : St)) (fun n p => RG a1.Ifaces (fun tl nn => M54_L3 F a1 k24 tl p.2 = some r) n p.1) (fun p h => RG.zero h) (a1.Ifaces.length + 1) (0, ([] : List ((List UInt8) × (List Int)))) (RG.start h) (gr [0, 1, 2, 3, 4, 5] rfl (hB rfl rfl rfl (hB rfl rfl rfl (hM rfl rfl (hM rfl rfl (hM rfl rfl (hM rfl rfl .nil)))))) rfl) (fun n p h => ?_)
  obtain ⟨n28, m29⟩ := p
  refine rn 5 rfl ?_
  refine spL rfl (fun hb30 => ?_) (fun hb30 => ?_)
  ·obtain ⟨x33, tl, hx34, h, hk3⟩ := RG.t hA51 h hb30
   unfold M54_L3 at h
   refine rn 2 rfl ?_
   refine jK h (fun (p : (List ((List UInt8) × (List Int)))) => (⟨[(2, (V.lst 1 (a3.map encS))), (3, (V.ptr 0 4 0 0)), (7, (V.ptr 1 9 0 0)), (61, (V.lst 2 (a1.Ifaces.map encTIface))), (62, (iV ((a1.Ifaces.length : Nat) : Int))), (63, (iV n28))], [(0, (Ob.arr 27 4 [(encTGraph a1)])), (1, (Ob.arr 88 9 [[(V.lst 2 (a1.Ifaces.map encTIface)), (V.lst 2 (a1.Types.map encTType)), (V.lst 4 (a1.Funcs.map encTFunc)), (V.lst 1 (a1.Entries.map encS)), (V.map 2), (V.map 3), (V.map 4), (V.map 5), (bV (a2 == 2))]])), (2, (Ob.map (m5.map encM9_3))), (3, (Ob.map (m15.map encM9_3))), (4, (Ob.map (p.map encM9_242))), (5, (Ob.map ((mput ([] : List ((List UInt8) × Bool)) ([] : List UInt8) true).map encM9_4)))], 6⟩ : St)) (fun k31 p => k31 p = some r) (fun k31 h => ?_) ?_
   ·refine rn 3 rfl ?_
    refine ixh hx34 rfl rfl ?_
    refine rn 8 rfl ?_
    refine ln rfl rfl ?_
    refine rn 2 rfl ?_
    refine jK h (fun (p : (List ((List UInt8) × (List Int)))) => (⟨[(2, (V.lst 1 (a3.map encS))), (3, (V.ptr 0 4 0 0)), (7, (V.ptr 1 9 0 0)), (61, (V.lst 2 (a1.Ifaces.map encTIface))), (62, (iV ((a1.Ifaces.length : Nat) : Int))), (63, (iV n28))], [(0, (Ob.arr 27 4 [(encTGraph a1)])), (1, (Ob.arr 88 9 [[(V.lst 2 (a1.Ifaces.map encTIface)), (V.lst 2 (a1.Types.map encTType)), (V.lst 4 (a1.Funcs.map encTFunc)), (V.lst 1 (a1.Entries.map encS)), (V.map 2), (V.map 3), (V.map 4), (V.map 5), (bV (a2 == 2))]])), (2, (Ob.map (m5.map encM9_3))), (3, (Ob.map (m15.map encM9_3))), (4, (Ob.map (p.map encM9_242))), (5, (Ob.map ((mput ([] : List ((List UInt8) × Bool)) ([] : List UInt8) true).map encM9_4)))], 6⟩ : St)) (fun k35 p => k35 p = some r) (fun k35 h => ?_) ?_
    ·refine rn 1 rfl ?_
     refine wl (A := a1.Types) 68 rfl (fun hA50 => ?_)
     refine lC (fun (p : Int × (List ((List UInt8) × (List Int)))) => (⟨[(2, (V.lst 1 (a3.map encS))), (3, (V.ptr 0 4 0 0)), (7, (V.ptr 1 9 0 0)), (13, (V.ptr 2 2 0 0)), (61, (V.lst 2 (a1.Ifaces.map encTIface))), (62, (iV ((a1.Ifaces.length : Nat) : Int))), (63, (iV n28)), (68, (V.lst 2 (a1.Types.map encTType))), (69, (iV ((a1.Types.length : Nat) : Int))), (70, (iV (p.1)))], [(0, (Ob.arr 27 4 [(encTGraph a1)])), (1, (Ob.arr 88 9 [[(V.lst 2 (a1.Ifaces.map encTIface)), (V.lst 2 (a1.Types.map encTType)), (V.lst 4 (a1.Funcs.map encTFunc)), (V.lst 1 (a1.Entries.map encS)), (V.map 3), (V.map 4), (V.map 5), (V.map 6), (bV (a2 == 2))]])), (2, (Ob.arr 101 2 [(encTIface x33)])), (3, (Ob.map (m5.map encM9_3))), (4, (Ob.map (m15.map encM9_3))), (5, (Ob.map ((p.2).map encM9_242))), (6, (Ob.map ((mput ([] : List ((List UInt8) × Bool)) ([] : List UInt8) true).map encM9_4)))], 7⟩ : St)) (fun n p => RG a1.Types (fun tl nn => M54_L4 F x33 k35 tl nn p.2 = some r) n p.1) (fun p h => RG.zero h) (a1.Types.length + 1) (0, m29) (RG.start h) (gr [0, 1, 6, 2, 3, 4, 5] rfl (hB rfl rfl rfl (hB rfl rfl rfl (hB rfl rfl rfl (hM rfl rfl (hM rfl rfl (hM rfl rfl (hM rfl rfl .nil))))))) rfl) (fun n p h => ?_)
     obtain ⟨n39, m40⟩ := p
     refine rn 5 rfl ?_
     refine spL rfl (fun hb41 => ?_) (fun hb41 => ?_)
     ·obtain ⟨x42, tl, hx43, h, hk4⟩ := RG.t hA50 h hb41
      unfold M54_L4 at h
      refine rn 6 rfl ?_
      refine ixh hx43 rfl rfl ?_
      refine rn 9 rfl ?_
      refine cl h rfl rfl rfl (W49 _ _ _) rfl (fun y44 hx45 h => ?_)
      refine rn 1 rfl ?_
      refine jK h (fun (p : (List ((List UInt8) × (List Int)))) => (⟨[(2, (V.lst 1 (a3.map encS))), (3, (V.ptr 0 4 0 0)), (7, (V.ptr 1 9 0 0)), (13, (V.ptr 2 2 0 0)), (61, (V.lst 2 (a1.Ifaces.map encTIface))), (62, (iV ((a1.Ifaces.length : Nat) : Int))), (63, (iV n28)), (68, (V.lst 2 (a1.Types.map encTType))), (69, (iV ((a1.Types.length : Nat) : Int))), (70, (iV n39))], [(0, (Ob.arr 27 4 [(encTGraph a1)])), (1, (Ob.arr 88 9 [[(V.lst 2 (a1.Ifaces.map encTIface)), (V.lst 2 (a1.Types.map encTType)), (V.lst 4 (a1.Funcs.map encTFunc)), (V.lst 1 (a1.Entries.map encS)), (V.map 3), (V.map 4), (V.map 5), (V.map 6), (bV (a2 == 2))]])), (2, (Ob.arr 101 2 [(encTIface x33)])), (3, (Ob.map (m5.map encM9_3))), (4, (Ob.map (m15.map encM9_3))), (5, (Ob.map (p.map encM9_242))), (6, (Ob.map ((mput ([] : List ((List UInt8) × Bool)) ([] : List UInt8) true).map encM9_4)))], 7⟩ : St)) (fun k46 p => k46 p = some r) (fun k46 h => ?_) ?_
      ·refine spC h rfl (fun hb48 h => ?_) (fun hb48 h => ?_)
       ·refine ck h (fun hc49 h => ?_)
        refine awp_ghost ghost_res ?_
        refine awp_ghost ghost_res ?_
        refine fa ?_
        refine dr mixed (vs 12 rfl (xD (OD.mk [(87, (V.map 5)), (89, (sV x33.Name))] [(5, (Ob.map (m40.map encM9_242))), (8, Ob.res)] [(90, (V.own 8 ((mget m40 x33.Name).getD []).length))] [(5, (Ob.map (holeM encM9_242 8 x33.Name m40))), (8, (Ob.arr 3 1 (((mget m40 x33.Name).getD []).map encI_i64)))]) ⟨⟨rfl, rfl, trivial⟩, ⟨rfl, rfl, trivial⟩⟩ (by exact fun S hn h hh => aops_lookup_tk_at 8 rfl hn hh.2.1 (n := ((mget m40 x33.Name).getD []).length) tMap86 tKey9 tZo62 wants_none h.1 hh.1 (.con h.2.1) ⟨_, rfl⟩ encM9_242_good (lookT_enc encM9_242 (fun k => str k) encI_i64 3 1 8 (fun _ => rfl) inj_str x33.Name m40) (by simp) rfl (aops_nil ⟨rfl, rfl⟩)) rfl (vs 1 rfl (xD (OD.mk [(91, (iV n39))] [] [(92, (V.lst 1 (([n39] : List Int).map encI_i64)))] []) ⟨⟨rfl, trivial⟩, trivial⟩ (by exact fun S hn h hh => aops_buildSlice_imm [(0, (iV n39))] [[(iV n39)]] tEl62 tZ3 wants_none rfl rfl rfl rfl (evp_cons h.1 evp_nil) rfl rfl (by simp) (imms_rows (.cons (.cons (Imm.con _) .nil) .nil)) rfl (aops_nil ⟨rfl, rfl⟩)) rfl (xD (OD.mk [(90, (V.own 8 ((mget m40 x33.Name).getD []).length)), (92, (V.lst 1 (([n39] : List Int).map encI_i64)))] [(8, (Ob.arr 3 1 (((mget m40 x33.Name).getD []).map encI_i64))), (9, Ob.res)] [(93, (V.own 9 (((mget m40 x33.Name).getD []) ++ ([n39] : List Int)).length))] [(9, (Ob.arr 3 1 ((((mget m40 x33.Name).getD []) ++ ([n39] : List Int)).map encI_i64))), (8, Ob.dead)]) ⟨⟨rfl, rfl, trivial⟩, ⟨rfl, rfl, trivial⟩⟩ (by exact fun S hn h hh => aops_append_at 9 rfl hn hh.2.1 (([n39] : List Int).map encI_i64) ((((mget m40 x33.Name).getD []) ++ ([n39] : List Int)).map encI_i64) tEl62 tIsSl62 rfl rfl wants_none h.1 hh.1 (by simp) h.2.1 (.lst (rows_one one_encI_i64)) (map_snoc encI_i64 ((mget m40 x33.Name).getD []) ([n39] : List Int)) (List.length_map ..) hc49 rfl (aops_nil ⟨rfl, rfl⟩)) rfl (xD (OD.mk [(81, (V.map 5)), (83, (sV x33.Name)), (93, (V.own 9 (((mget m40 x33.Name).getD []) ++ ([n39] : List Int)).length))] [(5, (Ob.map (holeM encM9_242 8 x33.Name m40))), (9, (Ob.arr 3 1 ((((mget m40 x33.Name).getD []) ++ ([n39] : List Int)).map encI_i64)))] [] [(5, (Ob.map ((mput m40 x33.Name (((mget m40 x33.Name).getD []) ++ ([n39] : List Int))).map encM9_242))), (9, Ob.dead)]) ⟨⟨rfl, rfl, rfl, trivial⟩, ⟨rfl, rfl, trivial⟩⟩ (by exact fun S hn h hh => aops_mapUpdate_deepG (id2 := 9) (o := (V.own 9 (((mget m40 x33.Name).getD []) ++ ([n39] : List Int)).length)) (dv := (.dsl 3 1 ((((mget m40 x33.Name).getD []) ++ ([n39] : List Int)).map encI_i64))) (ob := (.arr 3 1 ((((mget m40 x33.Name).getD []) ++ ([n39] : List Int)).map encI_i64))) ((mput m40 x33.Name (((mget m40 x33.Name).getD []) ++ ([n39] : List Int))).map encM9_242) tMap86 tKey9 wants_none h.1 hh.1 (.con h.2.1) ⟨_, rfl⟩ (good_holeM (fun _ => ⟨_, rfl⟩)) h.2.2.1 (by simp [ovl]) hh.2.1 rfl (okeep_rows imms_encI_i64 (((mget m40 x33.Name).getD []) ++ ([n39] : List Int))) (puts_hole encM9_242 (fun k => str k) encI_i64 3 1 8 (fun _ => rfl) inj_str x33.Name (((mget m40 x33.Name).getD []) ++ ([n39] : List Int)) m40) (aops_nil ⟨rfl, rfl⟩)) rfl .nil)))))) (by kernel_rfl) ?_
        exact jX (mput m40 x33.Name (((mget m40 x33.Name).getD []) ++ ([n39] : List Int))) h (gr [0, 1, 2, 3, 4, 5, 6] rfl (hB rfl rfl rfl (hB rfl rfl rfl (hB rfl rfl rfl (hM rfl rfl (hM rfl rfl (hM rfl rfl (hM rfl rfl .nil))))))) rfl)
       refine rn 1 rfl ?_
       exact jX m40 h (gr [0, 1, 2, 3, 4, 5, 6] rfl (hB rfl rfl rfl (hB rfl rfl rfl (hB rfl rfl rfl (hM rfl rfl (hM rfl rfl (hM rfl rfl (hM rfl rfl .nil))))))) rfl)
      intro m47 h
      refine rn 5 rfl ?_
      exact jX ((w64 (n39 + 1)), m47) (hk4 _ h) (gr [0, 1, 2, 3, 4, 5, 6] rfl (hB rfl rfl rfl (hB rfl rfl rfl (hB rfl rfl rfl (hM rfl rfl (hM rfl rfl (hM rfl rfl (hM rfl rfl .nil))))))) rfl)
     replace h := RG.f h hb41
     unfold M54_L4 at h
     refine rn 1 rfl ?_
     exact jX m40 h (gr [0, 1, 3, 4, 5, 6] rfl (hB rfl rfl rfl (hB rfl rfl rfl (hM rfl rfl (hM rfl rfl (hM rfl rfl (hM rfl rfl .nil)))))) rfl)
    intro m36 h
    refine rn 1 rfl ?_
    exact jX m36 h (gr [0, 1, 2, 3, 4, 5] rfl (hB rfl rfl rfl (hB rfl rfl rfl (hM rfl rfl (hM rfl rfl (hM rfl rfl (hM rfl rfl .nil)))))) rfl)
   intro m32 h
   refine rn 4 rfl ?_
   exact jX ((w64 (n28 + 1)), m32) (hk3 _ h) (gr [0, 1, 2, 3, 4, 5] rfl (hB rfl rfl rfl (hB rfl rfl rfl (hM rfl rfl (hM rfl rfl (hM rfl rfl (hM rfl rfl .nil)))))) rfl)
  replace h := RG.f h hb30
  unfold M54_L3 at h
  refine rn 1 rfl ?_
  exact jX m29 h (gr [1, 2, 3, 4, 5] rfl (hB rfl rfl rfl (hM rfl rfl (hM rfl rfl (hM rfl rfl (hM rfl rfl .nil))))) rfl)
 intro m25 h
 refine rn 4 rfl ?_
 refine ln rfl rfl ?_
 refine rn 2 rfl ?_
 refine jK h (fun (p : (List ((List UInt8) × Bool))) => (⟨[(7, (V.ptr 0 9 0 0))], [(0, (Ob.arr 88 9 [[(V.lst 2 (a1.Ifaces.map encTIface)), (V.lst 2 (a1.Types.map encTType)), (V.lst 4 (a1.Funcs.map encTFunc)), (V.lst 1 (a1.Entries.map encS)), (V.map 1), (V.map 2), (V.map 3), (V.map 4), (bV (a2 == 2))]])), (1, (Ob.map (m5.map encM9_3))), (2, (Ob.map (m15.map encM9_3))), (3, (Ob.map (m25.map encM9_242))), (4, (Ob.map (p.map encM9_4)))], 5⟩ : St)) (fun k52 p => k52 p = some r) (fun k52 h => ?_) ?_
 ·refine rn 1 rfl ?_
  refine wl (A := a3) 2 rfl (fun hA61 => ?_)
  refine lC (fun (p : Int × (List ((List UInt8) × Bool))) => (⟨[(7, (V.ptr 0 9 0 0)), (96, (V.lst 1 (a3.map encS))), (97, (iV ((a3.length : Nat) : Int))), (98, (iV (p.1)))], [(0, (Ob.arr 88 9 [[(V.lst 2 (a1.Ifaces.map encTIface)), (V.lst 2 (a1.Types.map encTType)), (V.lst 4 (a1.Funcs.map encTFunc)), (V.lst 1 (a1.Entries.map encS)), (V.map 1), (V.map 2), (V.map 3), (V.map 4), (bV (a2 == 2))]])), (1, (Ob.map (m5.map encM9_3))), (2, (Ob.map (m15.map encM9_3))), (3, (Ob.map (m25.map encM9_242))), (4, (Ob.map ((p.2).map encM9_4)))], 5⟩ : St)) (fun n p => RG a3 (fun tl nn => M54_L5 F k52 tl p.2 = some r) n p.1) (fun p h => RG.zero h) (a3.length + 1) (0, (mput ([] : List ((List UInt8) × Bool)) ([] : List UInt8) true)) (RG.start h) (gr [0, 1, 2, 3, 4] rfl (hB rfl rfl rfl (hM rfl rfl (hM rfl rfl (hM rfl rfl (hM rfl rfl .nil))))) rfl) (fun n p h => ?_)
  obtain ⟨n56, m57⟩ := p
  refine rn 5 rfl ?_
  refine spL rfl (fun hb58 => ?_) (fun hb58 => ?_)
  ·obtain ⟨x59, tl, hx60, h, hk5⟩ := RG.t hA61 h hb58
   unfold M54_L5 at h
   refine rn 5 rfl ?_
   refine ixh hx60 rfl rfl ?_
   refine rn 9 rfl ?_
   refine aops_mapUpdate (es := m57.map encM9_4) ((mput m57 x59 true).map encM9_4) tMap72 tKey9 wants_none rfl rfl (.con rfl) ⟨_, rfl⟩ encM9_4_good rfl (encM9_4_puts m57 x59 true) ?_
   refine fo (rn 6 rfl ?_)
   exact jX ((w64 (n56 + 1)), (mput m57 x59 true)) (hk5 _ h) (gr [0, 1, 2, 3, 4] rfl (hB rfl rfl rfl (hM rfl rfl (hM rfl rfl (hM rfl rfl (hM rfl rfl .nil))))) rfl)
  replace h := RG.f h hb58
  unfold M54_L5 at h
  refine rn 1 rfl ?_
  exact jX m57 h (gr [0, 1, 2, 3, 4] rfl (hB rfl rfl rfl (hM rfl rfl (hM rfl rfl (hM rfl rfl (hM rfl rfl .nil))))) rfl)
 intro m53 h
 refine rn 5 rfl ?_
 refine awp_ghost (ghost_frzMC 1 0 (Ob.arr 88 9 [[(V.lst 2 (a1.Ifaces.map encTIface)), (V.lst 2 (a1.Types.map encTType)), (V.lst 4 (a1.Funcs.map encTFunc)), (V.lst 1 (a1.Entries.map encS)), (V.imap (m5.map encM9_3)), (V.map 2), (V.map 3), (V.map 4), (bV (a2 == 2))]]) rfl encM9_3_imm (ObSub.box (.cons Sub.keepM (.cons Sub.keepM (.cons Sub.keepM (.cons Sub.keepM (.cons Sub.frzM (.cons Sub.keepM (.cons Sub.keepM (.cons Sub.keepM (.cons Sub.keepM .nil))))))))))) ?_
 refine awp_ghost (ghost_frzMC 2 0 (Ob.arr 88 9 [[(V.lst 2 (a1.Ifaces.map encTIface)), (V.lst 2 (a1.Types.map encTType)), (V.lst 4 (a1.Funcs.map encTFunc)), (V.lst 1 (a1.Entries.map encS)), (V.imap (m5.map encM9_3)), (V.imap (m15.map encM9_3)), (V.map 3), (V.map 4), (bV (a2 == 2))]]) rfl encM9_3_imm (ObSub.box (.cons Sub.keepM (.cons Sub.keepM (.cons Sub.keepM (.cons Sub.keepM (.cons Sub.keepM (.cons Sub.frzM (.cons Sub.keepM (.cons Sub.keepM (.cons Sub.keepM .nil))))))))))) ?_
 refine awp_ghost (ghost_frzDMC 3 0 (m25.map encM9_62) (Ob.arr 88 9 [[(V.lst 2 (a1.Ifaces.map encTIface)), (V.lst 2 (a1.Types.map encTType)), (V.lst 4 (a1.Funcs.map encTFunc)), (V.lst 1 (a1.Entries.map encS)), (V.imap (m5.map encM9_3)), (V.imap (m15.map encM9_3)), (V.imap (m25.map encM9_62)), (V.map 4), (bV (a2 == 2))]]) rfl (by simp) (und_map encM9_242_und _) (ObSub.box (.cons Sub.keepM (.cons Sub.keepM (.cons Sub.keepM (.cons Sub.keepM (.cons Sub.keepM (.cons Sub.keepM (.cons Sub.frzM (.cons Sub.keepM (.cons Sub.keepM .nil))))))))))) ?_
 refine awp_ghost (ghost_frzMC 4 0 (Ob.arr 88 9 [[(V.lst 2 (a1.Ifaces.map encTIface)), (V.lst 2 (a1.Types.map encTType)), (V.lst 4 (a1.Funcs.map encTFunc)), (V.lst 1 (a1.Entries.map encS)), (V.imap (m5.map encM9_3)), (V.imap (m15.map encM9_3)), (V.imap (m25.map encM9_62)), (V.imap (m53.map encM9_4)), (bV (a2 == 2))]]) rfl encM9_4_imm (ObSub.box (.cons Sub.keepM (.cons Sub.keepM (.cons Sub.keepM (.cons Sub.keepM (.cons Sub.keepM (.cons Sub.keepM (.cons Sub.keepM (.cons Sub.frzM (.cons Sub.keepM .nil))))))))))) ?_
 refine awp_ghost (ghost_frzP 0 6 rfl (imms_rows (.cons (.cons (Imm.lst _ _) (.cons (Imm.lst _ _) (.cons (Imm.lst _ _) (.cons (Imm.lst _ _) (.cons (Imm.imap _) (.cons (Imm.imap _) (.cons (Imm.imap _) (.cons (Imm.imap _) (.cons (Imm.con _) .nil))))))))) .nil)) rfl rfl) ?_
 refine fa ?_
 exact rt h rfl
theorem W31 (F : Nat) (a1 : TGraph) (a2 : Int) (a3 : (List (List UInt8))) (r : ((Option Treach_world) × Int)) (h : M31 F a1 a2 a3 = some r) : Pure Try.prog 31 [(V.agg (encTGraph a1)), (iV a2), (V.lst 1 (a3.map encS))] (V.tup [(optr encTreach_world (r.1)), (iV (r.2))]) := by
 refine pin (fun r => (V.tup [(optr encTreach_world (r.1)), (iV (r.2))])) r rfl Try.func31 rfl rfl rfl rfl rfl (fun w0 m0 hg => ?_)
 unfold M31 at h
 refine rn 10 rfl ?_
 refine cl h rfl rfl rfl (W44 _ _) rfl (fun y4 hx5 h => ?_)
 refine rn 7 rfl ?_
 refine spC h rfl (fun hb6 h => ?_) (fun hb6 h => ?_)
 ·refine rn 6 rfl ?_
  exact rt h rfl
 refine rn 5 rfl ?_
 refine cl h rfl rfl rfl (W67 _ _) rfl (fun y7 hx8 h => ?_)
 refine rn 7 rfl ?_
 refine spC h rfl (fun hb9 h => ?_) (fun hb9 h => ?_)
 ·refine rn 6 rfl ?_
  exact rt h rfl
 refine rn 7 rfl ?_
 refine spO 22 h rfl (fun hb10 h => ?_) (fun hb10 h => ?_)
 ·refine rn 4 rfl ?_
  refine spC h rfl (fun hb11 h => ?_) (fun hb11 h => ?_)
  ·refine rn 5 rfl ?_
   exact rt h rfl
  refine rn 6 rfl ?_
  refine cl h rfl rfl rfl (W54 _ _ _ _) rfl (fun y12 hx13 h => ?_)
  obtain ⟨x14, hx15, h⟩ := bind_some h
  refine rn 3 rfl ?_
  refine opC 6 hx15 rfl ?_
  exact rt h rfl
 refine rn 11 rfl ?_
 refine cl h rfl rfl rfl (W54 _ _ _ _) rfl (fun y16 hx17 h => ?_)
 obtain ⟨x18, hx19, h⟩ := bind_some h
 refine rn 3 rfl ?_
 refine opC 6 hx19 rfl ?_
 exact rt h rfl
theorem W82 (F : Nat) (a1 : Treach_world) (a2 : TCall) (a3 : Int) (r : Int) (h : M82 F a1 a2 a3 = some r) : Pure Try.prog 82 [(V.iptr (encTreach_world a1) 0), (V.agg (encTCall a2)), (iV a3)] (iV r) := by
 refine pin (fun r => (iV r)) r rfl Try.func82 rfl rfl rfl rfl rfl (fun w0 m0 hg => ?_)
 unfold M82 at h
 obtain ⟨x4, hx5, h⟩ := bind_some h
 obtain ⟨y6, hx7, h⟩ := bind_some h
 refine rn 6 rfl ?_
 refine dr mixed (vs 6 rfl (iD hx5 rfl rfl rfl (vs 3 rfl (cD rfl rfl rfl rfl (W79 _ _ _ _ hx7) rfl (vs 5 rfl .nil))))) (by kernel_rfl) ?_
 refine rn 7 rfl ?_
 refine aops_lookup _ (iV 0) (iV ((mget a1.funcs (y6.1)).getD 0)) tMap85 tKey9 tZo3 (irel_con _) wants_none rfl .imm (.con rfl) ⟨_, rfl⟩ encM9_3_good (encM9_3_look a1.funcs (y6.1)) (getD_map (encM9_3_val) (mget a1.funcs (y6.1)) 0) rfl ?_
 refine fo (rn 2 rfl ?_)
 exact rt h rfl
theorem W65 (F : Nat) (a1 : TGraph) (r : Tprovenderref6_names) (h : M65 F a1 = some r) : Pure Try.prog 65 [(V.agg (encTGraph a1))] (V.agg (encTprovenderref6_names r)) := by
 refine pin (fun r => (V.agg (encTprovenderref6_names r))) r rfl Try.func65 rfl rfl rfl rfl rfl (fun w0 m0 hg => ?_)
 unfold M65 at h
 refine rn 19 rfl ?_
 refine ln rfl rfl ?_
 refine rn 2 rfl ?_
 refine jK h (fun (p : (List ((List UInt8) × (List ((List UInt8) × Bool))))) => (⟨[(1, (V.ptr 0 4 0 0)), (2, (V.ptr 1 3 0 0)), (3, (V.ptr 2 3 0 0))], [(0, (Ob.arr 27 4 [(encTGraph a1)])), (1, (Ob.arr 138 3 [[(V.con (.map none)), (V.con (.map none)), (V.con (.map none))]])), (2, (Ob.arr 138 3 [[(V.map 3), (V.map 4), (V.map 5)]])), (3, (Ob.map (p.map encM9_243))), (4, (Ob.map (([] : List ((List UInt8) × Bool)).map encM9_4))), (5, (Ob.map (([] : List ((List UInt8) × Bool)).map encM9_4)))], 6⟩ : St)) (fun k2 p => k2 p = some r) (fun k2 h => ?_) ?_
 ·refine rn 1 rfl ?_
  refine wl (A := a1.Ifaces) 17 rfl (fun hA24 => ?_)
  refine lC (fun (p : Int × (List ((List UInt8) × (List ((List UInt8) × Bool))))) => (⟨[(1, (V.ptr 0 4 0 0)), (2, (V.ptr 1 3 0 0)), (3, (V.ptr 2 3 0 0)), (17, (V.lst 2 (a1.Ifaces.map encTIface))), (18, (iV ((a1.Ifaces.length : Nat) : Int))), (19, (iV (p.1)))], [(0, (Ob.arr 27 4 [(encTGraph a1)])), (1, (Ob.arr 138 3 [[(V.con (.map none)), (V.con (.map none)), (V.con (.map none))]])), (2, (Ob.arr 138 3 [[(V.map 3), (V.map 4), (V.map 5)]])), (3, (Ob.map ((p.2).map encM9_243))), (4, (Ob.map (([] : List ((List UInt8) × Bool)).map encM9_4))), (5, (Ob.map (([] : List ((List UInt8) × Bool)).map encM9_4)))], 6⟩ : St)) (fun n p => RG a1.Ifaces (fun tl nn => M65_L1 F k2 tl p.2 = some r) n p.1) (fun p h => RG.zero h) (a1.Ifaces.length + 1) (0, ([] : List ((List UInt8) × (List ((List UInt8) × Bool))))) (RG.start h) (gr [0, 1, 5, 2, 3, 4] rfl (hB rfl rfl rfl (hB rfl rfl rfl (hB rfl rfl rfl (hM rfl rfl (hM rfl rfl (hM rfl rfl .nil)))))) rfl) (fun n p h => ?_)
  obtain ⟨n6, m7⟩ := p
  refine rn 5 rfl ?_
  refine spL rfl (fun hb8 => ?_) (fun hb8 => ?_)
  ·obtain ⟨x11, tl, hx12, h, hk1⟩ := RG.t hA24 h hb8
   unfold M65_L1 at h
   refine rn 2 rfl ?_
   refine jK h (fun (p : (List ((List UInt8) × (List ((List UInt8) × Bool))))) => (⟨[(1, (V.ptr 0 4 0 0)), (2, (V.ptr 1 3 0 0)), (3, (V.ptr 2 3 0 0)), (17, (V.lst 2 (a1.Ifaces.map encTIface))), (18, (iV ((a1.Ifaces.length : Nat) : Int))), (19, (iV n6))], [(0, (Ob.arr 27 4 [(encTGraph a1)])), (1, (Ob.arr 138 3 [[(V.con (.map none)), (V.con (.map none)), (V.con (.map none))]])), (2, (Ob.arr 138 3 [[(V.map 3), (V.map 4), (V.map 5)]])), (3, (Ob.map (p.map encM9_243))), (4, (Ob.map (([] : List ((List UInt8) × Bool)).map encM9_4))), (5, (Ob.map (([] : List ((List UInt8) × Bool)).map encM9_4)))], 6⟩ : St)) (fun k9 p => k9 p = some r) (fun k9 h => ?_) ?_
   ·refine rn 3 rfl ?_
    refine ixh hx12 rfl rfl ?_
    refine rn 11 rfl ?_
    refine aops_mapUpdate_deepG (id2 := 7) (o := (V.map 7)) (dv := (.dmp (([] : List ((List UInt8) × Bool)).map encM9_4))) (ob := (.map (([] : List ((List UInt8) × Bool)).map encM9_4))) ((mput m7 x11.Name ([] : List ((List UInt8) × Bool))).map encM9_243) tMap136 tKey9 wants_none rfl rfl (.con rfl) ⟨_, rfl⟩ encM9_243_good rfl (by simp [ovl]) rfl rfl (okeep_ents encM9_4_im ([] : List ((List UInt8) × Bool))) (puts_new encM9_243 (fun k => str k) encM9_4 (fun _ => rfl) inj_str x11.Name ([] : List ((List UInt8) × Bool)) m7) ?_
    refine fo (rn 5 rfl ?_)
    refine ln rfl rfl ?_
    refine rn 2 rfl ?_
    refine jK h (fun (p : (List ((List UInt8) × (List ((List UInt8) × Bool))))) => (⟨[(1, (V.ptr 0 4 0 0)), (2, (V.ptr 1 3 0 0)), (3, (V.ptr 2 3 0 0)), (17, (V.lst 2 (a1.Ifaces.map encTIface))), (18, (iV ((a1.Ifaces.length : Nat) : Int))), (19, (iV n6))], [(0, (Ob.arr 27 4 [(encTGraph a1)])), (1, (Ob.arr 138 3 [[(V.con (.map none)), (V.con (.map none)), (V.con (.map none))]])), (2, (Ob.arr 138 3 [[(V.map 3), (V.map 4), (V.map 5)]])), (3, (Ob.map (p.map encM9_243))), (4, (Ob.map (([] : List ((List UInt8) × Bool)).map encM9_4))), (5, (Ob.map (([] : List ((List UInt8) × Bool)).map encM9_4)))], 6⟩ : St)) (fun k13 p => k13 p = some r) (fun k13 h => ?_) ?_
    ·refine rn 1 rfl ?_
     refine wl (A := x11.Methods) 29 rfl (fun hA23 => ?_)
     refine lC (fun (p : Int × (List ((List UInt8) × (List ((List UInt8) × Bool))))) => (⟨[(1, (V.ptr 0 4 0 0)), (2, (V.ptr 1 3 0 0)), (3, (V.ptr 2 3 0 0)), (5, (V.ptr 3 2 0 0)), (17, (V.lst 2 (a1.Ifaces.map encTIface))), (18, (iV ((a1.Ifaces.length : Nat) : Int))), (19, (iV n6)), (29, (V.lst 1 (x11.Methods.map encS))), (30, (iV ((x11.Methods.length : Nat) : Int))), (31, (iV (p.1)))], [(0, (Ob.arr 27 4 [(encTGraph a1)])), (1, (Ob.arr 138 3 [[(V.con (.map none)), (V.con (.map none)), (V.con (.map none))]])), (2, (Ob.arr 138 3 [[(V.map 4), (V.map 5), (V.map 6)]])), (3, (Ob.arr 101 2 [(encTIface x11)])), (4, (Ob.map ((p.2).map encM9_243))), (5, (Ob.map (([] : List ((List UInt8) × Bool)).map encM9_4))), (6, (Ob.map (([] : List ((List UInt8) × Bool)).map encM9_4)))], 7⟩ : St)) (fun n p => RG x11.Methods (fun tl nn => M65_L2 F x11 k13 tl p.2 = some r) n p.1) (fun p h => RG.zero h) (x11.Methods.length + 1) (0, (mput m7 x11.Name ([] : List ((List UInt8) × Bool)))) (RG.start h) (gr [0, 1, 2, 6, 3, 4, 5] rfl (hB rfl rfl rfl (hB rfl rfl rfl (hB rfl rfl rfl (hB rfl rfl rfl (hM rfl rfl (hM rfl rfl (hM rfl rfl .nil))))))) rfl) (fun n p h => ?_)
     obtain ⟨n17, m18⟩ := p
     refine rn 5 rfl ?_
     refine spL rfl (fun hb19 => ?_) (fun hb19 => ?_)
     ·obtain ⟨x20, tl, hx21, h, hk2⟩ := RG.t hA23 h hb19
      unfold M65_L2 at h
      refine rn 5 rfl ?_
      refine ixh hx21 rfl rfl ?_
      refine rn 8 rfl ?_
      refine ck h (fun hc22 h => ?_)
      refine aops_lookup_tkP tMap136 tKey9 wants_none rfl rfl (.con rfl) ⟨_, rfl⟩ encM9_243_good (lookD_enc encM9_243 (fun k => str k) encM9_4 7 (fun _ => rfl) inj_str x11.Name m18 hc22) rfl rfl ?_
      refine fo (rn 1 rfl ?_)
      refine aops_mapUpdate (es := ((mget m18 x11.Name).getD []).map encM9_4) ((mput ((mget m18 x11.Name).getD []) x20 true).map encM9_4) tMap72 tKey9 wants_none rfl rfl (.con rfl) ⟨_, rfl⟩ encM9_4_good rfl (encM9_4_puts ((mget m18 x11.Name).getD []) x20 true) ?_
      refine aops_ghost (ghost_putN 4 7 encM9_243 (fun k => str k) encM9_4 (fun _ => rfl) hc22 rfl rfl rfl encM9_4_im) ?_
      refine fo (rn 6 rfl ?_)
      exact jX ((w64 (n17 + 1)), (mput m18 x11.Name (mput ((mget m18 x11.Name).getD []) x20 true))) (hk2 _ h) (gr [0, 1, 2, 3, 4, 5, 6] rfl (hB rfl rfl rfl (hB rfl rfl rfl (hB rfl rfl rfl (hB rfl rfl rfl (hM rfl rfl (hM rfl rfl (hM rfl rfl .nil))))))) rfl)
     replace h := RG.f h hb19
     unfold M65_L2 at h
     refine rn 1 rfl ?_
     exact jX m18 h (gr [0, 1, 2, 4, 5, 6] rfl (hB rfl rfl rfl (hB rfl rfl rfl (hB rfl rfl rfl (hM rfl rfl (hM rfl rfl (hM rfl rfl .nil)))))) rfl)
    intro m14 h
    refine rn 1 rfl ?_
    exact jX m14 h (gr [0, 1, 2, 3, 4, 5] rfl (hB rfl rfl rfl (hB rfl rfl rfl (hB rfl rfl rfl (hM rfl rfl (hM rfl rfl (hM rfl rfl .nil)))))) rfl)
   intro m10 h
   refine rn 4 rfl ?_
   exact jX ((w64 (n6 + 1)), m10) (hk1 _ h) (gr [0, 1, 2, 3, 4, 5] rfl (hB rfl rfl rfl (hB rfl rfl rfl (hB rfl rfl rfl (hM rfl rfl (hM rfl rfl (hM rfl rfl .nil)))))) rfl)
  replace h := RG.f h hb8
  unfold M65_L1 at h
  refine rn 1 rfl ?_
  exact jX m7 h (gr [0, 1, 2, 3, 4, 5] rfl (hB rfl rfl rfl (hB rfl rfl rfl (hB rfl rfl rfl (hM rfl rfl (hM rfl rfl (hM rfl rfl .nil)))))) rfl)
 intro m3 h
 refine rn 5 rfl ?_
 refine ln rfl rfl ?_
 refine rn 2 rfl ?_
 refine jK h (fun (p : (List ((List UInt8) × Bool))) => (⟨[(1, (V.ptr 0 4 0 0)), (2, (V.ptr 1 3 0 0)), (3, (V.ptr 2 3 0 0))], [(0, (Ob.arr 27 4 [(encTGraph a1)])), (1, (Ob.arr 138 3 [[(V.con (.map none)), (V.con (.map none)), (V.con (.map none))]])), (2, (Ob.arr 138 3 [[(V.map 3), (V.map 4), (V.map 5)]])), (3, (Ob.map (m3.map encM9_243))), (4, (Ob.map (p.map encM9_4))), (5, (Ob.map (([] : List ((List UInt8) × Bool)).map encM9_4)))], 6⟩ : St)) (fun k25 p => k25 p = some r) (fun k25 h => ?_) ?_
 ·refine rn 1 rfl ?_
  refine wl (A := a1.Types) 44 rfl (fun hA34 => ?_)
  refine lC (fun (p : Int × (List ((List UInt8) × Bool))) => (⟨[(1, (V.ptr 0 4 0 0)), (2, (V.ptr 1 3 0 0)), (3, (V.ptr 2 3 0 0)), (44, (V.lst 2 (a1.Types.map encTType))), (45, (iV ((a1.Types.length : Nat) : Int))), (46, (iV (p.1)))], [(0, (Ob.arr 27 4 [(encTGraph a1)])), (1, (Ob.arr 138 3 [[(V.con (.map none)), (V.con (.map none)), (V.con (.map none))]])), (2, (Ob.arr 138 3 [[(V.map 3), (V.map 4), (V.map 5)]])), (3, (Ob.map (m3.map encM9_243))), (4, (Ob.map ((p.2).map encM9_4))), (5, (Ob.map (([] : List ((List UInt8) × Bool)).map encM9_4)))], 6⟩ : St)) (fun n p => RG a1.Types (fun tl nn => M65_L3 F k25 tl p.2 = some r) n p.1) (fun p h => RG.zero h) (a1.Types.length + 1) (0, ([] : List ((List UInt8) × Bool))) (RG.start h) (gr [0, 1, 2, 3, 4, 5] rfl (hB rfl rfl rfl (hB rfl rfl rfl (hB rfl rfl rfl (hM rfl rfl (hM rfl rfl (hM rfl rfl .nil)))))) rfl) (fun n p h => ?_)
  obtain ⟨n29, m30⟩ := p
  refine rn 5 rfl ?_
  refine spL rfl (fun hb31 => ?_) (fun hb31 => ?_)
  ·obtain ⟨x32, tl, hx33, h, hk3⟩ := RG.t hA34 h hb31
   unfold M65_L3 at h
   refine rn 5 rfl ?_
   refine ixh hx33 rfl rfl ?_
   refine rn 9 rfl ?_
   refine aops_mapUpdate (es := m30.map encM9_4) ((mput m30 x32.Name true).map encM9_4) tMap72 tKey9 wants_none rfl rfl (.con rfl) ⟨_, rfl⟩ encM9_4_good rfl (encM9_4_puts m30 x32.Name true) ?_
   refine fo (rn 6 rfl ?_)
   exact jX ((w64 (n29 + 1)), (mput m30 x32.Name true)) (hk3 _ h) (gr [0, 1, 2, 3, 4, 5] rfl (hB rfl rfl rfl (hB rfl rfl rfl (hB rfl rfl rfl (hM rfl rfl (hM rfl rfl (hM rfl rfl .nil)))))) rfl)
  replace h := RG.f h hb31
  unfold M65_L3 at h
  refine rn 1 rfl ?_
  exact jX m30 h (gr [0, 1, 2, 3, 4, 5] rfl (hB rfl rfl rfl (hB rfl rfl rfl (hB rfl rfl rfl (hM rfl rfl (hM rfl rfl (hM rfl rfl .nil)))))) rfl)
 intro m26 h
 refine rn 5 rfl ?_
 refine ln rfl rfl ?_
 refine rn 2 rfl ?_
 refine jK h (fun (p : (List ((List UInt8) × Bool))) => (⟨[(2, (V.ptr 0 3 0 0)), (3, (V.ptr 1 3 0 0))], [(0, (Ob.arr 138 3 [[(V.con (.map none)), (V.con (.map none)), (V.con (.map none))]])), (1, (Ob.arr 138 3 [[(V.map 2), (V.map 3), (V.map 4)]])), (2, (Ob.map (m3.map encM9_243))), (3, (Ob.map (m26.map encM9_4))), (4, (Ob.map (p.map encM9_4)))], 5⟩ : St)) (fun k35 p => k35 p = some r) (fun k35 h => ?_) ?_
 ·refine rn 1 rfl ?_
  refine wl (A := a1.Funcs) 56 rfl (fun hA44 => ?_)
  refine lC (fun (p : Int × (List ((List UInt8) × Bool))) => (⟨[(2, (V.ptr 0 3 0 0)), (3, (V.ptr 1 3 0 0)), (56, (V.lst 4 (a1.Funcs.map encTFunc))), (57, (iV ((a1.Funcs.length : Nat) : Int))), (58, (iV (p.1)))], [(0, (Ob.arr 138 3 [[(V.con (.map none)), (V.con (.map none)), (V.con (.map none))]])), (1, (Ob.arr 138 3 [[(V.map 2), (V.map 3), (V.map 4)]])), (2, (Ob.map (m3.map encM9_243))), (3, (Ob.map (m26.map encM9_4))), (4, (Ob.map ((p.2).map encM9_4)))], 5⟩ : St)) (fun n p => RG a1.Funcs (fun tl nn => M65_L4 F k35 tl p.2 = some r) n p.1) (fun p h => RG.zero h) (a1.Funcs.length + 1) (0, ([] : List ((List UInt8) × Bool))) (RG.start h) (gr [1, 2, 3, 4, 5] rfl (hB rfl rfl rfl (hB rfl rfl rfl (hM rfl rfl (hM rfl rfl (hM rfl rfl .nil))))) rfl) (fun n p h => ?_)
  obtain ⟨n39, m40⟩ := p
  refine rn 5 rfl ?_
  refine spL rfl (fun hb41 => ?_) (fun hb41 => ?_)
  ·obtain ⟨x42, tl, hx43, h, hk4⟩ := RG.t hA44 h hb41
   unfold M65_L4 at h
   refine rn 5 rfl ?_
   refine ixh hx43 rfl rfl ?_
   refine rn 9 rfl ?_
   refine aops_mapUpdate (es := m40.map encM9_4) ((mput m40 x42.Name true).map encM9_4) tMap72 tKey9 wants_none rfl rfl (.con rfl) ⟨_, rfl⟩ encM9_4_good rfl (encM9_4_puts m40 x42.Name true) ?_
   refine fo (rn 6 rfl ?_)
   exact jX ((w64 (n39 + 1)), (mput m40 x42.Name true)) (hk4 _ h) (gr [0, 1, 2, 3, 4] rfl (hB rfl rfl rfl (hB rfl rfl rfl (hM rfl rfl (hM rfl rfl (hM rfl rfl .nil))))) rfl)
  replace h := RG.f h hb41
  unfold M65_L4 at h
  refine rn 1 rfl ?_
  exact jX m40 h (gr [0, 1, 2, 3, 4] rfl (hB rfl rfl rfl (hB rfl rfl rfl (hM rfl rfl (hM rfl rfl (hM rfl rfl .nil))))) rfl)
 intro m36 h
 refine rn 5 rfl ?_
 refine awp_ghost (ghost_frzDMC 2 0 (m3.map encM9_72) (Ob.arr 138 3 [[(V.imap (m3.map encM9_72)), (V.map 3), (V.map 4)]]) rfl (by simp) (und_map encM9_243_und _) (ObSub.box (.cons Sub.frzM (.cons Sub.keepM (.cons Sub.keepM .nil))))) ?_
 refine awp_ghost (ghost_frzMC 3 0 (Ob.arr 138 3 [[(V.imap (m3.map encM9_72)), (V.imap (m26.map encM9_4)), (V.map 4)]]) rfl encM9_4_imm (ObSub.box (.cons Sub.keepM (.cons Sub.frzM (.cons Sub.keepM .nil))))) ?_
 refine awp_ghost (ghost_frzMC 4 0 (Ob.arr 138 3 [[(V.imap (m3.map encM9_72)), (V.imap (m26.map encM9_4)), (V.imap (m36.map encM9_4))]]) rfl encM9_4_imm (ObSub.box (.cons Sub.keepM (.cons Sub.keepM (.cons Sub.frzM .nil))))) ?_
 refine fa ?_
 exact rt h rfl
theorem W91 (F : Nat) (a1 : (List UInt8)) (r : Bool) (h : M91 F a1 = some r) : Pure Try.prog 91 [(sV a1)] (bV r) := by
 refine pin (fun r => (bV r)) r rfl Try.func91 rfl rfl rfl rfl rfl (fun w0 m0 hg => ?_)
 unfold M91 at h
 refine rn 9 rfl ?_
 refine jK h (fun _ : Unit => (⟨[(0, (sV a1))], [], 0⟩ : St)) (fun k2 (_ : Unit) => k2 = some r) (fun k2 h => ?_) ?_
 ·refine rn 1 rfl ?_
  refine ck h (fun hA15 h => ?_)
  refine lC (fun (p : Int) => (⟨[(0, (sV a1)), (3, (iV p))], [], 0⟩ : St)) (fun n p => RC (a1.length : Int) (fun tl nn => M91_L1 F a1 k2 tl nn = some r) n p) (fun p h => RC.zero h) (Int.toNat (a1.length : Int) + 1) 0 (RC.start h) (g0 rfl rfl) (fun n n4 h => ?_)
  refine rn 8 rfl ?_
  refine spL rfl (fun hb5 => ?_) (fun hb5 => ?_)
  ·obtain ⟨tl, h, hk1⟩ := RC.t hA15 h hb5
   unfold M91_L1 at h
   refine rn 7 rfl ?_
   refine ixs h rfl rfl (fun c6 hx7 h => ?_)
   refine rn 2 rfl ?_
   refine spO 14 h rfl (fun hb8 h => ?_) (fun hb8 h => ?_)
   ·refine rn 17 rfl ?_
    exact rt h rfl
   refine rn 2 rfl ?_
   refine ixs h rfl rfl (fun c9 hx10 h => ?_)
   refine rn 3 rfl ?_
   refine spO 20 h rfl (fun hb11 h => ?_) (fun hb11 h => ?_)
   ·refine rn 11 rfl ?_
    exact rt h rfl
   refine rn 2 rfl ?_
   refine ixs h rfl rfl (fun c12 hx13 h => ?_)
   refine rn 3 rfl ?_
   refine spC h rfl (fun hb14 h => ?_) (fun hb14 h => ?_)
   ·refine rn 4 rfl ?_
    exact rt h rfl
   refine rn 7 rfl ?_
   exact jX (w64 (n4 + 1)) (hk1 _ h) (g0 rfl rfl)
  replace h := RC.f h hb5
  unfold M91_L1 at h
  refine rn 1 rfl ?_
  exact jX () h (g0 rfl rfl)
 intro _ h
 refine rn 6 rfl ?_
 refine spO 29 h rfl (fun hb16 h => ?_) (fun hb16 h => ?_)
 ·refine rn 6 rfl ?_
  exact rt h rfl
 refine rn 6 rfl ?_
 exact rt h rfl
theorem W92 (F : Nat) (a1 : (List (List UInt8))) (a2 : Int) (r : Int) (h : M92 F a1 a2 = some r) : Pure Try.prog 92 [(V.lst 1 (a1.map encS)), (iV a2)] (iV r) := by
 refine pin (fun r => (iV r)) r rfl Try.func92 rfl rfl rfl rfl rfl (fun w0 m0 hg => ?_)
 unfold M92 at h
 refine rn 6 rfl ?_
 refine bs h (fun hb3 h => ?_) (fun hb3 h => ?_)
 ·obtain ⟨x4, hx5, h⟩ := bind_some h
  obtain ⟨x6, hx7, h⟩ := bind_some h
  refine dr mixed (vs 2 rfl (vb hb3 rfl (vs 2 rfl (iD hx5 rfl rfl rfl (vs 4 rfl (iD hx7 rfl rfl rfl (vs 3 rfl .nil))))))) (by kernel_rfl) ?_
  refine spC h rfl (fun hb8 h => ?_) (fun hb8 h => ?_)
  ·refine rn 4 rfl ?_
   exact rt h rfl
  refine rn 5 rfl ?_
  exact rt h rfl
 refine dr mixed (vs 2 rfl (vb hb3 rfl (vs 11 rfl .nil))) (by kernel_rfl) ?_
 refine rn 6 rfl ?_
 exact rt h rfl
theorem W112 (F : Nat) (a1 : Tprovenderref6_checker) (r : Int) (h : M112 F a1 = some r) : Pure Try.prog 112 [(V.agg (encTprovenderref6_checker a1))] (iV r) := by
 refine pin (fun r => (iV r)) r rfl Try.func112 rfl rfl rfl rfl rfl (fun w0 m0 hg => ?_)
 unfold M112 at h
 refine rn 15 rfl ?_
 refine ln rfl rfl ?_
 refine rn 2 rfl ?_
 refine jK h (fun _ : Unit => (⟨[], [], 0⟩ : St)) (fun k2 (_ : Unit) => k2 = some r) (fun k2 h => ?_) ?_
 ·refine rn 1 rfl ?_
  refine wl (A := a1.g.Ifaces) 11 rfl (fun hA31 => ?_)
  refine lC (fun (p : (List UInt8) × Int) => (⟨[(3, (sV (p.1))), (11, (V.lst 2 (a1.g.Ifaces.map encTIface))), (12, (iV ((a1.g.Ifaces.length : Nat) : Int))), (13, (iV (p.2)))], [], 0⟩ : St)) (fun n p => RG a1.g.Ifaces (fun tl nn => M112_L1 F k2 tl p.1 = some r) n p.2) (fun p h => RG.zero h) (a1.g.Ifaces.length + 1) (([] : List UInt8), 0) (RG.start h) (g0 rfl rfl) (fun n p h => ?_)
  obtain ⟨s5, n6⟩ := p
  refine rn 5 rfl ?_
  refine spL rfl (fun hb7 => ?_) (fun hb7 => ?_)
  ·obtain ⟨x10, tl, hx11, h, hk1⟩ := RG.t hA31 h hb7
   unfold M112_L1 at h
   refine rn 2 rfl ?_
   refine jK h (fun (p : (List UInt8)) => (⟨[(3, (sV p)), (11, (V.lst 2 (a1.g.Ifaces.map encTIface))), (12, (iV ((a1.g.Ifaces.length : Nat) : Int))), (13, (iV n6))], [], 0⟩ : St)) (fun k8 p => k8 p = some r) (fun k8 h => ?_) ?_
   ·refine rn 3 rfl ?_
    refine ixh hx11 rfl rfl ?_
    refine rn 10 rfl ?_
    refine cl h rfl rfl rfl (W91 _ _) rfl (fun y12 hx13 h => ?_)
    refine rn 3 rfl ?_
    refine spC h rfl (fun hb14 h => ?_) (fun hb14 h => ?_)
    ·refine rn 4 rfl ?_
     exact rt h rfl
    refine rn 8 rfl ?_
    refine spC h rfl (fun hb15 h => ?_) (fun hb15 h => ?_)
    ·refine rn 4 rfl ?_
     exact rt h rfl
    refine rn 4 rfl ?_
    refine ln rfl rfl ?_
    refine rn 3 rfl ?_
    refine spC h rfl (fun hb16 h => ?_) (fun hb16 h => ?_)
    ·refine rn 4 rfl ?_
     exact rt h rfl
    refine rn 4 rfl ?_
    refine ln rfl rfl ?_
    refine rn 3 rfl ?_
    refine spC h rfl (fun hb17 h => ?_) (fun hb17 h => ?_)
    ·refine rn 4 rfl ?_
     exact rt h rfl
    refine rn 12 rfl ?_
    refine ln rfl rfl ?_
    refine rn 2 rfl ?_
    refine jK h (fun _ : Unit => (⟨[(3, (sV x10.Name)), (11, (V.lst 2 (a1.g.Ifaces.map encTIface))), (12, (iV ((a1.g.Ifaces.length : Nat) : Int))), (13, (iV n6))], [], 0⟩ : St)) (fun k18 (_ : Unit) => k18 = some r) (fun k18 h => ?_) ?_
    ·refine rn 1 rfl ?_
     refine wl (A := x10.Methods) 29 rfl (fun hA30 => ?_)
     refine lC (fun (p : Int) => (⟨[(3, (sV x10.Name)), (5, (V.ptr 0 2 0 0)), (11, (V.lst 2 (a1.g.Ifaces.map encTIface))), (12, (iV ((a1.g.Ifaces.length : Nat) : Int))), (13, (iV n6)), (40, (V.lst 1 (x10.Methods.map encS))), (41, (iV ((x10.Methods.length : Nat) : Int))), (42, (iV p))], [(0, (Ob.arr 101 2 [(encTIface x10)]))], 1⟩ : St)) (fun n p => RG x10.Methods (fun tl nn => M112_L2 F x10 k18 tl nn = some r) n p) (fun p h => RG.zero h) (x10.Methods.length + 1) 0 (RG.start h) (gr [0] rfl (hB rfl rfl rfl .nil) rfl) (fun n n20 h => ?_)
     refine rn 5 rfl ?_
     refine spL rfl (fun hb21 => ?_) (fun hb21 => ?_)
     ·obtain ⟨x22, tl, hx23, h, hk2⟩ := RG.t hA30 h hb21
      unfold M112_L2 at h
      refine rn 6 rfl ?_
      refine ixh hx23 rfl rfl ?_
      refine rn 8 rfl ?_
      refine cl h rfl rfl rfl (W91 _ _) rfl (fun y24 hx25 h => ?_)
      refine rn 2 rfl ?_
      refine spC h rfl (fun hb26 h => ?_) (fun hb26 h => ?_)
      ·refine rn 4 rfl ?_
       exact rt h rfl
      refine rn 6 rfl ?_
      refine cl h rfl rfl rfl (W92 _ _ _) rfl (fun y27 hx28 h => ?_)
      refine rn 7 rfl ?_
      refine spC h rfl (fun hb29 h => ?_) (fun hb29 h => ?_)
      ·refine rn 5 rfl ?_
       exact rt h rfl
      refine rn 6 rfl ?_
      exact jX (w64 (n20 + 1)) (hk2 _ h) (gr [0] rfl (hB rfl rfl rfl .nil) rfl)
     replace h := RG.f h hb21
     unfold M112_L2 at h
     refine rn 1 rfl ?_
     exact jX () h (g0 rfl rfl)
    intro _ h
    refine rn 1 rfl ?_
    exact jX x10.Name h (g0 rfl rfl)
   intro s9 h
   refine rn 4 rfl ?_
   exact jX (s9, (w64 (n6 + 1))) (hk1 _ h) (g0 rfl rfl)
  replace h := RG.f h hb7
  unfold M112_L1 at h
  refine rn 1 rfl ?_
  exact jX () h (g0 rfl rfl)
 intro _ h
 refine rn 4 rfl ?_
 exact rt h rfl
theorem W113 (F : Nat) (a1 : Tprovenderref6_checker) (r : Int) (h : M113 F a1 = some r) : Pure Try.prog 113 [(V.agg (encTprovenderref6_checker a1))] (iV r) := by
 refine pin (fun r => (iV r)) r rfl Try.func113 rfl rfl rfl rfl rfl (fun w0 m0 hg => ?_)
 unfold M113 at h
 refine rn 15 rfl ?_
 refine ln rfl rfl ?_
 refine rn 2 rfl ?_
 refine jK h (fun _ : Unit => (⟨[], [], 0⟩ : St)) (fun k2 (_ : Unit) => k2 = some r) (fun k2 h => ?_) ?_
 ·refine rn 1 rfl ?_
  refine wl (A := a1.g.Types) 11 rfl (fun hA33 => ?_)
  refine lC (fun (p : (List UInt8) × Int) => (⟨[(1, (V.ptr 0 8 0 0)), (3, (sV (p.1))), (11, (V.lst 2 (a1.g.Types.map encTType))), (12, (iV ((a1.g.Types.length : Nat) : Int))), (13, (iV (p.2)))], [(0, (Ob.arr 165 8 [(encTprovenderref6_checker a1)]))], 1⟩ : St)) (fun n p => RG a1.g.Types (fun tl nn => M113_L1 F a1 k2 tl p.1 = some r) n p.2) (fun p h => RG.zero h) (a1.g.Types.length + 1) (([] : List UInt8), 0) (RG.start h) (gr [0] rfl (hB rfl rfl rfl .nil) rfl) (fun n p h => ?_)
  obtain ⟨s5, n6⟩ := p
  refine rn 5 rfl ?_
  refine spL rfl (fun hb7 => ?_) (fun hb7 => ?_)
  ·obtain ⟨x10, tl, hx11, h, hk1⟩ := RG.t hA33 h hb7
   unfold M113_L1 at h
   refine rn 2 rfl ?_
   refine jK h (fun (p : (List UInt8)) => (⟨[(1, (V.ptr 0 8 0 0)), (3, (sV p)), (11, (V.lst 2 (a1.g.Types.map encTType))), (12, (iV ((a1.g.Types.length : Nat) : Int))), (13, (iV n6))], [(0, (Ob.arr 165 8 [(encTprovenderref6_checker a1)]))], 1⟩ : St)) (fun k8 p => k8 p = some r) (fun k8 h => ?_) ?_
   ·refine rn 3 rfl ?_
    refine ixh hx11 rfl rfl ?_
    refine rn 10 rfl ?_
    refine cl h rfl rfl rfl (W91 _ _) rfl (fun y12 hx13 h => ?_)
    refine rn 3 rfl ?_
    refine spC h rfl (fun hb14 h => ?_) (fun hb14 h => ?_)
    ·refine rn 4 rfl ?_
     exact rt h rfl
    refine rn 8 rfl ?_
    refine spC h rfl (fun hb15 h => ?_) (fun hb15 h => ?_)
    ·refine rn 4 rfl ?_
     exact rt h rfl
    refine rn 4 rfl ?_
    refine ln rfl rfl ?_
    refine rn 3 rfl ?_
    refine spC h rfl (fun hb16 h => ?_) (fun hb16 h => ?_)
    ·refine rn 4 rfl ?_
     exact rt h rfl
    refine rn 16 rfl ?_
    refine ln rfl rfl ?_
    refine rn 2 rfl ?_
    refine jK h (fun _ : Unit => (⟨[(1, (V.ptr 0 8 0 0)), (3, (sV x10.Name)), (11, (V.lst 2 (a1.g.Types.map encTType))), (12, (iV ((a1.g.Types.length : Nat) : Int))), (13, (iV n6))], [(0, (Ob.arr 165 8 [(encTprovenderref6_checker a1)]))], 1⟩ : St)) (fun k17 (_ : Unit) => k17 = some r) (fun k17 h => ?_) ?_
    ·refine rn 1 rfl ?_
     refine wl (A := x10.Methods) 29 rfl (fun hA32 => ?_)
     refine lC (fun (p : (List UInt8) × Int) => (⟨[(1, (V.ptr 0 8 0 0)), (3, (sV x10.Name)), (6, (sV (p.1))), (11, (V.lst 2 (a1.g.Types.map encTType))), (12, (iV ((a1.g.Types.length : Nat) : Int))), (13, (iV n6)), (35, (V.lst 2 (x10.Methods.map encTMethod))), (36, (iV ((x10.Methods.length : Nat) : Int))), (37, (iV (p.2)))], [(0, (Ob.arr 165 8 [(encTprovenderref6_checker a1)]))], 1⟩ : St)) (fun n p => RG x10.Methods (fun tl nn => M113_L2 F a1 k17 tl p.1 = some r) n p.2) (fun p h => RG.zero h) (x10.Methods.length + 1) (([] : List UInt8), 0) (RG.start h) (gr [0] rfl (hB rfl rfl rfl .nil) rfl) (fun n p h => ?_)
     obtain ⟨s20, n21⟩ := p
     refine rn 5 rfl ?_
     refine spL rfl (fun hb22 => ?_) (fun hb22 => ?_)
     ·obtain ⟨x23, tl, hx24, h, hk2⟩ := RG.t hA32 h hb22
      unfold M113_L2 at h
      refine rn 5 rfl ?_
      refine ixh hx24 rfl rfl ?_
      refine rn 10 rfl ?_
      refine cl h rfl rfl rfl (W91 _ _) rfl (fun y25 hx26 h => ?_)
      refine rn 3 rfl ?_
      refine jK h (fun _ : Unit => (⟨[(1, (V.ptr 0 8 0 0)), (3, (sV x10.Name)), (8, (V.ptr 1 2 0 0)), (11, (V.lst 2 (a1.g.Types.map encTType))), (12, (iV ((a1.g.Types.length : Nat) : Int))), (13, (iV n6)), (35, (V.lst 2 (x10.Methods.map encTMethod))), (36, (iV ((x10.Methods.length : Nat) : Int))), (37, (iV n21))], [(0, (Ob.arr 165 8 [(encTprovenderref6_checker a1)])), (1, (Ob.arr 198 2 [(encTMethod x23)]))], 2⟩ : St)) (fun k27 (_ : Unit) => k27 = some r) (fun k27 h => ?_) ?_
      ·refine spC h rfl (fun hb28 h => ?_) (fun hb28 h => ?_)
       ·refine rn 4 rfl ?_
        exact rt h rfl
       refine rn 8 rfl ?_
       refine spC h rfl (fun hb29 h => ?_) (fun hb29 h => ?_)
       ·refine rn 4 rfl ?_
        exact rt h rfl
       refine rn 6 rfl ?_
       refine spO 55 h rfl (fun hb30 h => ?_) (fun hb30 h => ?_)
       ·refine rn 5 rfl ?_
        refine aops_lookup _ (bV false) (bV ((mget a1.n.funcs x23.Func).getD false)) tMap72 tKey9 tZo4 (irel_con _) (wants_some (c := true) (b := true) 55 rfl rfl rfl) rfl .imm (.con rfl) ⟨_, rfl⟩ encM9_4_good (encM9_4_look a1.n.funcs x23.Func) (getD_map (encM9_4_val) (mget a1.n.funcs x23.Func) false) rfl ?_
        refine fo (rn 4 rfl ?_)
        refine spC h rfl (fun hb31 h => ?_) (fun hb31 h => ?_)
        ·refine rn 4 rfl ?_
         exact rt h rfl
        refine rn 1 rfl ?_
        exact jX () h (gr [0, 1] rfl (hB rfl rfl rfl (hB rfl rfl rfl .nil)) rfl)
       refine rn 12 rfl ?_
       exact jX () h (gr [0, 1] rfl (hB rfl rfl rfl (hB rfl rfl rfl .nil)) rfl)
      intro _ h
      refine rn 11 rfl ?_
      exact jX (x23.Name, (w64 (n21 + 1))) (hk2 _ h) (gr [0] rfl (hB rfl rfl rfl .nil) rfl)
     replace h := RG.f h hb22
     unfold M113_L2 at h
     refine rn 1 rfl ?_
     exact jX () h (gr [0] rfl (hB rfl rfl rfl .nil) rfl)
    intro _ h
    refine rn 1 rfl ?_
    exact jX x10.Name h (gr [0] rfl (hB rfl rfl rfl .nil) rfl)
   intro s9 h
   refine rn 4 rfl ?_
   exact jX (s9, (w64 (n6 + 1))) (hk1 _ h) (gr [0] rfl (hB rfl rfl rfl .nil) rfl)
  replace h := RG.f h hb7
  unfold M113_L1 at h
  refine rn 1 rfl ?_
  exact jX () h (g0 rfl rfl)
 intro _ h
 refine rn 4 rfl ?_
 exact rt h rfl
theorem W128 (F : Nat) (a1 : Tprovenderref6_checker) (a2 : TCall) (r : Int) (h : M128 F a1 a2 = some r) : Pure Try.prog 128 [(V.agg (encTprovenderref6_checker a1)), (V.agg (encTCall a2))] (iV r) := by
 refine pin (fun r => (iV r)) r rfl Try.func128 rfl rfl rfl rfl rfl (fun w0 m0 hg => ?_)
 unfold M128 at h
 refine rn 18 rfl ?_
 refine jK h (fun _ : Unit => (⟨[(3, (V.ptr 0 4 0 0))], [(0, (Ob.arr 82 4 [(encTCall a2)]))], 1⟩ : St)) (fun k3 (_ : Unit) => k3 = some r) (fun k3 h => ?_) ?_
 ·refine spC h rfl (fun hb4 h => ?_) (fun hb4 h => ?_)
  ·refine rn 7 rfl ?_
   refine spO 14 h rfl (fun hb5 h => ?_) (fun hb5 h => ?_)
   ·refine rn 5 rfl ?_
    refine aops_lookup _ (bV false) (bV ((mget a1.n.funcs a2.Target).getD false)) tMap72 tKey9 tZo4 (irel_con _) (wants_some (c := true) (b := true) 14 rfl rfl rfl) rfl .imm (.con rfl) ⟨_, rfl⟩ encM9_4_good (encM9_4_look a1.n.funcs a2.Target) (getD_map (encM9_4_val) (mget a1.n.funcs a2.Target) false) rfl ?_
    refine fo (rn 3 rfl ?_)
    refine spC h rfl (fun hb6 h => ?_) (fun hb6 h => ?_)
    ·refine rn 4 rfl ?_
     exact rt h rfl
    refine rn 7 rfl ?_
    refine spC h rfl (fun hb7 h => ?_) (fun hb7 h => ?_)
    ·refine rn 4 rfl ?_
     exact rt h rfl
    refine rn 1 rfl ?_
    exact jX () h (gr [1] rfl (hB rfl rfl rfl .nil) rfl)
   refine rn 17 rfl ?_
   refine spC h rfl (fun hb8 h => ?_) (fun hb8 h => ?_)
   ·refine rn 4 rfl ?_
    exact rt h rfl
   refine rn 1 rfl ?_
   exact jX () h (gr [1] rfl (hB rfl rfl rfl .nil) rfl)
  refine rn 5 rfl ?_
  refine spC h rfl (fun hb9 h => ?_) (fun hb9 h => ?_)
  ·refine rn 7 rfl ?_
   refine bs h (fun hb10 h => ?_) (fun hb10 h => ?_)
   ·refine aops_lookup_okB _ (V.con (.map none)) (V.imap (((mget a1.n.ifaces a2.Target).getD []).map encM9_4)) tMap136 tKey9 tZo72 (irel_con _) wants_none rfl .imm (.con rfl) ⟨_, rfl⟩ encM9_72_good (encM9_72_look a1.n.ifaces a2.Target) (getD_mapT (y := []) hb10) (isSomeT hb10) rfl ?_
    refine fo (rn 12 rfl ?_)
    refine spO 40 h rfl (fun hb11 h => ?_) (fun hb11 h => ?_)
    ·refine rn 6 rfl ?_
     refine aops_lookup _ (bV false) (bV ((mget ((mget a1.n.ifaces a2.Target).getD []) a2.Method).getD false)) tMap72 tKey9 tZo4 (irel_con _) (wants_some (c := false) (b := false) 43 rfl rfl rfl) rfl .imm (.con rfl) ⟨_, rfl⟩ encM9_4_good (encM9_4_look ((mget a1.n.ifaces a2.Target).getD []) a2.Method) (getD_map (encM9_4_val) (mget ((mget a1.n.ifaces a2.Target).getD []) a2.Method) false) rfl ?_
     refine fo (rn 4 rfl ?_)
     refine spC h rfl (fun hb12 h => ?_) (fun hb12 h => ?_)
     ·refine rn 4 rfl ?_
      exact rt h rfl
     refine rn 1 rfl ?_
     exact jX () h (gr [1] rfl (hB rfl rfl rfl .nil) rfl)
    refine rn 13 rfl ?_
    exact jX () h (gr [1] rfl (hB rfl rfl rfl .nil) rfl)
   refine aops_lookup_okB _ (V.con (.map none)) (V.con (.map none)) tMap136 tKey9 tZo72 (irel_con _) wants_none rfl .imm (.con rfl) ⟨_, rfl⟩ encM9_72_good (encM9_72_look a1.n.ifaces a2.Target) (getD_mapF hb10) (isSomeT hb10) rfl ?_
   refine fo (rn 12 rfl ?_)
   refine spO 40 h rfl (fun hb13 h => ?_) (fun hb13 h => ?_)
   ·refine rn 16 rfl ?_
    exact rt h rfl
   refine rn 13 rfl ?_
   exact jX () h (gr [1] rfl (hB rfl rfl rfl .nil) rfl)
  refine rn 4 rfl ?_
  exact rt h rfl
 intro _ h
 refine rn 8 rfl ?_
 refine spO 54 h rfl (fun hb14 h => ?_) (fun hb14 h => ?_)
 ·refine rn 2 rfl ?_
  refine cl h rfl rfl rfl (W91 _ _) rfl (fun y15 hx16 h => ?_)
  refine rn 3 rfl ?_
  refine spC h rfl (fun hb17 h => ?_) (fun hb17 h => ?_)
  ·refine rn 4 rfl ?_
   exact rt h rfl
  refine rn 5 rfl ?_
  exact rt h rfl
 refine rn 12 rfl ?_
 exact rt h rfl
theorem W114 (F : Nat) (a1 : Tprovenderref6_checker) (r : Int) (h : M114 F a1 = some r) : Pure Try.prog 114 [(V.agg (encTprovenderref6_checker a1))] (iV r) := by
 refine pin (fun r => (iV r)) r rfl Try.func114 rfl rfl rfl rfl rfl (fun w0 m0 hg => ?_)
 unfold M114 at h
 refine rn 15 rfl ?_
 refine ln rfl rfl ?_
 refine rn 2 rfl ?_
 refine jK h (fun _ : Unit => (⟨[], [], 0⟩ : St)) (fun k2 (_ : Unit) => k2 = some r) (fun k2 h => ?_) ?_
 ·refine rn 1 rfl ?_
  refine wl (A := a1.g.Funcs) 14 rfl (fun hA46 => ?_)
  refine lC (fun (p : (List UInt8) × Int) => (⟨[(1, (V.ptr 0 8 0 0)), (3, (sV (p.1))), (14, (V.lst 4 (a1.g.Funcs.map encTFunc))), (15, (iV ((a1.g.Funcs.length : Nat) : Int))), (16, (iV (p.2)))], [(0, (Ob.arr 165 8 [(encTprovenderref6_checker a1)]))], 1⟩ : St)) (fun n p => RG a1.g.Funcs (fun tl nn => M114_L1 F a1 k2 tl p.1 = some r) n p.2) (fun p h => RG.zero h) (a1.g.Funcs.length + 1) (([] : List UInt8), 0) (RG.start h) (gr [0] rfl (hB rfl rfl rfl .nil) rfl) (fun n p h => ?_)
  obtain ⟨s5, n6⟩ := p
  refine rn 5 rfl ?_
  refine spL rfl (fun hb7 => ?_) (fun hb7 => ?_)
  ·obtain ⟨x10, tl, hx11, h, hk1⟩ := RG.t hA46 h hb7
   unfold M114_L1 at h
   refine rn 2 rfl ?_
   refine jK h (fun (p : (List UInt8)) => (⟨[(1, (V.ptr 0 8 0 0)), (3, (sV p)), (14, (V.lst 4 (a1.g.Funcs.map encTFunc))), (15, (iV ((a1.g.Funcs.length : Nat) : Int))), (16, (iV n6))], [(0, (Ob.arr 165 8 [(encTprovenderref6_checker a1)]))], 1⟩ : St)) (fun k8 p => k8 p = some r) (fun k8 h => ?_) ?_
   ·refine rn 3 rfl ?_
    refine ixh hx11 rfl rfl ?_
    refine rn 10 rfl ?_
    refine cl h rfl rfl rfl (W91 _ _) rfl (fun y12 hx13 h => ?_)
    refine rn 3 rfl ?_
    refine spC h rfl (fun hb14 h => ?_) (fun hb14 h => ?_)
    ·refine rn 4 rfl ?_
     exact rt h rfl
    refine rn 8 rfl ?_
    refine spC h rfl (fun hb15 h => ?_) (fun hb15 h => ?_)
    ·refine rn 4 rfl ?_
     exact rt h rfl
    refine rn 4 rfl ?_
    refine cl h rfl rfl rfl (W91 _ _) rfl (fun y16 hx17 h => ?_)
    refine rn 3 rfl ?_
    refine spC h rfl (fun hb18 h => ?_) (fun hb18 h => ?_)
    ·refine rn 4 rfl ?_
     exact rt h rfl
    refine rn 4 rfl ?_
    refine ln rfl rfl ?_
    refine rn 3 rfl ?_
    refine spC h rfl (fun hb19 h => ?_) (fun hb19 h => ?_)
    ·refine rn 4 rfl ?_
     exact rt h rfl
    refine rn 13 rfl ?_
    refine ln rfl rfl ?_
    refine rn 2 rfl ?_
    refine jK h (fun _ : Unit => (⟨[(1, (V.ptr 0 8 0 0)), (3, (sV x10.Name)), (5, (V.ptr 1 4 0 0)), (14, (V.lst 4 (a1.g.Funcs.map encTFunc))), (15, (iV ((a1.g.Funcs.length : Nat) : Int))), (16, (iV n6))], [(0, (Ob.arr 165 8 [(encTprovenderref6_checker a1)])), (1, (Ob.arr 69 4 [(encTFunc x10)]))], 2⟩ : St)) (fun k20 (_ : Unit) => k20 = some r) (fun k20 h => ?_) ?_
    ·refine rn 1 rfl ?_
     refine wl (A := x10.Calls) 37 rfl (fun hA29 => ?_)
     refine lC (fun (p : Int) => (⟨[(1, (V.ptr 0 8 0 0)), (3, (sV x10.Name)), (5, (V.ptr 1 4 0 0)), (14, (V.lst 4 (a1.g.Funcs.map encTFunc))), (15, (iV ((a1.g.Funcs.length : Nat) : Int))), (16, (iV n6)), (43, (V.lst 4 (x10.Calls.map encTCall))), (44, (iV ((x10.Calls.length : Nat) : Int))), (45, (iV p))], [(0, (Ob.arr 165 8 [(encTprovenderref6_checker a1)])), (1, (Ob.arr 69 4 [(encTFunc x10)]))], 2⟩ : St)) (fun n p => RG x10.Calls (fun tl nn => M114_L2 F a1 k20 tl = some r) n p) (fun p h => RG.zero h) (x10.Calls.length + 1) 0 (RG.start h) (gr [0, 1] rfl (hB rfl rfl rfl (hB rfl rfl rfl .nil)) rfl) (fun n n22 h => ?_)
     refine rn 5 rfl ?_
     refine spL rfl (fun hb23 => ?_) (fun hb23 => ?_)
     ·obtain ⟨x24, tl, hx25, h, hk2⟩ := RG.t hA29 h hb23
      unfold M114_L2 at h
      refine rn 5 rfl ?_
      refine ixh hx25 rfl rfl ?_
      refine rn 8 rfl ?_
      refine cl h rfl rfl rfl (W128 _ _ _) rfl (fun y26 hx27 h => ?_)
      refine rn 7 rfl ?_
      refine spC h rfl (fun hb28 h => ?_) (fun hb28 h => ?_)
      ·refine rn 5 rfl ?_
       exact rt h rfl
      refine rn 6 rfl ?_
      exact jX (w64 (n22 + 1)) (hk2 _ h) (gr [0, 1] rfl (hB rfl rfl rfl (hB rfl rfl rfl .nil)) rfl)
     replace h := RG.f h hb23
     unfold M114_L2 at h
     refine rn 1 rfl ?_
     exact jX () h (gr [0, 1] rfl (hB rfl rfl rfl (hB rfl rfl rfl .nil)) rfl)
    intro _ h
    refine rn 4 rfl ?_
    refine ln rfl rfl ?_
    refine rn 2 rfl ?_
    refine jK h (fun _ : Unit => (⟨[(1, (V.ptr 0 8 0 0)), (3, (sV x10.Name)), (14, (V.lst 4 (a1.g.Funcs.map encTFunc))), (15, (iV ((a1.g.Funcs.length : Nat) : Int))), (16, (iV n6))], [(0, (Ob.arr 165 8 [(encTprovenderref6_checker a1)]))], 1⟩ : St)) (fun k30 (_ : Unit) => k30 = some r) (fun k30 h => ?_) ?_
    ·refine rn 1 rfl ?_
     refine wl (A := x10.Makes) 57 rfl (fun hA45 => ?_)
     refine lC (fun (p : Int) => (⟨[(1, (V.ptr 0 8 0 0)), (3, (sV x10.Name)), (5, (V.ptr 1 4 0 0)), (14, (V.lst 4 (a1.g.Funcs.map encTFunc))), (15, (iV ((a1.g.Funcs.length : Nat) : Int))), (16, (iV n6)), (57, (V.lst 1 (x10.Makes.map encS))), (58, (iV ((x10.Makes.length : Nat) : Int))), (59, (iV p))], [(0, (Ob.arr 165 8 [(encTprovenderref6_checker a1)])), (1, (Ob.arr 69 4 [(encTFunc x10)]))], 2⟩ : St)) (fun n p => RG x10.Makes (fun tl nn => M114_L3 F a1 x10 k30 tl nn = some r) n p) (fun p h => RG.zero h) (x10.Makes.length + 1) 0 (RG.start h) (gr [0, 1] rfl (hB rfl rfl rfl (hB rfl rfl rfl .nil)) rfl) (fun n n32 h => ?_)
     refine rn 5 rfl ?_
     refine spL rfl (fun hb33 => ?_) (fun hb33 => ?_)
     ·obtain ⟨x35, tl, hx36, h, hk3⟩ := RG.t hA45 h hb33
      unfold M114_L3 at h
      refine rn 2 rfl ?_
      refine jK h (fun _ : Unit => (⟨[(1, (V.ptr 0 8 0 0)), (3, (sV x10.Name)), (5, (V.ptr 1 4 0 0)), (14, (V.lst 4 (a1.g.Funcs.map encTFunc))), (15, (iV ((a1.g.Funcs.length : Nat) : Int))), (16, (iV n6)), (57, (V.lst 1 (x10.Makes.map encS))), (58, (iV ((x10.Makes.length : Nat) : Int))), (59, (iV n32))], [(0, (Ob.arr 165 8 [(encTprovenderref6_checker a1)])), (1, (Ob.arr 69 4 [(encTFunc x10)]))], 2⟩ : St)) (fun k34 (_ : Unit) => k34 = some r) (fun k34 h => ?_) ?_
      ·refine rn 4 rfl ?_
       refine ixh hx36 rfl rfl ?_
       refine rn 11 rfl ?_
       refine spO 67 h rfl (fun hb37 h => ?_) (fun hb37 h => ?_)
       ·refine rn 4 rfl ?_
        refine aops_lookup _ (bV false) (bV ((mget a1.n.types x35).getD false)) tMap72 tKey9 tZo4 (irel_con _) (wants_some (c := true) (b := true) 67 rfl rfl rfl) rfl .imm (.con rfl) ⟨_, rfl⟩ encM9_4_good (encM9_4_look a1.n.types x35) (getD_map (encM9_4_val) (mget a1.n.types x35) false) rfl ?_
        refine fo (rn 3 rfl ?_)
        refine spC h rfl (fun hb38 h => ?_) (fun hb38 h => ?_)
        ·refine rn 4 rfl ?_
         exact rt h rfl
        refine rn 6 rfl ?_
        refine cl h rfl rfl rfl (W92 _ _ _) rfl (fun y39 hx40 h => ?_)
        refine rn 7 rfl ?_
        refine spC h rfl (fun hb41 h => ?_) (fun hb41 h => ?_)
        ·refine rn 5 rfl ?_
         exact rt h rfl
        refine rn 2 rfl ?_
        exact jX () h (gr [0, 1] rfl (hB rfl rfl rfl (hB rfl rfl rfl .nil)) rfl)
       refine rn 15 rfl ?_
       refine cl h rfl rfl rfl (W92 _ _ _) rfl (fun y42 hx43 h => ?_)
       refine rn 7 rfl ?_
       refine spC h rfl (fun hb44 h => ?_) (fun hb44 h => ?_)
       ·refine rn 5 rfl ?_
        exact rt h rfl
       refine rn 2 rfl ?_
       exact jX () h (gr [0, 1] rfl (hB rfl rfl rfl (hB rfl rfl rfl .nil)) rfl)
      intro _ h
      refine rn 4 rfl ?_
      exact jX (w64 (n32 + 1)) (hk3 _ h) (gr [0, 1] rfl (hB rfl rfl rfl (hB rfl rfl rfl .nil)) rfl)
     replace h := RG.f h hb33
     unfold M114_L3 at h
     refine rn 1 rfl ?_
     exact jX () h (gr [0] rfl (hB rfl rfl rfl .nil) rfl)
    intro _ h
    refine rn 1 rfl ?_
    exact jX x10.Name h (gr [0] rfl (hB rfl rfl rfl .nil) rfl)
   intro s9 h
   refine rn 4 rfl ?_
   exact jX (s9, (w64 (n6 + 1))) (hk1 _ h) (gr [0] rfl (hB rfl rfl rfl .nil) rfl)
  replace h := RG.f h hb7
  unfold M114_L1 at h
  refine rn 1 rfl ?_
  exact jX () h (g0 rfl rfl)
 intro _ h
 refine rn 4 rfl ?_
 exact rt h rfl
theorem W80 (F : Nat) (a1 : Tprovenderref6_checker) (r : Int) (h : M80 F a1 = some r) : Pure Try.prog 80 [(V.agg (encTprovenderref6_checker a1))] (iV r) := by
 refine pin (fun r => (iV r)) r rfl Try.func80 rfl rfl rfl rfl rfl (fun w0 m0 hg => ?_)
 unfold M80 at h
 refine rn 11 rfl ?_
 refine ln rfl rfl ?_
 refine rn 2 rfl ?_
 refine spO 14 h rfl (fun hb2 h => ?_) (fun hb2 h => ?_)
 ·refine rn 19 rfl ?_
  exact rt h rfl
 refine rn 3 rfl ?_
 refine ln rfl rfl ?_
 refine rn 3 rfl ?_
 refine spO 21 h rfl (fun hb3 h => ?_) (fun hb3 h => ?_)
 ·refine rn 12 rfl ?_
  exact rt h rfl
 refine rn 3 rfl ?_
 refine ln rfl rfl ?_
 refine rn 3 rfl ?_
 refine spC h rfl (fun hb4 h => ?_) (fun hb4 h => ?_)
 ·refine rn 4 rfl ?_
  exact rt h rfl
 refine rn 5 rfl ?_
 refine cl h rfl rfl rfl (W112 _ _) rfl (fun y5 hx6 h => ?_)
 refine rn 7 rfl ?_
 refine spC h rfl (fun hb7 h => ?_) (fun hb7 h => ?_)
 ·refine rn 5 rfl ?_
  exact rt h rfl
 refine rn 5 rfl ?_
 refine cl h rfl rfl rfl (W113 _ _) rfl (fun y8 hx9 h => ?_)
 refine rn 7 rfl ?_
 refine spC h rfl (fun hb10 h => ?_) (fun hb10 h => ?_)
 ·refine rn 5 rfl ?_
  exact rt h rfl
 refine rn 5 rfl ?_
 refine cl h rfl rfl rfl (W114 _ _) rfl (fun y11 hx12 h => ?_)
 refine rn 7 rfl ?_
 refine spC h rfl (fun hb13 h => ?_) (fun hb13 h => ?_)
 ·refine rn 5 rfl ?_
  exact rt h rfl
 refine rn 7 rfl ?_
 refine ln rfl rfl ?_
 refine rn 2 rfl ?_
 refine jK h (fun _ : Unit => (⟨[], [], 0⟩ : St)) (fun k14 (_ : Unit) => k14 = some r) (fun k14 h => ?_) ?_
 ·refine rn 1 rfl ?_
  refine wl (A := a1.g.Entries) 45 rfl (fun hA29 => ?_)
  refine lC (fun (p : Int) => (⟨[(1, (V.ptr 0 8 0 0)), (45, (V.lst 1 (a1.g.Entries.map encS))), (46, (iV ((a1.g.Entries.length : Nat) : Int))), (47, (iV p))], [(0, (Ob.arr 165 8 [(encTprovenderref6_checker a1)]))], 1⟩ : St)) (fun n p => RG a1.g.Entries (fun tl nn => M80_L1 F a1 k14 tl nn = some r) n p) (fun p h => RG.zero h) (a1.g.Entries.length + 1) 0 (RG.start h) (gr [0] rfl (hB rfl rfl rfl .nil) rfl) (fun n n16 h => ?_)
  refine rn 5 rfl ?_
  refine spL rfl (fun hb17 => ?_) (fun hb17 => ?_)
  ·obtain ⟨x19, tl, hx20, h, hk1⟩ := RG.t hA29 h hb17
   unfold M80_L1 at h
   refine rn 2 rfl ?_
   refine jK h (fun _ : Unit => (⟨[(1, (V.ptr 0 8 0 0)), (45, (V.lst 1 (a1.g.Entries.map encS))), (46, (iV ((a1.g.Entries.length : Nat) : Int))), (47, (iV n16))], [(0, (Ob.arr 165 8 [(encTprovenderref6_checker a1)]))], 1⟩ : St)) (fun k18 (_ : Unit) => k18 = some r) (fun k18 h => ?_) ?_
   ·refine rn 4 rfl ?_
    refine ixh hx20 rfl rfl ?_
    refine rn 11 rfl ?_
    refine spO 55 h rfl (fun hb21 h => ?_) (fun hb21 h => ?_)
    ·refine rn 4 rfl ?_
     refine aops_lookup _ (bV false) (bV ((mget a1.n.funcs x19).getD false)) tMap72 tKey9 tZo4 (irel_con _) (wants_some (c := true) (b := true) 55 rfl rfl rfl) rfl .imm (.con rfl) ⟨_, rfl⟩ encM9_4_good (encM9_4_look a1.n.funcs x19) (getD_map (encM9_4_val) (mget a1.n.funcs x19) false) rfl ?_
     refine fo (rn 3 rfl ?_)
     refine spC h rfl (fun hb22 h => ?_) (fun hb22 h => ?_)
     ·refine rn 4 rfl ?_
      exact rt h rfl
     refine rn 7 rfl ?_
     refine cl h rfl rfl rfl (W92 _ _ _) rfl (fun y23 hx24 h => ?_)
     refine rn 7 rfl ?_
     refine spC h rfl (fun hb25 h => ?_) (fun hb25 h => ?_)
     ·refine rn 5 rfl ?_
      exact rt h rfl
     refine rn 2 rfl ?_
     exact jX () h (gr [0] rfl (hB rfl rfl rfl .nil) rfl)
    refine rn 16 rfl ?_
    refine cl h rfl rfl rfl (W92 _ _ _) rfl (fun y26 hx27 h => ?_)
    refine rn 7 rfl ?_
    refine spC h rfl (fun hb28 h => ?_) (fun hb28 h => ?_)
    ·refine rn 5 rfl ?_
     exact rt h rfl
    refine rn 2 rfl ?_
    exact jX () h (gr [0] rfl (hB rfl rfl rfl .nil) rfl)
   intro _ h
   refine rn 4 rfl ?_
   exact jX (w64 (n16 + 1)) (hk1 _ h) (gr [0] rfl (hB rfl rfl rfl .nil) rfl)
  replace h := RG.f h hb17
  unfold M80_L1 at h
  refine rn 1 rfl ?_
  exact jX () h (g0 rfl rfl)
 intro _ h
 refine rn 4 rfl ?_
 exact rt h rfl
theorem W50 (F : Nat) (a1 : TGraph) (r : Int) (h : M50 F a1 = some r) : Pure Try.prog 50 [(V.agg (encTGraph a1))] (iV r) := by
 refine pin (fun r => (iV r)) r rfl Try.func50 rfl rfl rfl rfl rfl (fun w0 m0 hg => ?_)
 unfold M50 at h
 obtain ⟨y2, hx3, h⟩ := bind_some h
 obtain ⟨y4, hx5, h⟩ := bind_some h
 refine rn 6 rfl ?_
 refine dr mixed (vs 2 rfl (cD rfl rfl rfl rfl (W65 _ _ _ hx3) rfl (vs 1 rfl (cD rfl rfl rfl rfl (W80 _ _ _ hx5) rfl (vs 1 rfl .nil))))) (by kernel_rfl) ?_
 exact rt h rfl
theorem W63 (F : Nat) (a1 : (List (List UInt8))) (r : Int) (h : M63 F a1 = some r) : Pure Try.prog 63 [(V.lst 1 (a1.map encS))] (iV r) := by
 refine pin (fun r => (iV r)) r rfl Try.func63 rfl rfl rfl rfl rfl (fun w0 m0 hg => ?_)
 unfold M63 at h
 refine rn 8 rfl ?_
 refine ln rfl rfl ?_
 refine rn 2 rfl ?_
 refine spC h rfl (fun hb2 h => ?_) (fun hb2 h => ?_)
 ·refine rn 4 rfl ?_
  exact rt h rfl
 refine rn 5 rfl ?_
 refine ln rfl rfl ?_
 refine rn 2 rfl ?_
 refine jK h (fun _ : Unit => (⟨[], [], 0⟩ : St)) (fun k3 (_ : Unit) => k3 = some r) (fun k3 h => ?_) ?_
 ·refine rn 1 rfl ?_
  refine wl (A := a1) 0 rfl (fun hA15 => ?_)
  refine lC (fun (p : Int) => (⟨[(0, (V.lst 1 (a1.map encS))), (9, (V.lst 1 (a1.map encS))), (10, (iV ((a1.length : Nat) : Int))), (11, (iV p))], [], 0⟩ : St)) (fun n p => RG a1 (fun tl nn => M63_L1 F a1 k3 tl nn = some r) n p) (fun p h => RG.zero h) (a1.length + 1) 0 (RG.start h) (g0 rfl rfl) (fun n n5 h => ?_)
  refine rn 5 rfl ?_
  refine spL rfl (fun hb6 => ?_) (fun hb6 => ?_)
  ·obtain ⟨x7, tl, hx8, h, hk1⟩ := RG.t hA15 h hb6
   unfold M63_L1 at h
   refine rn 6 rfl ?_
   refine ixh hx8 rfl rfl ?_
   refine rn 8 rfl ?_
   refine cl h rfl rfl rfl (W91 _ _) rfl (fun y9 hx10 h => ?_)
   refine rn 2 rfl ?_
   refine spC h rfl (fun hb11 h => ?_) (fun hb11 h => ?_)
   ·refine rn 4 rfl ?_
    exact rt h rfl
   refine rn 5 rfl ?_
   refine cl h rfl rfl rfl (W92 _ _ _) rfl (fun y12 hx13 h => ?_)
   refine rn 7 rfl ?_
   refine spC h rfl (fun hb14 h => ?_) (fun hb14 h => ?_)
   ·refine rn 5 rfl ?_
    exact rt h rfl
   refine rn 6 rfl ?_
   exact jX (w64 (n5 + 1)) (hk1 _ h) (g0 rfl rfl)
  replace h := RG.f h hb6
  unfold M63_L1 at h
  refine rn 1 rfl ?_
  exact jX () h (g0 rfl rfl)
 intro _ h
 refine rn 4 rfl ?_
 exact rt h rfl
theorem W52 (F : Nat) (a1 : TGraph) (a2 : (List UInt8)) (r : (TIface × Bool)) (h : M52 F a1 a2 = some r) : Pure Try.prog 52 [(V.agg (encTGraph a1)), (sV a2)] (V.tup [(V.agg (encTIface (r.1))), (bV (r.2))]) := by
 refine pin (fun r => (V.tup [(V.agg (encTIface (r.1))), (bV (r.2))])) r rfl Try.func52 rfl rfl rfl rfl rfl (fun w0 m0 hg => ?_)
 unfold M52 at h
 refine rn 11 rfl ?_
 refine ln rfl rfl ?_
 refine rn 2 rfl ?_
 refine jK h (fun _ : Unit => (⟨[(4, (V.ptr 0 2 0 0))], [(0, (Ob.arr 101 2 [[(sV ([] : List UInt8)), nV]]))], 1⟩ : St)) (fun k3 (_ : Unit) => k3 = some r) (fun k3 h => ?_) ?_
 ·refine rn 1 rfl ?_
  refine wl (A := a1.Ifaces) 9 rfl (fun hA10 => ?_)
  refine lC (fun (p : Int) => (⟨[(1, (sV a2)), (4, (V.ptr 0 2 0 0)), (9, (V.lst 2 (a1.Ifaces.map encTIface))), (10, (iV ((a1.Ifaces.length : Nat) : Int))), (11, (iV p))], [(0, (Ob.arr 101 2 [[(sV ([] : List UInt8)), nV]]))], 1⟩ : St)) (fun n p => RG a1.Ifaces (fun tl nn => M52_L1 F a2 k3 tl = some r) n p) (fun p h => RG.zero h) (a1.Ifaces.length + 1) 0 (RG.start h) (gr [1] rfl (hB rfl rfl rfl .nil) rfl) (fun n n5 h => ?_)
  refine rn 5 rfl ?_
  refine spL rfl (fun hb6 => ?_) (fun hb6 => ?_)
  ·obtain ⟨x7, tl, hx8, h, hk1⟩ := RG.t hA10 h hb6
   unfold M52_L1 at h
   refine rn 5 rfl ?_
   refine ixh hx8 rfl rfl ?_
   refine rn 11 rfl ?_
   refine spC h rfl (fun hb9 h => ?_) (fun hb9 h => ?_)
   ·refine rn 6 rfl ?_
    exact rt h rfl
   refine rn 6 rfl ?_
   exact jX (w64 (n5 + 1)) (hk1 _ h) (gr [0] rfl (hB rfl rfl rfl .nil) rfl)
  replace h := RG.f h hb6
  unfold M52_L1 at h
  refine rn 1 rfl ?_
  exact jX () h (gr [0] rfl (hB rfl rfl rfl .nil) rfl)
 intro _ h
 refine rn 6 rfl ?_
 exact rt h rfl
theorem W81 (F : Nat) (a1 : TType) (a2 : (List UInt8)) (r : ((List UInt8) × Bool)) (h : M81 F a1 a2 = some r) : Pure Try.prog 81 [(V.agg (encTType a1)), (sV a2)] (V.tup [(sV (r.1)), (bV (r.2))]) := by
 refine pin (fun r => (V.tup [(sV (r.1)), (bV (r.2))])) r rfl Try.func81 rfl rfl rfl rfl rfl (fun w0 m0 hg => ?_)
 unfold M81 at h
 refine rn 11 rfl ?_
 refine ln rfl rfl ?_
 refine rn 2 rfl ?_
 refine jK h (fun _ : Unit => (⟨[], [], 0⟩ : St)) (fun k3 (_ : Unit) => k3 = some r) (fun k3 h => ?_) ?_
 ·refine rn 1 rfl ?_
  refine wl (A := a1.Methods) 9 rfl (fun hA10 => ?_)
  refine lC (fun (p : Int) => (⟨[(1, (sV a2)), (9, (V.lst 2 (a1.Methods.map encTMethod))), (10, (iV ((a1.Methods.length : Nat) : Int))), (11, (iV p))], [], 0⟩ : St)) (fun n p => RG a1.Methods (fun tl nn => M81_L1 F a2 k3 tl = some r) n p) (fun p h => RG.zero h) (a1.Methods.length + 1) 0 (RG.start h) (g0 rfl rfl) (fun n n5 h => ?_)
  refine rn 5 rfl ?_
  refine spL rfl (fun hb6 => ?_) (fun hb6 => ?_)
  ·obtain ⟨x7, tl, hx8, h, hk1⟩ := RG.t hA10 h hb6
   unfold M81_L1 at h
   refine rn 5 rfl ?_
   refine ixh hx8 rfl rfl ?_
   refine rn 11 rfl ?_
   refine spC h rfl (fun hb9 h => ?_) (fun hb9 h => ?_)
   ·refine rn 7 rfl ?_
    exact rt h rfl
   refine rn 6 rfl ?_
   exact jX (w64 (n5 + 1)) (hk1 _ h) (g0 rfl rfl)
  replace h := RG.f h hb6
  unfold M81_L1 at h
  refine rn 1 rfl ?_
  exact jX () h (g0 rfl rfl)
 intro _ h
 refine rn 5 rfl ?_
 exact rt h rfl
theorem W53 (F : Nat) (a1 : TType) (a2 : TIface) (r : Bool) (h : M53 F a1 a2 = some r) : Pure Try.prog 53 [(V.agg (encTType a1)), (V.agg (encTIface a2))] (bV r) := by
 refine pin (fun r => (bV r)) r rfl Try.func53 rfl rfl rfl rfl rfl (fun w0 m0 hg => ?_)
 unfold M53 at h
 refine rn 11 rfl ?_
 refine ln rfl rfl ?_
 refine rn 2 rfl ?_
 refine jK h (fun _ : Unit => (⟨[], [], 0⟩ : St)) (fun k3 (_ : Unit) => k3 = some r) (fun k3 h => ?_) ?_
 ·refine rn 1 rfl ?_
  refine wl (A := a2.Methods) 10 rfl (fun hA12 => ?_)
  refine lC (fun (p : Int) => (⟨[(2, (V.ptr 0 2 0 0)), (10, (V.lst 1 (a2.Methods.map encS))), (11, (iV ((a2.Methods.length : Nat) : Int))), (12, (iV p))], [(0, (Ob.arr 94 2 [(encTType a1)]))], 1⟩ : St)) (fun n p => RG a2.Methods (fun tl nn => M53_L1 F a1 k3 tl = some r) n p) (fun p h => RG.zero h) (a2.Methods.length + 1) 0 (RG.start h) (gr [0] rfl (hB rfl rfl rfl .nil) rfl) (fun n n5 h => ?_)
  refine rn 5 rfl ?_
  refine spL rfl (fun hb6 => ?_) (fun hb6 => ?_)
  ·obtain ⟨x7, tl, hx8, h, hk1⟩ := RG.t hA12 h hb6
   unfold M53_L1 at h
   refine rn 5 rfl ?_
   refine ixh hx8 rfl rfl ?_
   refine rn 7 rfl ?_
   refine cl h rfl rfl rfl (W81 _ _ _) rfl (fun y9 hx10 h => ?_)
   refine rn 11 rfl ?_
   refine spC h rfl (fun hb11 h => ?_) (fun hb11 h => ?_)
   ·refine rn 4 rfl ?_
    exact rt h rfl
   refine rn 6 rfl ?_
   exact jX (w64 (n5 + 1)) (hk1 _ h) (gr [0] rfl (hB rfl rfl rfl .nil) rfl)
  replace h := RG.f h hb6
  unfold M53_L1 at h
  refine rn 1 rfl ?_
  exact jX () h (g0 rfl rfl)
 intro _ h
 refine rn 4 rfl ?_
 exact rt h rfl
theorem W58 (F : Nat) (a1 : TGraph) (a2 : TCall) (r : (List Tprovenderref6_aim)) (h : M58 F a1 a2 = some r) : Pure Try.prog 58 [(V.agg (encTGraph a1)), (V.agg (encTCall a2))] (V.lst 2 (r.map encTprovenderref6_aim)) := by
 refine pin (fun r => (V.lst 2 (r.map encTprovenderref6_aim))) r rfl Try.func58 rfl rfl rfl rfl rfl (fun w0 m0 hg => ?_)
 unfold M58 at h
 refine rn 13 rfl ?_
 refine spC h rfl (fun hb3 h => ?_) (fun hb3 h => ?_)
 ·refine rn 5 rfl ?_
  refine aops_buildSlice [(0, (V.agg [(sV ([] : List UInt8)), (sV a2.Target)]))] [[(sV ([] : List UInt8)), (sV a2.Target)]] tEl114 tZ117 rfl rfl rfl rfl wants_none (evp_cons rfl evp_nil) rfl rfl (by simp) rfl ?_
  refine fo (rn 2 rfl ?_)
  refine awp_ghost (ghost_frzEs 2 [4, 18] rfl (imms_rows (.cons (.cons (Imm.con _) (.cons (Imm.con _) .nil)) .nil)) (List.forall_mem_cons.2 ⟨rfl, (List.forall_mem_cons.2 ⟨rfl, (fun _ hx => nomatch hx)⟩)⟩) rfl) ?_
  refine fa ?_
  exact rt h rfl
 refine rn 6 rfl ?_
 refine cl h rfl rfl rfl (W52 _ _ _) rfl (fun y4 hx5 h => ?_)
 refine rn 16 rfl ?_
 refine ln rfl rfl ?_
 refine rn 2 rfl ?_
 refine jK h (fun (p : (List Tprovenderref6_aim)) => (⟨[(7, (V.own 0 p.length))], [(0, (Ob.arr 117 2 (p.map encTprovenderref6_aim)))], 1⟩ : St)) (fun k6 p => k6 p = some r) (fun k6 h => ?_) ?_
 ·refine rn 1 rfl ?_
  refine wl (A := a1.Types) 27 rfl (fun hA26 => ?_)
  refine lC (fun (p : Int × (List Tprovenderref6_aim)) => (⟨[(3, (V.ptr 0 4 0 0)), (5, (V.ptr 1 2 0 0)), (7, (V.own 2 (p.2).length)), (27, (V.lst 2 (a1.Types.map encTType))), (28, (iV ((a1.Types.length : Nat) : Int))), (29, (iV (p.1)))], [(0, (Ob.arr 82 4 [(encTCall a2)])), (1, (Ob.arr 101 2 [(encTIface (y4.1))])), (2, (Ob.arr 117 2 ((p.2).map encTprovenderref6_aim)))], 3⟩ : St)) (fun n p => RG a1.Types (fun tl nn => M58_L1 F a2 y4 k6 tl p.2 = some r) n p.1) (fun p h => RG.zero h) (a1.Types.length + 1) (0, ([] : List Tprovenderref6_aim)) (RG.start h) (Ghost.trans (ghost_nilE 7 117 2 rfl) (ghost_ren 3 (fun i => ([1, 2, 3] : List Nat).getD i 0) _ _ (by decide) (EnvSub.get (.cons (Sub.ptr rfl rfl) (.cons (Sub.ptr rfl rfl) (.cons (Sub.ownE rfl rfl (by simp)) (.cons (Sub.imm (Imm.lst _ _)) (.cons (Sub.imm (Imm.con _)) (.cons (Sub.imm (Imm.con _)) .nil))))))) (HpSub.get (.cons rfl (ObSub.box (.cons (Sub.imm (Imm.con _)) (.cons (Sub.imm (Imm.con _)) (.cons (Sub.imm (Imm.con _)) (.cons (Sub.imm (Imm.con _)) .nil))))) (.cons rfl (ObSub.box (.cons (Sub.imm (Imm.con _)) (.cons (Sub.imm (Imm.lst _ _)) .nil))) (.cons rfl (ObSub.rows (rows_imm imms_encTprovenderref6_aim)) .nil)))) rfl)) (fun n p h => ?_)
  obtain ⟨n10, l11⟩ := p
  refine rn 5 rfl ?_
  refine spL rfl (fun hb12 => ?_) (fun hb12 => ?_)
  ·obtain ⟨x15, tl, hx16, h, hk1⟩ := RG.t hA26 h hb12
   unfold M58_L1 at h
   refine rn 2 rfl ?_
   refine jK h (fun (p : (List Tprovenderref6_aim)) => (⟨[(3, (V.ptr 0 4 0 0)), (5, (V.ptr 1 2 0 0)), (7, (V.own 2 p.length)), (27, (V.lst 2 (a1.Types.map encTType))), (28, (iV ((a1.Types.length : Nat) : Int))), (29, (iV n10))], [(0, (Ob.arr 82 4 [(encTCall a2)])), (1, (Ob.arr 101 2 [(encTIface (y4.1))])), (2, (Ob.arr 117 2 (p.map encTprovenderref6_aim)))], 3⟩ : St)) (fun k13 p => k13 p = some r) (fun k13 h => ?_) ?_
   ·refine rn 3 rfl ?_
    refine ixh hx16 rfl rfl ?_
    refine rn 9 rfl ?_
    refine cl h rfl rfl rfl (W81 _ _ _) rfl (fun y17 hx18 h => ?_)
    refine rn 10 rfl ?_
    refine spO 41 h rfl (fun hb19 h => ?_) (fun hb19 h => ?_)
    ·refine rn 2 rfl ?_
     refine cl h rfl rfl rfl (W53 _ _ _) rfl (fun y20 hx21 h => ?_)
     refine rn 2 rfl ?_
     refine jK h (fun (p : (List Tprovenderref6_aim)) => (⟨[(3, (V.ptr 0 4 0 0)), (5, (V.ptr 1 2 0 0)), (7, (V.own 2 p.length)), (27, (V.lst 2 (a1.Types.map encTType))), (28, (iV ((a1.Types.length : Nat) : Int))), (29, (iV n10)), (42, (V.agg (encTType x15))), (43, (V.agg (encTIface (y4.1)))), (44, (bV y20))], [(0, (Ob.arr 82 4 [(encTCall a2)])), (1, (Ob.arr 101 2 [(encTIface (y4.1))])), (2, (Ob.arr 117 2 (p.map encTprovenderref6_aim)))], 3⟩ : St)) (fun k22 p => k22 p = some r) (fun k22 h => ?_) ?_
     ·refine spC h rfl (fun hb24 h => ?_) (fun hb24 h => ?_)
      ·refine rn 6 rfl ?_
       refine aops_buildSlice [(0, (V.agg [(sV x15.Name), (sV (y17.1))]))] [[(sV x15.Name), (sV (y17.1))]] tEl114 tZ117 rfl rfl rfl rfl wants_none (evp_cons rfl evp_nil) rfl rfl (by simp) rfl ?_
       refine fo ?_
       refine apO encTprovenderref6_aim h rfl rfl rfl rfl rfl rfl rfl rfl (fun h => ?_)
       refine rn 2 rfl ?_
       exact jX (l11 ++ ([(Tprovenderref6_aim.mk x15.Name (y17.1))] : List Tprovenderref6_aim)) h (gr [0, 1, 5] rfl (hB rfl rfl rfl (hB rfl rfl rfl (hR rfl rfl .nil))) rfl)
      refine rn 1 rfl ?_
      exact jX l11 h (gr [0, 1, 2] rfl (hB rfl rfl rfl (hB rfl rfl rfl (hR rfl rfl .nil))) rfl)
     intro l23 h
     refine rn 1 rfl ?_
     exact jX l23 h (gr [0, 1, 2] rfl (hB rfl rfl rfl (hB rfl rfl rfl (hR rfl rfl .nil))) rfl)
    refine rn 8 rfl ?_
    exact jX l11 h (gr [0, 1, 2] rfl (hB rfl rfl rfl (hB rfl rfl rfl (hR rfl rfl .nil))) rfl)
   intro l14 h
   refine rn 4 rfl ?_
   exact jX ((w64 (n10 + 1)), l14) (hk1 _ h) (gr [0, 1, 2] rfl (hB rfl rfl rfl (hB rfl rfl rfl (hR rfl rfl .nil))) rfl)
  replace h := RG.f h hb12
  unfold M58_L1 at h
  refine rn 1 rfl ?_
  exact jX l11 h (gr [2] rfl (hR rfl rfl .nil) rfl)
 intro l7 h
 refine rn 5 rfl ?_
 refine awp_ghost (ghost_frzEs 0 [4, 7, 54] rfl (rows_imm imms_encTprovenderref6_aim) (List.forall_mem_cons.2 ⟨rfl, (List.forall_mem_cons.2 ⟨rfl, (List.forall_mem_cons.2 ⟨rfl, (fun _ hx => nomatch hx)⟩)⟩)⟩) (List.length_map ..).symm) ?_
 refine fa ?_
 exact rt h rfl
theorem W35 (F : Nat) (a1 : TGraph) (a2 : (List (List UInt8))) (r : Tprovenderref6_net) (h : M35 F a1 a2 = some r) : Pure Try.prog 35 [(V.agg (encTGraph a1)), (V.lst 1 (a2.map encS))] (V.agg (encTprovenderref6_net r)) := by
 refine pin (fun r => (V.agg (encTprovenderref6_net r))) r rfl Try.func35 rfl rfl rfl rfl rfl (fun w0 m0 hg => ?_)
 unfold M35 at h
 refine rn 17 rfl ?_
 refine aops_insert (es := ([] : List ((List UInt8) × Bool)).map encM9_4) ((mput ([] : List ((List UInt8) × Bool)) ([] : List UInt8) true).map encM9_4) tMap72 tKey9 wants_none rfl rfl (.con rfl) ⟨_, rfl⟩ encM9_4_good rfl (encM9_4_puts ([] : List ((List UInt8) × Bool)) ([] : List UInt8) true) ?_
 refine fo (rn 7 rfl ?_)
 refine ln rfl rfl ?_
 refine rn 2 rfl ?_
 refine jK h (fun (p : (List ((List UInt8) × Bool))) => (⟨[(2, (V.ptr 0 4 0 0)), (4, (V.ptr 1 6 0 0)), (5, (V.ptr 2 6 0 0)), (6, (V.map 3))], [(0, (Ob.arr 27 4 [(encTGraph a1)])), (1, (Ob.arr 78 6 [[nV, nV, nV, nV, (V.con (.map none)), (V.con (.map none))]])), (2, (Ob.arr 78 6 [[(V.lst 2 (a1.Ifaces.map encTIface)), (V.lst 2 (a1.Types.map encTType)), (V.lst 4 (a1.Funcs.map encTFunc)), (V.lst 1 (a1.Entries.map encS)), (V.map 4), (V.map 5)]])), (3, (Ob.map (p.map encM9_4))), (4, (Ob.map (([] : List ((List UInt8) × (List Tprovenderref6_link))).map encM9_244))), (5, (Ob.map (([] : List ((List UInt8) × TFunc)).map encM9_69)))], 6⟩ : St)) (fun k3 p => k3 p = some r) (fun k3 h => ?_) ?_
 ·refine rn 1 rfl ?_
  refine wl (A := a2) 1 rfl (fun hA12 => ?_)
  refine lC (fun (p : Int × (List ((List UInt8) × Bool))) => (⟨[(2, (V.ptr 0 4 0 0)), (4, (V.ptr 1 6 0 0)), (5, (V.ptr 2 6 0 0)), (6, (V.map 3)), (23, (V.lst 1 (a2.map encS))), (24, (iV ((a2.length : Nat) : Int))), (25, (iV (p.1)))], [(0, (Ob.arr 27 4 [(encTGraph a1)])), (1, (Ob.arr 78 6 [[nV, nV, nV, nV, (V.con (.map none)), (V.con (.map none))]])), (2, (Ob.arr 78 6 [[(V.lst 2 (a1.Ifaces.map encTIface)), (V.lst 2 (a1.Types.map encTType)), (V.lst 4 (a1.Funcs.map encTFunc)), (V.lst 1 (a1.Entries.map encS)), (V.map 4), (V.map 5)]])), (3, (Ob.map ((p.2).map encM9_4))), (4, (Ob.map (([] : List ((List UInt8) × (List Tprovenderref6_link))).map encM9_244))), (5, (Ob.map (([] : List ((List UInt8) × TFunc)).map encM9_69)))], 6⟩ : St)) (fun n p => RG a2 (fun tl nn => M35_L1 F k3 tl p.2 = some r) n p.1) (fun p h => RG.zero h) (a2.length + 1) (0, (mput ([] : List ((List UInt8) × Bool)) ([] : List UInt8) true)) (RG.start h) (gr [0, 1, 4, 5, 2, 3] rfl (hB rfl rfl rfl (hB rfl rfl rfl (hB rfl rfl rfl (hM rfl rfl (hM rfl rfl (hM rfl rfl .nil)))))) rfl) (fun n p h => ?_)
  obtain ⟨n7, m8⟩ := p
  refine rn 5 rfl ?_
  refine spL rfl (fun hb9 => ?_) (fun hb9 => ?_)
  ·obtain ⟨x10, tl, hx11, h, hk1⟩ := RG.t hA12 h hb9
   unfold M35_L1 at h
   refine rn 5 rfl ?_
   refine ixh hx11 rfl rfl ?_
   refine rn 6 rfl ?_
   refine aops_mapUpdate (es := m8.map encM9_4) ((mput m8 x10 true).map encM9_4) tMap72 tKey9 wants_none rfl rfl (.con rfl) ⟨_, rfl⟩ encM9_4_good rfl (encM9_4_puts m8 x10 true) ?_
   refine fo (rn 6 rfl ?_)
   exact jX ((w64 (n7 + 1)), (mput m8 x10 true)) (hk1 _ h) (gr [0, 1, 2, 3, 4, 5] rfl (hB rfl rfl rfl (hB rfl rfl rfl (hB rfl rfl rfl (hM rfl rfl (hM rfl rfl (hM rfl rfl .nil)))))) rfl)
  replace h := RG.f h hb9
  unfold M35_L1 at h
  refine rn 1 rfl ?_
  exact jX m8 h (gr [0, 1, 2, 3, 4, 5] rfl (hB rfl rfl rfl (hB rfl rfl rfl (hB rfl rfl rfl (hM rfl rfl (hM rfl rfl (hM rfl rfl .nil)))))) rfl)
 intro m4 h
 refine rn 10 rfl ?_
 refine ln rfl rfl ?_
 refine rn 2 rfl ?_
 refine jK h (fun (p : (List ((List UInt8) × (List Tprovenderref6_link))) × (List ((List UInt8) × TFunc))) => (⟨[(4, (V.ptr 0 6 0 0)), (5, (V.ptr 1 6 0 0))], [(0, (Ob.arr 78 6 [[nV, nV, nV, nV, (V.con (.map none)), (V.con (.map none))]])), (1, (Ob.arr 78 6 [[(V.lst 2 (a1.Ifaces.map encTIface)), (V.lst 2 (a1.Types.map encTType)), (V.lst 4 (a1.Funcs.map encTFunc)), (V.lst 1 (a1.Entries.map encS)), (V.map 2), (V.map 3)]])), (2, (Ob.map ((p.1).map encM9_244))), (3, (Ob.map ((p.2).map encM9_69)))], 4⟩ : St)) (fun k13 p => k13 p.1 p.2 = some r) (fun k13 h => ?_) ?_
 ·refine rn 1 rfl ?_
  refine wl (A := a1.Funcs) 34 rfl (fun hA55 => ?_)
  refine lC (fun (p : Int × (List (TCall × (List Tprovenderref6_aim))) × (List ((List UInt8) × (List Tprovenderref6_link))) × (List ((List UInt8) × TFunc))) => (⟨[(2, (V.ptr 0 4 0 0)), (4, (V.ptr 1 6 0 0)), (5, (V.ptr 2 6 0 0)), (6, (V.map 3)), (9, (V.map 4)), (34, (V.lst 4 (a1.Funcs.map encTFunc))), (35, (iV ((a1.Funcs.length : Nat) : Int))), (36, (iV (p.1)))], [(0, (Ob.arr 27 4 [(encTGraph a1)])), (1, (Ob.arr 78 6 [[nV, nV, nV, nV, (V.con (.map none)), (V.con (.map none))]])), (2, (Ob.arr 78 6 [[(V.lst 2 (a1.Ifaces.map encTIface)), (V.lst 2 (a1.Types.map encTType)), (V.lst 4 (a1.Funcs.map encTFunc)), (V.lst 1 (a1.Entries.map encS)), (V.map 5), (V.map 6)]])), (3, (Ob.map (m4.map encM9_4))), (4, (Ob.map ((p.2.1).map encM82_114))), (5, (Ob.map ((p.2.2.1).map encM9_244))), (6, (Ob.map ((p.2.2.2).map encM9_69)))], 7⟩ : St)) (fun n p => RG a1.Funcs (fun tl nn => M35_L2 F a1 m4 k13 tl p.2.1 p.2.2.1 p.2.2.2 = some r) n p.1) (fun p h => RG.zero h) (a1.Funcs.length + 1) (0, ([] : List (TCall × (List Tprovenderref6_aim))), ([] : List ((List UInt8) × (List Tprovenderref6_link))), ([] : List ((List UInt8) × TFunc))) (RG.start h) (gr [0, 1, 2, 3, 6, 4, 5] rfl (hB rfl rfl rfl (hB rfl rfl rfl (hB rfl rfl rfl (hM rfl rfl (hM rfl rfl (hM rfl rfl (hM rfl rfl .nil))))))) rfl) (fun n p h => ?_)
  obtain ⟨n20, m21, m22, m23⟩ := p
  refine rn 5 rfl ?_
  refine spL rfl (fun hb24 => ?_) (fun hb24 => ?_)
  ·obtain ⟨x29, tl, hx30, h, hk2⟩ := RG.t hA55 h hb24
   unfold M35_L2 at h
   refine rn 2 rfl ?_
   refine jK h (fun (p : (List (TCall × (List Tprovenderref6_aim))) × (List ((List UInt8) × (List Tprovenderref6_link))) × (List ((List UInt8) × TFunc))) => (⟨[(2, (V.ptr 0 4 0 0)), (4, (V.ptr 1 6 0 0)), (5, (V.ptr 2 6 0 0)), (6, (V.map 3)), (9, (V.map 4)), (34, (V.lst 4 (a1.Funcs.map encTFunc))), (35, (iV ((a1.Funcs.length : Nat) : Int))), (36, (iV n20))], [(0, (Ob.arr 27 4 [(encTGraph a1)])), (1, (Ob.arr 78 6 [[nV, nV, nV, nV, (V.con (.map none)), (V.con (.map none))]])), (2, (Ob.arr 78 6 [[(V.lst 2 (a1.Ifaces.map encTIface)), (V.lst 2 (a1.Types.map encTType)), (V.lst 4 (a1.Funcs.map encTFunc)), (V.lst 1 (a1.Entries.map encS)), (V.map 5), (V.map 6)]])), (3, (Ob.map (m4.map encM9_4))), (4, (Ob.map ((p.1).map encM82_114))), (5, (Ob.map ((p.2.1).map encM9_244))), (6, (Ob.map ((p.2.2).map encM9_69)))], 7⟩ : St)) (fun k25 p => k25 p.1 p.2.1 p.2.2 = some r) (fun k25 h => ?_) ?_
   ·refine rn 3 rfl ?_
    refine ixh hx30 rfl rfl ?_
    refine rn 11 rfl ?_
    refine aops_mapUpdate (es := m23.map encM9_69) ((mput m23 x29.Name x29).map encM9_69) tMap76 tKey9 wants_none rfl rfl (.con rfl) ⟨_, rfl⟩ encM9_69_good rfl (encM9_69_puts m23 x29.Name x29) ?_
    refine fo (rn 5 rfl ?_)
    refine ln rfl rfl ?_
    refine rn 2 rfl ?_
    refine jK h (fun (p : (List (TCall × (List Tprovenderref6_aim))) × (List ((List UInt8) × (List Tprovenderref6_link)))) => (⟨[(2, (V.ptr 0 4 0 0)), (4, (V.ptr 1 6 0 0)), (5, (V.ptr 2 6 0 0)), (6, (V.map 3)), (9, (V.map 4)), (34, (V.lst 4 (a1.Funcs.map encTFunc))), (35, (iV ((a1.Funcs.length : Nat) : Int))), (36, (iV n20))], [(0, (Ob.arr 27 4 [(encTGraph a1)])), (1, (Ob.arr 78 6 [[nV, nV, nV, nV, (V.con (.map none)), (V.con (.map none))]])), (2, (Ob.arr 78 6 [[(V.lst 2 (a1.Ifaces.map encTIface)), (V.lst 2 (a1.Types.map encTType)), (V.lst 4 (a1.Funcs.map encTFunc)), (V.lst 1 (a1.Entries.map encS)), (V.map 5), (V.map 6)]])), (3, (Ob.map (m4.map encM9_4))), (4, (Ob.map ((p.1).map encM82_114))), (5, (Ob.map ((p.2).map encM9_244))), (6, (Ob.map ((mput m23 x29.Name x29).map encM9_69)))], 7⟩ : St)) (fun k31 p => k31 p.1 p.2 = some r) (fun k31 h => ?_) ?_
    ·refine rn 1 rfl ?_
     refine wl (A := x29.Calls) 46 rfl (fun hA54 => ?_)
     refine lC (fun (p : Int × (List (TCall × (List Tprovenderref6_aim))) × (List ((List UInt8) × (List Tprovenderref6_link)))) => (⟨[(2, (V.ptr 0 4 0 0)), (4, (V.ptr 1 6 0 0)), (5, (V.ptr 2 6 0 0)), (6, (V.map 3)), (9, (V.map 4)), (11, (V.ptr 5 4 0 0)), (34, (V.lst 4 (a1.Funcs.map encTFunc))), (35, (iV ((a1.Funcs.length : Nat) : Int))), (36, (iV n20)), (46, (V.lst 4 (x29.Calls.map encTCall))), (47, (iV ((x29.Calls.length : Nat) : Int))), (48, (iV (p.1)))], [(0, (Ob.arr 27 4 [(encTGraph a1)])), (1, (Ob.arr 78 6 [[nV, nV, nV, nV, (V.con (.map none)), (V.con (.map none))]])), (2, (Ob.arr 78 6 [[(V.lst 2 (a1.Ifaces.map encTIface)), (V.lst 2 (a1.Types.map encTType)), (V.lst 4 (a1.Funcs.map encTFunc)), (V.lst 1 (a1.Entries.map encS)), (V.map 6), (V.map 7)]])), (3, (Ob.map (m4.map encM9_4))), (4, (Ob.map ((p.2.1).map encM82_114))), (5, (Ob.arr 69 4 [(encTFunc x29)])), (6, (Ob.map ((p.2.2).map encM9_244))), (7, (Ob.map ((mput m23 x29.Name x29).map encM9_69)))], 8⟩ : St)) (fun n p => RG x29.Calls (fun tl nn => M35_L3 F a1 m4 x29 k31 tl nn p.2.1 p.2.2 = some r) n p.1) (fun p h => RG.zero h) (x29.Calls.length + 1) (0, m21, m22) (RG.start h) (gr [0, 1, 2, 3, 4, 7, 5, 6] rfl (hB rfl rfl rfl (hB rfl rfl rfl (hB rfl rfl rfl (hM rfl rfl (hM rfl rfl (hB rfl rfl rfl (hM rfl rfl (hM rfl rfl .nil)))))))) rfl) (fun n p h => ?_)
     obtain ⟨n37, m38, m39⟩ := p
     refine rn 5 rfl ?_
     refine spL rfl (fun hb40 => ?_) (fun hb40 => ?_)
     ·obtain ⟨x44, tl, hx45, h, hk3⟩ := RG.t hA54 h hb40
      unfold M35_L3 at h
      refine rn 2 rfl ?_
      refine jK h (fun (p : (List (TCall × (List Tprovenderref6_aim))) × (List ((List UInt8) × (List Tprovenderref6_link)))) => (⟨[(2, (V.ptr 0 4 0 0)), (4, (V.ptr 1 6 0 0)), (5, (V.ptr 2 6 0 0)), (6, (V.map 3)), (9, (V.map 4)), (11, (V.ptr 5 4 0 0)), (34, (V.lst 4 (a1.Funcs.map encTFunc))), (35, (iV ((a1.Funcs.length : Nat) : Int))), (36, (iV n20)), (46, (V.lst 4 (x29.Calls.map encTCall))), (47, (iV ((x29.Calls.length : Nat) : Int))), (48, (iV n37))], [(0, (Ob.arr 27 4 [(encTGraph a1)])), (1, (Ob.arr 78 6 [[nV, nV, nV, nV, (V.con (.map none)), (V.con (.map none))]])), (2, (Ob.arr 78 6 [[(V.lst 2 (a1.Ifaces.map encTIface)), (V.lst 2 (a1.Types.map encTType)), (V.lst 4 (a1.Funcs.map encTFunc)), (V.lst 1 (a1.Entries.map encS)), (V.map 6), (V.map 7)]])), (3, (Ob.map (m4.map encM9_4))), (4, (Ob.map ((p.1).map encM82_114))), (5, (Ob.arr 69 4 [(encTFunc x29)])), (6, (Ob.map ((p.2).map encM9_244))), (7, (Ob.map ((mput m23 x29.Name x29).map encM9_69)))], 8⟩ : St)) (fun k41 p => k41 p.1 p.2 = some r) (fun k41 h => ?_) ?_
      ·refine rn 4 rfl ?_
       refine ixh hx45 rfl rfl ?_
       refine rn 11 rfl ?_
       refine aops_lookup _ (bV false) (bV ((mget m4 x44.Feature).getD false)) tMap72 tKey9 tZo4 (irel_con _) wants_none rfl (.own rfl) (.con rfl) ⟨_, rfl⟩ encM9_4_good (encM9_4_look m4 x44.Feature) (getD_map (encM9_4_val) (mget m4 x44.Feature) false) rfl ?_
       refine fo (rn 2 rfl ?_)
       refine spC h rfl (fun hb46 h => ?_) (fun hb46 h => ?_)
       ·refine rn 1 rfl ?_
        exact jX (m38, m39) h (gr [0, 1, 2, 3, 4, 5, 6, 7] rfl (hB rfl rfl rfl (hB rfl rfl rfl (hB rfl rfl rfl (hM rfl rfl (hM rfl rfl (hB rfl rfl rfl (hM rfl rfl (hM rfl rfl .nil)))))))) rfl)
       refine rn 17 rfl ?_
       refine aops_lookup_okB _ (V.lst 2 (([] : (List Tprovenderref6_aim)).map encTprovenderref6_aim)) (V.lst 2 (((mget m38 (TCall.mk x44.Kind x44.Target x44.Method ([] : List UInt8))).getD ([] : (List Tprovenderref6_aim))).map encTprovenderref6_aim)) tMap151 tKey82 tZo114 (fun _ => .nil _ _ _) wants_none rfl (.own rfl) (.agg (cv82 (TCall.mk x44.Kind x44.Target x44.Method ([] : List UInt8))) rfl) ⟨_, rfl⟩ encM82_114_good (encM82_114_look m38 (TCall.mk x44.Kind x44.Target x44.Method ([] : List UInt8))) (getD_map (encM82_114_val) (mget m38 (TCall.mk x44.Kind x44.Target x44.Method ([] : List UInt8))) ([] : (List Tprovenderref6_aim))) (isSome_map ..) rfl ?_
       refine fo (rn 12 rfl ?_)
       refine jK h (fun (p : (List Tprovenderref6_aim) × (List (TCall × (List Tprovenderref6_aim)))) => (⟨[(2, (V.ptr 0 4 0 0)), (4, (V.ptr 1 6 0 0)), (5, (V.ptr 2 6 0 0)), (6, (V.map 3)), (9, (V.map 4)), (11, (V.ptr 5 4 0 0)), (12, (iV n37)), (15, (V.lst 2 ((p.1).map encTprovenderref6_aim))), (34, (V.lst 4 (a1.Funcs.map encTFunc))), (35, (iV ((a1.Funcs.length : Nat) : Int))), (36, (iV n20)), (46, (V.lst 4 (x29.Calls.map encTCall))), (47, (iV ((x29.Calls.length : Nat) : Int))), (48, (iV n37))], [(0, (Ob.arr 27 4 [(encTGraph a1)])), (1, (Ob.arr 78 6 [[nV, nV, nV, nV, (V.con (.map none)), (V.con (.map none))]])), (2, (Ob.arr 78 6 [[(V.lst 2 (a1.Ifaces.map encTIface)), (V.lst 2 (a1.Types.map encTType)), (V.lst 4 (a1.Funcs.map encTFunc)), (V.lst 1 (a1.Entries.map encS)), (V.map 6), (V.map 7)]])), (3, (Ob.map (m4.map encM9_4))), (4, (Ob.map ((p.2).map encM82_114))), (5, (Ob.arr 69 4 [(encTFunc x29)])), (6, (Ob.map (m39.map encM9_244))), (7, (Ob.map ((mput m23 x29.Name x29).map encM9_69)))], 8⟩ : St)) (fun k47 p => k47 p.1 p.2 = some r) (fun k47 h => ?_) ?_
       ·refine spC h rfl (fun hb50 h => ?_) (fun hb50 h => ?_)
        ·refine rn 4 rfl ?_
         refine cl h rfl rfl rfl (W58 _ _ _) rfl (fun y51 hx52 h => ?_)
         refine rn 6 rfl ?_
         refine aops_mapUpdate (es := m38.map encM82_114) ((mput m38 (TCall.mk x44.Kind x44.Target x44.Method ([] : List UInt8)) y51).map encM82_114) tMap151 tKey82 wants_none rfl rfl (.agg (cv82 (TCall.mk x44.Kind x44.Target x44.Method ([] : List UInt8))) rfl) ⟨_, rfl⟩ encM82_114_good rfl (encM82_114_puts m38 (TCall.mk x44.Kind x44.Target x44.Method ([] : List UInt8)) y51) ?_
         refine fo (rn 1 rfl ?_)
         exact jX (y51, (mput m38 (TCall.mk x44.Kind x44.Target x44.Method ([] : List UInt8)) y51)) h (gr [0, 1, 2, 3, 4, 5, 6, 7] rfl (hB rfl rfl rfl (hB rfl rfl rfl (hB rfl rfl rfl (hM rfl rfl (hM rfl rfl (hB rfl rfl rfl (hM rfl rfl (hM rfl rfl .nil)))))))) rfl)
        refine rn 1 rfl ?_
        exact jX (((mget m38 (TCall.mk x44.Kind x44.Target x44.Method ([] : List UInt8))).getD ([] : (List Tprovenderref6_aim))), m38) h (gr [0, 1, 2, 3, 4, 5, 6, 7] rfl (hB rfl rfl rfl (hB rfl rfl rfl (hB rfl rfl rfl (hM rfl rfl (hM rfl rfl (hB rfl rfl rfl (hM rfl rfl (hM rfl rfl .nil)))))))) rfl)
       rintro ⟨l48, m49⟩ h
       refine ck h (fun hc53 h => ?_)
       refine awp_ghost ghost_res ?_
       refine awp_ghost ghost_res ?_
       refine fa ?_
       refine dr mixed (vs 8 rfl (xD (OD.mk [(84, (V.map 6)), (86, (sV x29.Name))] [(6, (Ob.map (m39.map encM9_244))), (8, Ob.res)] [(87, (V.own 8 ((mget m39 x29.Name).getD []).length))] [(6, (Ob.map (holeM encM9_244 8 x29.Name m39))), (8, (Ob.arr 124 3 (((mget m39 x29.Name).getD []).map encTprovenderref6_link)))]) ⟨⟨rfl, rfl, trivial⟩, ⟨rfl, rfl, trivial⟩⟩ (by exact fun S hn h hh => aops_lookup_tk_at 8 rfl hn hh.2.1 (n := ((mget m39 x29.Name).getD []).length) tMap75 tKey9 tZo122 wants_none h.1 hh.1 (.con h.2.1) ⟨_, rfl⟩ encM9_244_good (lookT_enc encM9_244 (fun k => str k) encTprovenderref6_link 124 3 8 (fun _ => rfl) inj_str x29.Name m39) (by simp) rfl (aops_nil ⟨rfl, rfl⟩)) rfl (vs 6 rfl (xD (OD.mk [(93, (V.agg [(sV x29.Name), (iV n37), (V.lst 2 (l48.map encTprovenderref6_aim))]))] [] [(94, (V.lst 3 (([(Tprovenderref6_link.mk (TSite.mk x29.Name n37) l48)] : List Tprovenderref6_link).map encTprovenderref6_link)))] []) ⟨⟨rfl, trivial⟩, trivial⟩ (by exact fun S hn h hh => aops_buildSlice_imm [(0, (V.agg [(sV x29.Name), (iV n37), (V.lst 2 (l48.map encTprovenderref6_aim))]))] [[(sV x29.Name), (iV n37), (V.lst 2 (l48.map encTprovenderref6_aim))]] tEl122 tZ124 wants_none rfl rfl rfl rfl (evp_cons h.1 evp_nil) rfl rfl (by simp) (imms_rows (.cons (.cons (Imm.con _) (.cons (Imm.con _) (.cons (Imm.lst _ _) .nil))) .nil)) rfl (aops_nil ⟨rfl, rfl⟩)) rfl (xD (OD.mk [(87, (V.own 8 ((mget m39 x29.Name).getD []).length)), (94, (V.lst 3 (([(Tprovenderref6_link.mk (TSite.mk x29.Name n37) l48)] : List Tprovenderref6_link).map encTprovenderref6_link)))] [(8, (Ob.arr 124 3 (((mget m39 x29.Name).getD []).map encTprovenderref6_link))), (9, Ob.res)] [(95, (V.own 9 (((mget m39 x29.Name).getD []) ++ ([(Tprovenderref6_link.mk (TSite.mk x29.Name n37) l48)] : List Tprovenderref6_link)).length))] [(9, (Ob.arr 124 3 ((((mget m39 x29.Name).getD []) ++ ([(Tprovenderref6_link.mk (TSite.mk x29.Name n37) l48)] : List Tprovenderref6_link)).map encTprovenderref6_link))), (8, Ob.dead)]) ⟨⟨rfl, rfl, trivial⟩, ⟨rfl, rfl, trivial⟩⟩ (by exact fun S hn h hh => aops_append_at 9 rfl hn hh.2.1 (([(Tprovenderref6_link.mk (TSite.mk x29.Name n37) l48)] : List Tprovenderref6_link).map encTprovenderref6_link) ((((mget m39 x29.Name).getD []) ++ ([(Tprovenderref6_link.mk (TSite.mk x29.Name n37) l48)] : List Tprovenderref6_link)).map encTprovenderref6_link) tEl122 tIsSl122 rfl rfl wants_none h.1 hh.1 (by simp) h.2.1 (.lst (rows_one one_encTprovenderref6_link)) (map_snoc encTprovenderref6_link ((mget m39 x29.Name).getD []) ([(Tprovenderref6_link.mk (TSite.mk x29.Name n37) l48)] : List Tprovenderref6_link)) (List.length_map ..) hc53 rfl (aops_nil ⟨rfl, rfl⟩)) rfl (xD (OD.mk [(80, (V.map 6)), (82, (sV x29.Name)), (95, (V.own 9 (((mget m39 x29.Name).getD []) ++ ([(Tprovenderref6_link.mk (TSite.mk x29.Name n37) l48)] : List Tprovenderref6_link)).length))] [(6, (Ob.map (holeM encM9_244 8 x29.Name m39))), (9, (Ob.arr 124 3 ((((mget m39 x29.Name).getD []) ++ ([(Tprovenderref6_link.mk (TSite.mk x29.Name n37) l48)] : List Tprovenderref6_link)).map encTprovenderref6_link)))] [] [(6, (Ob.map ((mput m39 x29.Name (((mget m39 x29.Name).getD []) ++ ([(Tprovenderref6_link.mk (TSite.mk x29.Name n37) l48)] : List Tprovenderref6_link))).map encM9_244))), (9, Ob.dead)]) ⟨⟨rfl, rfl, rfl, trivial⟩, ⟨rfl, rfl, trivial⟩⟩ (by exact fun S hn h hh => aops_mapUpdate_deepG (id2 := 9) (o := (V.own 9 (((mget m39 x29.Name).getD []) ++ ([(Tprovenderref6_link.mk (TSite.mk x29.Name n37) l48)] : List Tprovenderref6_link)).length)) (dv := (.dsl 124 3 ((((mget m39 x29.Name).getD []) ++ ([(Tprovenderref6_link.mk (TSite.mk x29.Name n37) l48)] : List Tprovenderref6_link)).map encTprovenderref6_link))) (ob := (.arr 124 3 ((((mget m39 x29.Name).getD []) ++ ([(Tprovenderref6_link.mk (TSite.mk x29.Name n37) l48)] : List Tprovenderref6_link)).map encTprovenderref6_link))) ((mput m39 x29.Name (((mget m39 x29.Name).getD []) ++ ([(Tprovenderref6_link.mk (TSite.mk x29.Name n37) l48)] : List Tprovenderref6_link))).map encM9_244) tMap75 tKey9 wants_none h.1 hh.1 (.con h.2.1) ⟨_, rfl⟩ (good_holeM (fun _ => ⟨_, rfl⟩)) h.2.2.1 (by simp [ovl]) hh.2.1 rfl (okeep_rows imms_encTprovenderref6_link (((mget m39 x29.Name).getD []) ++ ([(Tprovenderref6_link.mk (TSite.mk x29.Name n37) l48)] : List Tprovenderref6_link))) (puts_hole encM9_244 (fun k => str k) encTprovenderref6_link 124 3 8 (fun _ => rfl) inj_str x29.Name (((mget m39 x29.Name).getD []) ++ ([(Tprovenderref6_link.mk (TSite.mk x29.Name n37) l48)] : List Tprovenderref6_link)) m39) (aops_nil ⟨rfl, rfl⟩)) rfl .nil)))))) (by kernel_rfl) ?_
       refine rn 1 rfl ?_
       exact jX (m49, (mput m39 x29.Name (((mget m39 x29.Name).getD []) ++ ([(Tprovenderref6_link.mk (TSite.mk x29.Name n37) l48)] : List Tprovenderref6_link)))) h (gr [0, 1, 2, 3, 4, 5, 6, 7] rfl (hB rfl rfl rfl (hB rfl rfl rfl (hB rfl rfl rfl (hM rfl rfl (hM rfl rfl (hB rfl rfl rfl (hM rfl rfl (hM rfl rfl .nil)))))))) rfl)
      rintro ⟨m42, m43⟩ h
      refine rn 4 rfl ?_
      exact jX ((w64 (n37 + 1)), m42, m43) (hk3 _ h) (gr [0, 1, 2, 3, 4, 5, 6, 7] rfl (hB rfl rfl rfl (hB rfl rfl rfl (hB rfl rfl rfl (hM rfl rfl (hM rfl rfl (hB rfl rfl rfl (hM rfl rfl (hM rfl rfl .nil)))))))) rfl)
     replace h := RG.f h hb40
     unfold M35_L3 at h
     refine rn 1 rfl ?_
     exact jX (m38, m39) h (gr [0, 1, 2, 3, 4, 6, 7] rfl (hB rfl rfl rfl (hB rfl rfl rfl (hB rfl rfl rfl (hM rfl rfl (hM rfl rfl (hM rfl rfl (hM rfl rfl .nil))))))) rfl)
    rintro ⟨m32, m33⟩ h
    refine rn 1 rfl ?_
    exact jX (m32, m33, (mput m23 x29.Name x29)) h (gr [0, 1, 2, 3, 4, 5, 6] rfl (hB rfl rfl rfl (hB rfl rfl rfl (hB rfl rfl rfl (hM rfl rfl (hM rfl rfl (hM rfl rfl (hM rfl rfl .nil))))))) rfl)
   rintro ⟨m26, m27, m28⟩ h
   refine rn 4 rfl ?_
   exact jX ((w64 (n20 + 1)), m26, m27, m28) (hk2 _ h) (gr [0, 1, 2, 3, 4, 5, 6] rfl (hB rfl rfl rfl (hB rfl rfl rfl (hB rfl rfl rfl (hM rfl rfl (hM rfl rfl (hM rfl rfl (hM rfl rfl .nil))))))) rfl)
  replace h := RG.f h hb24
  unfold M35_L2 at h
  refine rn 1 rfl ?_
  exact jX (m22, m23) h (gr [1, 2, 5, 6] rfl (hB rfl rfl rfl (hB rfl rfl rfl (hM rfl rfl (hM rfl rfl .nil)))) rfl)
 rintro ⟨m14, m15⟩ h
 refine rn 5 rfl ?_
 refine awp_ghost (ghost_frzDMC 2 0 (m14.map encM9_122) (Ob.arr 78 6 [[(V.lst 2 (a1.Ifaces.map encTIface)), (V.lst 2 (a1.Types.map encTType)), (V.lst 4 (a1.Funcs.map encTFunc)), (V.lst 1 (a1.Entries.map encS)), (V.imap (m14.map encM9_122)), (V.map 3)]]) rfl (by simp) (und_map encM9_244_und _) (ObSub.box (.cons Sub.keepM (.cons Sub.keepM (.cons Sub.keepM (.cons Sub.keepM (.cons Sub.frzM (.cons Sub.keepM .nil)))))))) ?_
 refine awp_ghost (ghost_frzMC 3 0 (Ob.arr 78 6 [[(V.lst 2 (a1.Ifaces.map encTIface)), (V.lst 2 (a1.Types.map encTType)), (V.lst 4 (a1.Funcs.map encTFunc)), (V.lst 1 (a1.Entries.map encS)), (V.imap (m14.map encM9_122)), (V.imap (m15.map encM9_69))]]) rfl encM9_69_imm (ObSub.box (.cons Sub.keepM (.cons Sub.keepM (.cons Sub.keepM (.cons Sub.keepM (.cons Sub.keepM (.cons Sub.frzM .nil)))))))) ?_
 refine fa ?_
 exact rt h rfl
end Go.Proofs.Ytpbkggamiipdmaa
