/- Part of the proof: Z6W3a. -/
import Derived.Test.YtpbkggamiipdmaaGreatR3Z6M
import Derived.KernelRfl
namespace Go.Proofs.YtpbkggamiipdmaaGreat
open Go Go.Pv
set_option linter.unusedVariables false
set_option maxRecDepth 100000
theorem W59 (F : Nat) (a1 : TGraph) (a2 : Bool) (r : Treach_checker) (h : M59 F a1 a2 = some r) : Pure Tryz.prog 59 [(V.agg (encTGraph a1)), (bV a2)] (V.agg (encTreach_checker r)) := by
  refine pin (fun r => (V.agg (encTreach_checker r))) r rfl Tryz.func59 rfl rfl rfl rfl rfl (fun w0 m0 hg => ?_)
  unfold M59 at h
  refine rn 20 rfl ?_
  refine ln rfl rfl ?_
  refine rn 2 rfl ?_
  refine jK h (fun (p : (List ((List UInt8) × TIface))) => (⟨[(2, (V.ptr 0 4 0 0)), (4, (V.ptr 1 4 0 0)), (5, (V.ptr 2 4 0 0))], [(0, (Ob.arr 27 4 [(encTGraph a1)])), (1, (Ob.arr 124 4 [[(bV false), (V.con (.map none)), (V.con (.map none)), (V.con (.map none))]])), (2, (Ob.arr 124 4 [[(bV a2), (V.map 3), (V.map 4), (V.map 5)]])), (3, (Ob.map (p.map encM9_98))), (4, (Ob.map (([] : List ((List UInt8) × Bool)).map encM9_4))), (5, (Ob.map (([] : List ((List UInt8) × Bool)).map encM9_4)))], 6⟩ : St)) (fun k3 (p : (List ((List UInt8) × TIface))) => k3 p = some r) (fun k3 h => ?_) ?_
  · refine rn 1 rfl ?_
    refine wl (A := a1.Ifaces) 18 rfl (fun hA12 => ?_)
    refine lC (fun (p : Int × (List ((List UInt8) × TIface))) => (⟨[(2, (V.ptr 0 4 0 0)), (4, (V.ptr 1 4 0 0)), (5, (V.ptr 2 4 0 0)), (18, (V.lst 2 (a1.Ifaces.map encTIface))), (19, (iV ((a1.Ifaces.length : Nat) : Int))), (20, (iV (p.1)))], [(0, (Ob.arr 27 4 [(encTGraph a1)])), (1, (Ob.arr 124 4 [[(bV false), (V.con (.map none)), (V.con (.map none)), (V.con (.map none))]])), (2, (Ob.arr 124 4 [[(bV a2), (V.map 3), (V.map 4), (V.map 5)]])), (3, (Ob.map ((p.2).map encM9_98))), (4, (Ob.map (([] : List ((List UInt8) × Bool)).map encM9_4))), (5, (Ob.map (([] : List ((List UInt8) × Bool)).map encM9_4)))], 6⟩ : St)) (fun n (p : Int × (List ((List UInt8) × TIface))) => RG a1.Ifaces (fun tl nn => M59_L1 F k3 tl p.2 = some r) n p.1) (fun p h => RG.zero h) (a1.Ifaces.length + 1) (0, ([] : List ((List UInt8) × TIface))) (RG.start h) (gr [0, 1, 5, 2, 3, 4] rfl (hB rfl rfl rfl (hB rfl rfl rfl (hB rfl rfl rfl (hM rfl rfl (hM rfl rfl (hM rfl rfl .nil)))))) rfl) (fun n p h => ?_)
    obtain ⟨n7, m8⟩ := p
    refine rn 5 rfl ?_
    refine spL rfl (fun hb9 => ?_) (fun hb9 => ?_)
    · obtain ⟨x10, tl, hx11, h, hk1⟩ := RG.t hA12 h hb9
      unfold M59_L1 at h
      refine rn 5 rfl ?_
      refine ixh hx11 rfl rfl ?_
      refine rn 10 rfl ?_
      refine aops_mapUpdate (es := m8.map encM9_98) ((mput m8 x10.Name x10).map encM9_98) tMap122 tKey9 wants_none rfl rfl (.con rfl) ⟨_, rfl⟩ encM9_98_good rfl (encM9_98_puts m8 x10.Name x10) ?_
      refine fo (rn 6 rfl ?_)
      exact jX ((w64 (n7 + 1)), (mput m8 x10.Name x10)) (hk1 _ h) (gr [0, 1, 2, 3, 4, 5] rfl (hB rfl rfl rfl (hB rfl rfl rfl (hB rfl rfl rfl (hM rfl rfl (hM rfl rfl (hM rfl rfl .nil)))))) rfl)
    replace h := RG.f h hb9
    unfold M59_L1 at h
    refine rn 1 rfl ?_
    exact jX m8 h (gr [0, 1, 2, 3, 4, 5] rfl (hB rfl rfl rfl (hB rfl rfl rfl (hB rfl rfl rfl (hM rfl rfl (hM rfl rfl (hM rfl rfl .nil)))))) rfl)
  intro m4 h
  refine rn 5 rfl ?_
  refine ln rfl rfl ?_
  refine rn 2 rfl ?_
  refine jK h (fun (p : (List ((List UInt8) × Bool))) => (⟨[(2, (V.ptr 0 4 0 0)), (4, (V.ptr 1 4 0 0)), (5, (V.ptr 2 4 0 0))], [(0, (Ob.arr 27 4 [(encTGraph a1)])), (1, (Ob.arr 124 4 [[(bV false), (V.con (.map none)), (V.con (.map none)), (V.con (.map none))]])), (2, (Ob.arr 124 4 [[(bV a2), (V.map 3), (V.map 4), (V.map 5)]])), (3, (Ob.map (m4.map encM9_98))), (4, (Ob.map (p.map encM9_4))), (5, (Ob.map (([] : List ((List UInt8) × Bool)).map encM9_4)))], 6⟩ : St)) (fun k13 (p : (List ((List UInt8) × Bool))) => k13 p = some r) (fun k13 h => ?_) ?_
  · refine rn 1 rfl ?_
    refine wl (A := a1.Types) 31 rfl (fun hA22 => ?_)
    refine lC (fun (p : Int × (List ((List UInt8) × Bool))) => (⟨[(2, (V.ptr 0 4 0 0)), (4, (V.ptr 1 4 0 0)), (5, (V.ptr 2 4 0 0)), (31, (V.lst 2 (a1.Types.map encTType))), (32, (iV ((a1.Types.length : Nat) : Int))), (33, (iV (p.1)))], [(0, (Ob.arr 27 4 [(encTGraph a1)])), (1, (Ob.arr 124 4 [[(bV false), (V.con (.map none)), (V.con (.map none)), (V.con (.map none))]])), (2, (Ob.arr 124 4 [[(bV a2), (V.map 3), (V.map 4), (V.map 5)]])), (3, (Ob.map (m4.map encM9_98))), (4, (Ob.map ((p.2).map encM9_4))), (5, (Ob.map (([] : List ((List UInt8) × Bool)).map encM9_4)))], 6⟩ : St)) (fun n (p : Int × (List ((List UInt8) × Bool))) => RG a1.Types (fun tl nn => M59_L2 F k13 tl p.2 = some r) n p.1) (fun p h => RG.zero h) (a1.Types.length + 1) (0, ([] : List ((List UInt8) × Bool))) (RG.start h) (gr [0, 1, 2, 3, 4, 5] rfl (hB rfl rfl rfl (hB rfl rfl rfl (hB rfl rfl rfl (hM rfl rfl (hM rfl rfl (hM rfl rfl .nil)))))) rfl) (fun n p h => ?_)
    obtain ⟨n17, m18⟩ := p
    refine rn 5 rfl ?_
    refine spL rfl (fun hb19 => ?_) (fun hb19 => ?_)
    · obtain ⟨x20, tl, hx21, h, hk2⟩ := RG.t hA22 h hb19
      unfold M59_L2 at h
      refine rn 5 rfl ?_
      refine ixh hx21 rfl rfl ?_
      refine rn 9 rfl ?_
      refine aops_mapUpdate (es := m18.map encM9_4) ((mput m18 x20.Name true).map encM9_4) tMap89 tKey9 wants_none rfl rfl (.con rfl) ⟨_, rfl⟩ encM9_4_good rfl (encM9_4_puts m18 x20.Name true) ?_
      refine fo (rn 6 rfl ?_)
      exact jX ((w64 (n17 + 1)), (mput m18 x20.Name true)) (hk2 _ h) (gr [0, 1, 2, 3, 4, 5] rfl (hB rfl rfl rfl (hB rfl rfl rfl (hB rfl rfl rfl (hM rfl rfl (hM rfl rfl (hM rfl rfl .nil)))))) rfl)
    replace h := RG.f h hb19
    unfold M59_L2 at h
    refine rn 1 rfl ?_
    exact jX m18 h (gr [0, 1, 2, 3, 4, 5] rfl (hB rfl rfl rfl (hB rfl rfl rfl (hB rfl rfl rfl (hM rfl rfl (hM rfl rfl (hM rfl rfl .nil)))))) rfl)
  intro m14 h
  refine rn 5 rfl ?_
  refine ln rfl rfl ?_
  refine rn 2 rfl ?_
  refine jK h (fun (p : (List ((List UInt8) × Bool))) => (⟨[(4, (V.ptr 0 4 0 0)), (5, (V.ptr 1 4 0 0))], [(0, (Ob.arr 124 4 [[(bV false), (V.con (.map none)), (V.con (.map none)), (V.con (.map none))]])), (1, (Ob.arr 124 4 [[(bV a2), (V.map 2), (V.map 3), (V.map 4)]])), (2, (Ob.map (m4.map encM9_98))), (3, (Ob.map (m14.map encM9_4))), (4, (Ob.map (p.map encM9_4)))], 5⟩ : St)) (fun k23 (p : (List ((List UInt8) × Bool))) => k23 p = some r) (fun k23 h => ?_) ?_
  · refine rn 1 rfl ?_
    refine wl (A := a1.Funcs) 43 rfl (fun hA32 => ?_)
    refine lC (fun (p : Int × (List ((List UInt8) × Bool))) => (⟨[(4, (V.ptr 0 4 0 0)), (5, (V.ptr 1 4 0 0)), (43, (V.lst 4 (a1.Funcs.map encTFunc))), (44, (iV ((a1.Funcs.length : Nat) : Int))), (45, (iV (p.1)))], [(0, (Ob.arr 124 4 [[(bV false), (V.con (.map none)), (V.con (.map none)), (V.con (.map none))]])), (1, (Ob.arr 124 4 [[(bV a2), (V.map 2), (V.map 3), (V.map 4)]])), (2, (Ob.map (m4.map encM9_98))), (3, (Ob.map (m14.map encM9_4))), (4, (Ob.map ((p.2).map encM9_4)))], 5⟩ : St)) (fun n (p : Int × (List ((List UInt8) × Bool))) => RG a1.Funcs (fun tl nn => M59_L3 F k23 tl p.2 = some r) n p.1) (fun p h => RG.zero h) (a1.Funcs.length + 1) (0, ([] : List ((List UInt8) × Bool))) (RG.start h) (gr [1, 2, 3, 4, 5] rfl (hB rfl rfl rfl (hB rfl rfl rfl (hM rfl rfl (hM rfl rfl (hM rfl rfl .nil))))) rfl) (fun n p h => ?_)
    obtain ⟨n27, m28⟩ := p
    refine rn 5 rfl ?_
    refine spL rfl (fun hb29 => ?_) (fun hb29 => ?_)
    · obtain ⟨x30, tl, hx31, h, hk3⟩ := RG.t hA32 h hb29
      unfold M59_L3 at h
      refine rn 5 rfl ?_
      refine ixh hx31 rfl rfl ?_
      refine rn 9 rfl ?_
      refine aops_mapUpdate (es := m28.map encM9_4) ((mput m28 x30.Name true).map encM9_4) tMap89 tKey9 wants_none rfl rfl (.con rfl) ⟨_, rfl⟩ encM9_4_good rfl (encM9_4_puts m28 x30.Name true) ?_
      refine fo (rn 6 rfl ?_)
      exact jX ((w64 (n27 + 1)), (mput m28 x30.Name true)) (hk3 _ h) (gr [0, 1, 2, 3, 4] rfl (hB rfl rfl rfl (hB rfl rfl rfl (hM rfl rfl (hM rfl rfl (hM rfl rfl .nil))))) rfl)
    replace h := RG.f h hb29
    unfold M59_L3 at h
    refine rn 1 rfl ?_
    exact jX m28 h (gr [0, 1, 2, 3, 4] rfl (hB rfl rfl rfl (hB rfl rfl rfl (hM rfl rfl (hM rfl rfl (hM rfl rfl .nil))))) rfl)
  intro m24 h
  refine rn 5 rfl ?_
  refine awp_ghost (ghost_frzMC 2 0 (Ob.arr 124 4 [[(bV a2), (V.imap (m4.map encM9_98)), (V.map 3), (V.map 4)]]) rfl encM9_98_imm (ObSub.box (.cons Sub.keepM (.cons Sub.frzM (.cons Sub.keepM (.cons Sub.keepM .nil)))))) ?_
  refine awp_ghost (ghost_frzMC 3 0 (Ob.arr 124 4 [[(bV a2), (V.imap (m4.map encM9_98)), (V.imap (m14.map encM9_4)), (V.map 4)]]) rfl encM9_4_imm (ObSub.box (.cons Sub.keepM (.cons Sub.keepM (.cons Sub.frzM (.cons Sub.keepM .nil)))))) ?_
  refine awp_ghost (ghost_frzMC 4 0 (Ob.arr 124 4 [[(bV a2), (V.imap (m4.map encM9_98)), (V.imap (m14.map encM9_4)), (V.imap (m24.map encM9_4))]]) rfl encM9_4_imm (ObSub.box (.cons Sub.keepM (.cons Sub.keepM (.cons Sub.keepM (.cons Sub.frzM .nil)))))) ?_
  refine fa ?_
  exact rt h rfl
theorem W79 (F : Nat) (a1 : (List UInt8)) (r : Bool) (h : M79 F a1 = some r) : Pure Tryz.prog 79 [(sV a1)] (bV r) := by
  refine pin (fun r => (bV r)) r rfl Tryz.func79 rfl rfl rfl rfl rfl (fun w0 m0 hg => ?_)
  unfold M79 at h
  refine rn 11 rfl ?_
  refine jK h (fun _ : Unit => (⟨[(0, (sV a1))], [], 0⟩ : St)) (fun k2 (_ : Unit) => k2 = some r) (fun k2 h => ?_) ?_
  · refine rn 1 rfl ?_
    refine ck h (fun hA15 h => ?_)
    refine lC (fun (p : Int) => (⟨[(0, (sV a1)), (5, (iV (a1.length : Int))), (6, (iV p))], [], 0⟩ : St)) (fun n (p : Int) => RC (a1.length : Int) (fun tl nn => M79_L1 F a1 k2 tl nn = some r) n p) (fun p h => RC.zero h) (Int.toNat (a1.length : Int) + 1) 0 (RC.start h) (g0 rfl rfl) (fun n n4 h => ?_)
    refine rn 5 rfl ?_
    refine spL rfl (fun hb5 => ?_) (fun hb5 => ?_)
    · obtain ⟨tl, h, hk1⟩ := RC.t hA15 h hb5
      unfold M79_L1 at h
      refine rn 12 rfl ?_
      refine ixs h rfl rfl (fun c6 hx7 h => ?_)
      refine rn 2 rfl ?_
      refine spO 13 h rfl (fun hb8 h => ?_) (fun hb8 h => ?_)
      · refine rn 17 rfl ?_
        exact rt h rfl
      refine rn 2 rfl ?_
      refine ixs h rfl rfl (fun c9 hx10 h => ?_)
      refine rn 3 rfl ?_
      refine spO 19 h rfl (fun hb11 h => ?_) (fun hb11 h => ?_)
      · refine rn 11 rfl ?_
        exact rt h rfl
      refine rn 2 rfl ?_
      refine ixs h rfl rfl (fun c12 hx13 h => ?_)
      refine rn 3 rfl ?_
      refine spC h rfl (fun hb14 h => ?_) (fun hb14 h => ?_)
      · refine rn 4 rfl ?_
        exact rt h rfl
      refine rn 6 rfl ?_
      exact jX (w64 (n4 + 1)) (hk1 _ h) (g0 rfl rfl)
    replace h := RC.f h hb5
    unfold M79_L1 at h
    refine rn 1 rfl ?_
    exact jX () h (g0 rfl rfl)
  intro _ h
  refine rn 5 rfl ?_
  refine spO 28 h rfl (fun hb16 h => ?_) (fun hb16 h => ?_)
  · refine rn 6 rfl ?_
    exact rt h rfl
  refine rn 6 rfl ?_
  exact rt h rfl
theorem W173 (F : Nat) (a1 : (List UInt8)) (a2 : (List UInt8)) (a3 : Bool) (r : Int) (h : M173 F a1 a2 a3 = some r) : Pure Tryz.prog 173 [(sV a1), (sV a2), (bV a3)] (iV r) := by
  refine pin (fun r => (iV r)) r rfl Tryz.func173 rfl rfl rfl rfl rfl (fun w0 m0 hg => ?_)
  unfold M173 at h
  refine rn 9 rfl ?_
  refine cl h rfl rfl rfl (W79 _ _) rfl (fun y4 hx5 h => ?_)
  refine rn 3 rfl ?_
  refine jK h (fun _ : Unit => (⟨[], [], 0⟩ : St)) (fun k6 (_ : Unit) => k6 = some r) (fun k6 h => ?_) ?_
  · refine spC h rfl (fun hb7 h => ?_) (fun hb7 h => ?_)
    · refine rn 4 rfl ?_
      exact rt h rfl
    refine rn 5 rfl ?_
    refine spO 14 h rfl (fun hb8 h => ?_) (fun hb8 h => ?_)
    · refine rn 6 rfl ?_
      refine spC h rfl (fun hb9 h => ?_) (fun hb9 h => ?_)
      · refine rn 4 rfl ?_
        exact rt h rfl
      refine rn 1 rfl ?_
      exact jX () h (g0 rfl rfl)
    refine rn 8 rfl ?_
    exact jX () h (g0 rfl rfl)
  intro _ h
  refine rn 5 rfl ?_
  exact rt h rfl
theorem W127 (F : Nat) (a1 : Treach_checker) (a2 : (List TIface)) (r : Int) (h : M127 F a1 a2 = some r) : Pure Tryz.prog 127 [(V.agg (encTreach_checker a1)), (V.lst 2 (a2.map encTIface))] (iV r) := by
  refine pin (fun r => (iV r)) r rfl Tryz.func127 rfl rfl rfl rfl rfl (fun w0 m0 hg => ?_)
  unfold M127 at h
  refine rn 13 rfl ?_
  refine ln rfl rfl ?_
  refine rn 2 rfl ?_
  refine jK h (fun _ : Unit => (⟨[], [], 0⟩ : St)) (fun k3 (_ : Unit) => k3 = some r) (fun k3 h => ?_) ?_
  · refine rn 1 rfl ?_
    refine wl (A := a2) 1 rfl (fun hA30 => ?_)
    refine lC (fun (p : (List UInt8) × Int) => (⟨[(5, (sV (p.1))), (13, (V.lst 2 (a2.map encTIface))), (14, (iV ((a2.length : Nat) : Int))), (15, (iV (p.2)))], [], 0⟩ : St)) (fun n (p : (List UInt8) × Int) => RG a2 (fun tl nn => M127_L1 F k3 tl nn p.1 = some r) n p.2) (fun p h => RG.zero h) (a2.length + 1) (([] : List UInt8), 0) (RG.start h) (g0 rfl rfl) (fun n p h => ?_)
    obtain ⟨s6, n7⟩ := p
    refine rn 5 rfl ?_
    refine spL rfl (fun hb8 => ?_) (fun hb8 => ?_)
    · obtain ⟨x11, tl, hx12, h, hk1⟩ := RG.t hA30 h hb8
      unfold M127_L1 at h
      refine rn 2 rfl ?_
      refine jK h (fun (p : (List UInt8)) => (⟨[(5, (sV p)), (13, (V.lst 2 (a2.map encTIface))), (14, (iV ((a2.length : Nat) : Int))), (15, (iV n7))], [], 0⟩ : St)) (fun k9 (p : (List UInt8)) => k9 p = some r) (fun k9 h => ?_) ?_
      · refine rn 4 rfl ?_
        refine ixh hx12 rfl rfl ?_
        refine rn 13 rfl ?_
        refine cl h rfl rfl rfl (W173 _ _ _ _) rfl (fun y13 hx14 h => ?_)
        refine rn 7 rfl ?_
        refine spC h rfl (fun hb15 h => ?_) (fun hb15 h => ?_)
        · refine rn 5 rfl ?_
          exact rt h rfl
        refine rn 13 rfl ?_
        refine ln rfl rfl ?_
        refine rn 3 rfl ?_
        refine spC h rfl (fun hb16 h => ?_) (fun hb16 h => ?_)
        · refine rn 4 rfl ?_
          exact rt h rfl
        refine rn 4 rfl ?_
        refine ln rfl rfl ?_
        refine rn 3 rfl ?_
        refine spC h rfl (fun hb17 h => ?_) (fun hb17 h => ?_)
        · refine rn 4 rfl ?_
          exact rt h rfl
        refine rn 10 rfl ?_
        refine ln rfl rfl ?_
        refine rn 2 rfl ?_
        refine jK h (fun _ : Unit => (⟨[(5, (sV x11.Name)), (13, (V.lst 2 (a2.map encTIface))), (14, (iV ((a2.length : Nat) : Int))), (15, (iV n7))], [], 0⟩ : St)) (fun k18 (_ : Unit) => k18 = some r) (fun k18 h => ?_) ?_
        · refine rn 1 rfl ?_
          refine wl (A := x11.Methods) 33 rfl (fun hA29 => ?_)
          refine lC (fun (p : (List UInt8) × Int) => (⟨[(5, (sV x11.Name)), (9, (sV (p.1))), (13, (V.lst 2 (a2.map encTIface))), (14, (iV ((a2.length : Nat) : Int))), (15, (iV n7)), (42, (V.lst 1 (x11.Methods.map encS))), (43, (iV ((x11.Methods.length : Nat) : Int))), (44, (iV (p.2)))], [], 0⟩ : St)) (fun n (p : (List UInt8) × Int) => RG x11.Methods (fun tl nn => M127_L2 F k18 tl nn p.1 = some r) n p.2) (fun p h => RG.zero h) (x11.Methods.length + 1) (([] : List UInt8), 0) (RG.start h) (g0 rfl rfl) (fun n p h => ?_)
          obtain ⟨s21, n22⟩ := p
          refine rn 5 rfl ?_
          refine spL rfl (fun hb23 => ?_) (fun hb23 => ?_)
          · obtain ⟨x24, tl, hx25, h, hk2⟩ := RG.t hA29 h hb23
            unfold M127_L2 at h
            refine rn 6 rfl ?_
            refine ixh hx25 rfl rfl ?_
            refine rn 11 rfl ?_
            refine cl h rfl rfl rfl (W173 _ _ _ _) rfl (fun y26 hx27 h => ?_)
            refine rn 7 rfl ?_
            refine spC h rfl (fun hb28 h => ?_) (fun hb28 h => ?_)
            · refine rn 5 rfl ?_
              exact rt h rfl
            refine rn 10 rfl ?_
            exact jX (x24, (w64 (n22 + 1))) (hk2 _ h) (g0 rfl rfl)
          replace h := RG.f h hb23
          unfold M127_L2 at h
          refine rn 1 rfl ?_
          exact jX () h (g0 rfl rfl)
        intro _ h
        refine rn 1 rfl ?_
        exact jX x11.Name h (g0 rfl rfl)
      intro s10 h
      refine rn 4 rfl ?_
      exact jX (s10, (w64 (n7 + 1))) (hk1 _ h) (g0 rfl rfl)
    replace h := RG.f h hb8
    unfold M127_L1 at h
    refine rn 1 rfl ?_
    exact jX () h (g0 rfl rfl)
  intro _ h
  refine rn 4 rfl ?_
  exact rt h rfl
theorem W128 (F : Nat) (a1 : Treach_checker) (a2 : (List TType)) (r : Int) (h : M128 F a1 a2 = some r) : Pure Tryz.prog 128 [(V.agg (encTreach_checker a1)), (V.lst 2 (a2.map encTType))] (iV r) := by
  refine pin (fun r => (iV r)) r rfl Tryz.func128 rfl rfl rfl rfl rfl (fun w0 m0 hg => ?_)
  unfold M128 at h
  refine rn 13 rfl ?_
  refine ln rfl rfl ?_
  refine rn 2 rfl ?_
  refine jK h (fun _ : Unit => (⟨[], [], 0⟩ : St)) (fun k3 (_ : Unit) => k3 = some r) (fun k3 h => ?_) ?_
  · refine rn 1 rfl ?_
    refine wl (A := a2) 1 rfl (fun hA33 => ?_)
    refine lC (fun (p : (List UInt8) × Int) => (⟨[(2, (V.ptr 0 4 0 0)), (5, (sV (p.1))), (13, (V.lst 2 (a2.map encTType))), (14, (iV ((a2.length : Nat) : Int))), (15, (iV (p.2)))], [(0, (Ob.arr 124 4 [(encTreach_checker a1)]))], 1⟩ : St)) (fun n (p : (List UInt8) × Int) => RG a2 (fun tl nn => M128_L1 F a1 k3 tl nn p.1 = some r) n p.2) (fun p h => RG.zero h) (a2.length + 1) (([] : List UInt8), 0) (RG.start h) (gr [0] rfl (hB rfl rfl rfl .nil) rfl) (fun n p h => ?_)
    obtain ⟨s6, n7⟩ := p
    refine rn 5 rfl ?_
    refine spL rfl (fun hb8 => ?_) (fun hb8 => ?_)
    · obtain ⟨x11, tl, hx12, h, hk1⟩ := RG.t hA33 h hb8
      unfold M128_L1 at h
      refine rn 2 rfl ?_
      refine jK h (fun (p : (List UInt8)) => (⟨[(2, (V.ptr 0 4 0 0)), (5, (sV p)), (13, (V.lst 2 (a2.map encTType))), (14, (iV ((a2.length : Nat) : Int))), (15, (iV n7))], [(0, (Ob.arr 124 4 [(encTreach_checker a1)]))], 1⟩ : St)) (fun k9 (p : (List UInt8)) => k9 p = some r) (fun k9 h => ?_) ?_
      · refine rn 4 rfl ?_
        refine ixh hx12 rfl rfl ?_
        refine rn 13 rfl ?_
        refine cl h rfl rfl rfl (W173 _ _ _ _) rfl (fun y13 hx14 h => ?_)
        refine rn 7 rfl ?_
        refine spC h rfl (fun hb15 h => ?_) (fun hb15 h => ?_)
        · refine rn 5 rfl ?_
          exact rt h rfl
        refine rn 12 rfl ?_
        refine ln rfl rfl ?_
        refine rn 2 rfl ?_
        refine spC h rfl (fun hb16 h => ?_) (fun hb16 h => ?_)
        · refine rn 4 rfl ?_
          exact rt h rfl
        refine rn 9 rfl ?_
        refine ln rfl rfl ?_
        refine rn 2 rfl ?_
        refine jK h (fun _ : Unit => (⟨[(2, (V.ptr 0 4 0 0)), (5, (sV x11.Name)), (13, (V.lst 2 (a2.map encTType))), (14, (iV ((a2.length : Nat) : Int))), (15, (iV n7))], [(0, (Ob.arr 124 4 [(encTreach_checker a1)]))], 1⟩ : St)) (fun k17 (_ : Unit) => k17 = some r) (fun k17 h => ?_) ?_
        · refine rn 1 rfl ?_
          refine wl (A := x11.Methods) 32 rfl (fun hA32 => ?_)
          refine lC (fun (p : (List UInt8) × Int) => (⟨[(2, (V.ptr 0 4 0 0)), (5, (sV x11.Name)), (9, (sV (p.1))), (13, (V.lst 2 (a2.map encTType))), (14, (iV ((a2.length : Nat) : Int))), (15, (iV n7)), (36, (V.lst 2 (x11.Methods.map encTMethod))), (37, (iV ((x11.Methods.length : Nat) : Int))), (38, (iV (p.2)))], [(0, (Ob.arr 124 4 [(encTreach_checker a1)]))], 1⟩ : St)) (fun n (p : (List UInt8) × Int) => RG x11.Methods (fun tl nn => M128_L2 F a1 k17 tl nn p.1 = some r) n p.2) (fun p h => RG.zero h) (x11.Methods.length + 1) (([] : List UInt8), 0) (RG.start h) (gr [0] rfl (hB rfl rfl rfl .nil) rfl) (fun n p h => ?_)
          obtain ⟨s20, n21⟩ := p
          refine rn 5 rfl ?_
          refine spL rfl (fun hb22 => ?_) (fun hb22 => ?_)
          · obtain ⟨x25, tl, hx26, h, hk2⟩ := RG.t hA32 h hb22
            unfold M128_L2 at h
            refine rn 2 rfl ?_
            refine jK h (fun (p : (List UInt8)) => (⟨[(2, (V.ptr 0 4 0 0)), (5, (sV x11.Name)), (9, (sV p)), (13, (V.lst 2 (a2.map encTType))), (14, (iV ((a2.length : Nat) : Int))), (15, (iV n7)), (36, (V.lst 2 (x11.Methods.map encTMethod))), (37, (iV ((x11.Methods.length : Nat) : Int))), (38, (iV n21))], [(0, (Ob.arr 124 4 [(encTreach_checker a1)]))], 1⟩ : St)) (fun k23 (p : (List UInt8)) => k23 p = some r) (fun k23 h => ?_) ?_
            · refine rn 4 rfl ?_
              refine ixh hx26 rfl rfl ?_
              refine rn 13 rfl ?_
              refine cl h rfl rfl rfl (W173 _ _ _ _) rfl (fun y27 hx28 h => ?_)
              refine rn 7 rfl ?_
              refine spC h rfl (fun hb29 h => ?_) (fun hb29 h => ?_)
              · refine rn 5 rfl ?_
                exact rt h rfl
              refine rn 13 rfl ?_
              refine spO 57 h rfl (fun hb30 h => ?_) (fun hb30 h => ?_)
              · refine rn 4 rfl ?_
                refine aops_lookup _ (bV false) (bV ((mget a1.funcs x25.Func).getD false)) tMap89 tKey9 tZo4 (irel_con _) (wants_some (c := true) (b := true) 57 rfl rfl rfl) rfl .imm (.con rfl) ⟨_, rfl⟩ encM9_4_good (encM9_4_look a1.funcs x25.Func) (getD_map (encM9_4_val) (mget a1.funcs x25.Func) false) rfl ?_
                refine fo (rn 3 rfl ?_)
                refine spC h rfl (fun hb31 h => ?_) (fun hb31 h => ?_)
                · refine rn 4 rfl ?_
                  exact rt h rfl
                refine rn 2 rfl ?_
                exact jX x25.Name h (gr [0] rfl (hB rfl rfl rfl .nil) rfl)
              refine rn 11 rfl ?_
              exact jX x25.Name h (gr [0] rfl (hB rfl rfl rfl .nil) rfl)
            intro s24 h
            refine rn 4 rfl ?_
            exact jX (s24, (w64 (n21 + 1))) (hk2 _ h) (gr [0] rfl (hB rfl rfl rfl .nil) rfl)
          replace h := RG.f h hb22
          unfold M128_L2 at h
          refine rn 1 rfl ?_
          exact jX () h (gr [0] rfl (hB rfl rfl rfl .nil) rfl)
        intro _ h
        refine rn 1 rfl ?_
        exact jX x11.Name h (gr [0] rfl (hB rfl rfl rfl .nil) rfl)
      intro s10 h
      refine rn 4 rfl ?_
      exact jX (s10, (w64 (n7 + 1))) (hk1 _ h) (gr [0] rfl (hB rfl rfl rfl .nil) rfl)
    replace h := RG.f h hb8
    unfold M128_L1 at h
    refine rn 1 rfl ?_
    exact jX () h (g0 rfl rfl)
  intro _ h
  refine rn 4 rfl ?_
  exact rt h rfl
theorem W86 (F : Nat) (a1 : (List (List UInt8))) (a2 : (List UInt8)) (r : Int) (h : M86 F a1 a2 = some r) : Pure Tryz.prog 86 [(V.lst 1 (a1.map encS)), (sV a2)] (iV r) := by
  refine pin (fun r => (iV r)) r rfl Tryz.func86 rfl rfl rfl rfl rfl (fun w0 m0 hg => ?_)
  unfold M86 at h
  refine rn 8 rfl ?_
  refine ln rfl rfl ?_
  refine rn 2 rfl ?_
  refine jK h (fun _ : Unit => (⟨[], [], 0⟩ : St)) (fun k3 (_ : Unit) => k3 = some r) (fun k3 h => ?_) ?_
  · refine rn 1 rfl ?_
    refine wl (A := a1) 0 rfl (fun hA10 => ?_)
    refine lC (fun (p : Int) => (⟨[(0, (V.lst 1 (a1.map encS))), (1, (sV a2)), (7, (iV ((a1.length : Nat) : Int))), (8, (iV p))], [], 0⟩ : St)) (fun n (p : Int) => RG a1 (fun tl nn => M86_L1 F a2 k3 tl nn = some r) n p) (fun p h => RG.zero h) (a1.length + 1) 0 (RG.start h) (g0 rfl rfl) (fun n n5 h => ?_)
    refine rn 5 rfl ?_
    refine spL rfl (fun hb6 => ?_) (fun hb6 => ?_)
    · obtain ⟨x7, tl, hx8, h, hk1⟩ := RG.t hA10 h hb6
      unfold M86_L1 at h
      refine rn 13 rfl ?_
      refine ixh hx8 rfl rfl ?_
      refine rn 3 rfl ?_
      refine spC h rfl (fun hb9 h => ?_) (fun hb9 h => ?_)
      · refine rn 5 rfl ?_
        exact rt h rfl
      refine rn 6 rfl ?_
      exact jX (w64 (n5 + 1)) (hk1 _ h) (g0 rfl rfl)
    replace h := RG.f h hb6
    unfold M86_L1 at h
    refine rn 1 rfl ?_
    exact jX () h (g0 rfl rfl)
  intro _ h
  refine rn 4 rfl ?_
  exact rt h rfl
theorem W23 (F : Nat) (a1 : (List (List UInt8))) (a2 : (List UInt8)) (r : Bool) (h : M23 F a1 a2 = some r) : Pure Tryz.prog 23 [(V.lst 1 (a1.map encS)), (sV a2)] (bV r) := by
  refine pin (fun r => (bV r)) r rfl Tryz.func23 rfl rfl rfl rfl rfl (fun w0 m0 hg => ?_)
  unfold M23 at h
  refine rn 8 rfl ?_
  refine cl h rfl rfl rfl (W86 _ _ _) rfl (fun y3 hx4 h => ?_)
  refine rn 3 rfl ?_
  exact rt h rfl
theorem W174 (F : Nat) (a1 : Treach_checker) (a2 : TCall) (r : Int) (h : M174 F a1 a2 = some r) : Pure Tryz.prog 174 [(V.agg (encTreach_checker a1)), (V.agg (encTCall a2))] (iV r) := by
  refine pin (fun r => (iV r)) r rfl Tryz.func174 rfl rfl rfl rfl rfl (fun w0 m0 hg => ?_)
  unfold M174 at h
  refine rn 18 rfl ?_
  refine jK h (fun _ : Unit => (⟨[(3, (V.ptr 0 4 0 0))], [(0, (Ob.arr 109 4 [(encTCall a2)]))], 1⟩ : St)) (fun k3 (_ : Unit) => k3 = some r) (fun k3 h => ?_) ?_
  · refine spC h rfl (fun hb4 h => ?_) (fun hb4 h => ?_)
    · refine rn 7 rfl ?_
      refine spO 14 h rfl (fun hb5 h => ?_) (fun hb5 h => ?_)
      · refine rn 4 rfl ?_
        refine aops_lookup _ (bV false) (bV ((mget a1.funcs a2.Target).getD false)) tMap89 tKey9 tZo4 (irel_con _) (wants_some (c := true) (b := true) 14 rfl rfl rfl) rfl .imm (.con rfl) ⟨_, rfl⟩ encM9_4_good (encM9_4_look a1.funcs a2.Target) (getD_map (encM9_4_val) (mget a1.funcs a2.Target) false) rfl ?_
        refine fo (rn 3 rfl ?_)
        refine spC h rfl (fun hb6 h => ?_) (fun hb6 h => ?_)
        · refine rn 4 rfl ?_
          exact rt h rfl
        refine rn 7 rfl ?_
        refine spC h rfl (fun hb7 h => ?_) (fun hb7 h => ?_)
        · refine rn 4 rfl ?_
          exact rt h rfl
        refine rn 1 rfl ?_
        exact jX () h (gr [1] rfl (hB rfl rfl rfl .nil) rfl)
      refine rn 16 rfl ?_
      refine spC h rfl (fun hb8 h => ?_) (fun hb8 h => ?_)
      · refine rn 4 rfl ?_
        exact rt h rfl
      refine rn 1 rfl ?_
      exact jX () h (gr [1] rfl (hB rfl rfl rfl .nil) rfl)
    refine rn 5 rfl ?_
    refine spC h rfl (fun hb9 h => ?_) (fun hb9 h => ?_)
    · refine rn 6 rfl ?_
      refine aops_lookup_okB _ (V.agg [(sV ([] : List UInt8)), (V.lst 1 (([] : List (List UInt8)).map encS))]) (V.agg (encTIface ((mget a1.ifaces a2.Target).getD (TIface.mk ([] : List UInt8) ([] : (List (List UInt8))))))) tMap122 tKey9 tZo98 (irel_aggZ (.con (.sl .nil))) wants_none rfl .imm (.con rfl) ⟨_, rfl⟩ encM9_98_good (encM9_98_look a1.ifaces a2.Target) (getD_map (encM9_98_val) (mget a1.ifaces a2.Target) (TIface.mk ([] : List UInt8) ([] : (List (List UInt8))))) (isSome_map ..) rfl ?_
      refine fo (rn 13 rfl ?_)
      refine spO 38 h rfl (fun hb10 h => ?_) (fun hb10 h => ?_)
      · refine rn 3 rfl ?_
        refine spO 41 h rfl (fun hb11 h => ?_) (fun hb11 h => ?_)
        · refine rn 14 rfl ?_
          exact rt h rfl
        refine rn 4 rfl ?_
        refine cl h rfl rfl rfl (W23 _ _ _) rfl (fun y12 hx13 h => ?_)
        refine rn 4 rfl ?_
        refine spC h rfl (fun hb14 h => ?_) (fun hb14 h => ?_)
        · refine rn 4 rfl ?_
          exact rt h rfl
        refine rn 1 rfl ?_
        exact jX () h (gr [1] rfl (hB rfl rfl rfl .nil) rfl)
      refine rn 14 rfl ?_
      exact jX () h (gr [1] rfl (hB rfl rfl rfl .nil) rfl)
    refine rn 4 rfl ?_
    exact rt h rfl
  intro _ h
  refine rn 8 rfl ?_
  refine spO 53 h rfl (fun hb15 h => ?_) (fun hb15 h => ?_)
  · refine rn 2 rfl ?_
    refine cl h rfl rfl rfl (W79 _ _) rfl (fun y16 hx17 h => ?_)
    refine rn 3 rfl ?_
    refine spC h rfl (fun hb18 h => ?_) (fun hb18 h => ?_)
    · refine rn 4 rfl ?_
      exact rt h rfl
    refine rn 5 rfl ?_
    exact rt h rfl
  refine rn 12 rfl ?_
  exact rt h rfl
theorem W130 (F : Nat) (a1 : Treach_checker) (a2 : (List (List UInt8))) (a3 : (List ((List UInt8) × Bool))) (r : Int) (h : M130 F a1 a2 a3 = some r) : Pure Tryz.prog 130 [(V.agg (encTreach_checker a1)), (V.lst 1 (a2.map encS)), (V.imap (a3.map encM9_4))] (iV r) := by
  refine pin (fun r => (iV r)) r rfl Tryz.func130 rfl rfl rfl rfl rfl (fun w0 m0 hg => ?_)
  unfold M130 at h
  refine rn 9 rfl ?_
  refine ln rfl rfl ?_
  refine rn 2 rfl ?_
  refine jK h (fun _ : Unit => (⟨[], [], 0⟩ : St)) (fun k4 (_ : Unit) => k4 = some r) (fun k4 h => ?_) ?_
  · refine rn 1 rfl ?_
    refine wl (A := a2) 1 rfl (fun hA22 => ?_)
    refine lC (fun (p : Int) => (⟨[(1, (V.lst 1 (a2.map encS))), (2, (V.imap (a3.map encM9_4))), (3, (V.ptr 0 4 0 0)), (9, (V.lst 1 (a2.map encS))), (10, (iV ((a2.length : Nat) : Int))), (11, (iV p))], [(0, (Ob.arr 124 4 [(encTreach_checker a1)]))], 1⟩ : St)) (fun n (p : Int) => RG a2 (fun tl nn => M130_L1 F a1 a2 a3 k4 tl nn = some r) n p) (fun p h => RG.zero h) (a2.length + 1) 0 (RG.start h) (gr [0] rfl (hB rfl rfl rfl .nil) rfl) (fun n n6 h => ?_)
    refine rn 5 rfl ?_
    refine spL rfl (fun hb7 => ?_) (fun hb7 => ?_)
    · obtain ⟨x8, tl, hx9, h, hk1⟩ := RG.t hA22 h hb7
      unfold M130_L1 at h
      refine rn 6 rfl ?_
      refine ixh hx9 rfl rfl ?_
      refine rn 4 rfl ?_
      refine jK h (fun _ : Unit => (⟨[(1, (V.lst 1 (a2.map encS))), (2, (V.imap (a3.map encM9_4))), (3, (V.ptr 0 4 0 0)), (9, (V.lst 1 (a2.map encS))), (10, (iV ((a2.length : Nat) : Int))), (11, (iV n6))], [(0, (Ob.arr 124 4 [(encTreach_checker a1)]))], 1⟩ : St)) (fun k10 (_ : Unit) => k10 = some r) (fun k10 h => ?_) ?_
      · refine rn 7 rfl ?_
        refine spO 20 h rfl (fun hb11 h => ?_) (fun hb11 h => ?_)
        · refine rn 2 rfl ?_
          refine aops_lookup _ (bV false) (bV ((mget a3 x8).getD false)) tMap89 tKey9 tZo4 (irel_con _) (wants_some (c := true) (b := true) 20 rfl rfl rfl) rfl .imm (.con rfl) ⟨_, rfl⟩ encM9_4_good (encM9_4_look a3 x8) (getD_map (encM9_4_val) (mget a3 x8) false) rfl ?_
          refine fo (rn 4 rfl ?_)
          refine jK h (fun _ : Unit => (⟨[(1, (V.lst 1 (a2.map encS))), (2, (V.imap (a3.map encM9_4))), (3, (V.ptr 0 4 0 0)), (9, (V.lst 1 (a2.map encS))), (10, (iV ((a2.length : Nat) : Int))), (11, (iV n6)), (21, (V.imap (a3.map encM9_4))), (22, (sV x8)), (23, (bV ((mget a3 x8).getD false))), (24, (bV (!((mget a3 x8).getD false))))], [(0, (Ob.arr 124 4 [(encTreach_checker a1)]))], 1⟩ : St)) (fun k12 (_ : Unit) => k12 = some r) (fun k12 h => ?_) ?_
          · refine spC h rfl (fun hb13 h => ?_) (fun hb13 h => ?_)
            · refine rn 4 rfl ?_
              exact rt h rfl
            refine rn 5 rfl ?_
            refine spO 29 h rfl (fun hb14 h => ?_) (fun hb14 h => ?_)
            · refine rn 4 rfl ?_
              refine ixl h rfl rfl (fun x15 hx16 h => ?_)
              refine rn 5 rfl ?_
              refine spC h rfl (fun hb17 h => ?_) (fun hb17 h => ?_)
              · refine rn 4 rfl ?_
                exact rt h rfl
              refine rn 1 rfl ?_
              exact jX () h (gr [0] rfl (hB rfl rfl rfl .nil) rfl)
            refine rn 12 rfl ?_
            exact jX () h (gr [0] rfl (hB rfl rfl rfl .nil) rfl)
          intro _ h
          refine rn 1 rfl ?_
          exact jX () h (gr [0] rfl (hB rfl rfl rfl .nil) rfl)
        refine rn 13 rfl ?_
        refine spO 29 h rfl (fun hb18 h => ?_) (fun hb18 h => ?_)
        · refine rn 4 rfl ?_
          refine ixl h rfl rfl (fun x19 hx20 h => ?_)
          refine rn 5 rfl ?_
          refine spC h rfl (fun hb21 h => ?_) (fun hb21 h => ?_)
          · refine rn 4 rfl ?_
            exact rt h rfl
          refine rn 2 rfl ?_
          exact jX () h (gr [0] rfl (hB rfl rfl rfl .nil) rfl)
        refine rn 13 rfl ?_
        exact jX () h (gr [0] rfl (hB rfl rfl rfl .nil) rfl)
      intro _ h
      refine rn 5 rfl ?_
      exact jX (w64 (n6 + 1)) (hk1 _ h) (gr [0] rfl (hB rfl rfl rfl .nil) rfl)
    replace h := RG.f h hb7
    unfold M130_L1 at h
    refine rn 1 rfl ?_
    exact jX () h (g0 rfl rfl)
  intro _ h
  refine rn 4 rfl ?_
  exact rt h rfl
theorem W129 (F : Nat) (a1 : Treach_checker) (a2 : (List TFunc)) (r : Int) (h : M129 F a1 a2 = some r) : Pure Tryz.prog 129 [(V.agg (encTreach_checker a1)), (V.lst 4 (a2.map encTFunc))] (iV r) := by
  refine pin (fun r => (iV r)) r rfl Tryz.func129 rfl rfl rfl rfl rfl (fun w0 m0 hg => ?_)
  unfold M129 at h
  refine rn 13 rfl ?_
  refine ln rfl rfl ?_
  refine rn 2 rfl ?_
  refine jK h (fun _ : Unit => (⟨[], [], 0⟩ : St)) (fun k3 (_ : Unit) => k3 = some r) (fun k3 h => ?_) ?_
  · refine rn 1 rfl ?_
    refine wl (A := a2) 1 rfl (fun hA33 => ?_)
    refine lC (fun (p : (List UInt8) × Int) => (⟨[(2, (V.ptr 0 4 0 0)), (5, (sV (p.1))), (13, (V.lst 4 (a2.map encTFunc))), (14, (iV ((a2.length : Nat) : Int))), (15, (iV (p.2)))], [(0, (Ob.arr 124 4 [(encTreach_checker a1)]))], 1⟩ : St)) (fun n (p : (List UInt8) × Int) => RG a2 (fun tl nn => M129_L1 F a1 k3 tl nn p.1 = some r) n p.2) (fun p h => RG.zero h) (a2.length + 1) (([] : List UInt8), 0) (RG.start h) (gr [0] rfl (hB rfl rfl rfl .nil) rfl) (fun n p h => ?_)
    obtain ⟨s6, n7⟩ := p
    refine rn 5 rfl ?_
    refine spL rfl (fun hb8 => ?_) (fun hb8 => ?_)
    · obtain ⟨x11, tl, hx12, h, hk1⟩ := RG.t hA33 h hb8
      unfold M129_L1 at h
      refine rn 2 rfl ?_
      refine jK h (fun (p : (List UInt8)) => (⟨[(2, (V.ptr 0 4 0 0)), (5, (sV p)), (13, (V.lst 4 (a2.map encTFunc))), (14, (iV ((a2.length : Nat) : Int))), (15, (iV n7))], [(0, (Ob.arr 124 4 [(encTreach_checker a1)]))], 1⟩ : St)) (fun k9 (p : (List UInt8)) => k9 p = some r) (fun k9 h => ?_) ?_
      · refine rn 4 rfl ?_
        refine ixh hx12 rfl rfl ?_
        refine rn 13 rfl ?_
        refine cl h rfl rfl rfl (W173 _ _ _ _) rfl (fun y13 hx14 h => ?_)
        refine rn 7 rfl ?_
        refine spC h rfl (fun hb15 h => ?_) (fun hb15 h => ?_)
        · refine rn 5 rfl ?_
          exact rt h rfl
        refine rn 13 rfl ?_
        refine cl h rfl rfl rfl (W79 _ _) rfl (fun y16 hx17 h => ?_)
        refine rn 3 rfl ?_
        refine spC h rfl (fun hb18 h => ?_) (fun hb18 h => ?_)
        · refine rn 4 rfl ?_
          exact rt h rfl
        refine rn 4 rfl ?_
        refine ln rfl rfl ?_
        refine rn 3 rfl ?_
        refine spC h rfl (fun hb19 h => ?_) (fun hb19 h => ?_)
        · refine rn 4 rfl ?_
          exact rt h rfl
        refine rn 7 rfl ?_
        refine ln rfl rfl ?_
        refine rn 2 rfl ?_
        refine jK h (fun _ : Unit => (⟨[(2, (V.ptr 0 4 0 0)), (5, (sV x11.Name)), (7, (V.ptr 1 4 0 0)), (13, (V.lst 4 (a2.map encTFunc))), (14, (iV ((a2.length : Nat) : Int))), (15, (iV n7))], [(0, (Ob.arr 124 4 [(encTreach_checker a1)])), (1, (Ob.arr 94 4 [(encTFunc x11)]))], 2⟩ : St)) (fun k20 (_ : Unit) => k20 = some r) (fun k20 h => ?_) ?_
        · refine rn 1 rfl ?_
          refine wl (A := x11.Calls) 38 rfl (fun hA29 => ?_)
          refine lC (fun (p : Int) => (⟨[(2, (V.ptr 0 4 0 0)), (5, (sV x11.Name)), (7, (V.ptr 1 4 0 0)), (13, (V.lst 4 (a2.map encTFunc))), (14, (iV ((a2.length : Nat) : Int))), (15, (iV n7)), (42, (V.lst 4 (x11.Calls.map encTCall))), (43, (iV ((x11.Calls.length : Nat) : Int))), (44, (iV p))], [(0, (Ob.arr 124 4 [(encTreach_checker a1)])), (1, (Ob.arr 94 4 [(encTFunc x11)]))], 2⟩ : St)) (fun n (p : Int) => RG x11.Calls (fun tl nn => M129_L2 F a1 k20 tl = some r) n p) (fun p h => RG.zero h) (x11.Calls.length + 1) 0 (RG.start h) (gr [0, 1] rfl (hB rfl rfl rfl (hB rfl rfl rfl .nil)) rfl) (fun n n22 h => ?_)
          refine rn 5 rfl ?_
          refine spL rfl (fun hb23 => ?_) (fun hb23 => ?_)
          · obtain ⟨x24, tl, hx25, h, hk2⟩ := RG.t hA29 h hb23
            unfold M129_L2 at h
            refine rn 5 rfl ?_
            refine ixh hx25 rfl rfl ?_
            refine rn 8 rfl ?_
            refine cl h rfl rfl rfl (W174 _ _ _) rfl (fun y26 hx27 h => ?_)
            refine rn 7 rfl ?_
            refine spC h rfl (fun hb28 h => ?_) (fun hb28 h => ?_)
            · refine rn 5 rfl ?_
              exact rt h rfl
            refine rn 6 rfl ?_
            exact jX (w64 (n22 + 1)) (hk2 _ h) (gr [0, 1] rfl (hB rfl rfl rfl (hB rfl rfl rfl .nil)) rfl)
          replace h := RG.f h hb23
          unfold M129_L2 at h
          refine rn 1 rfl ?_
          exact jX () h (gr [0, 1] rfl (hB rfl rfl rfl (hB rfl rfl rfl .nil)) rfl)
        intro _ h
        refine rn 7 rfl ?_
        refine cl h rfl rfl rfl (W130 _ _ _ _) rfl (fun y30 hx31 h => ?_)
        refine rn 7 rfl ?_
        refine spC h rfl (fun hb32 h => ?_) (fun hb32 h => ?_)
        · refine rn 5 rfl ?_
          exact rt h rfl
        refine rn 2 rfl ?_
        exact jX x11.Name h (gr [0] rfl (hB rfl rfl rfl .nil) rfl)
      intro s10 h
      refine rn 4 rfl ?_
      exact jX (s10, (w64 (n7 + 1))) (hk1 _ h) (gr [0] rfl (hB rfl rfl rfl .nil) rfl)
    replace h := RG.f h hb8
    unfold M129_L1 at h
    refine rn 1 rfl ?_
    exact jX () h (g0 rfl rfl)
  intro _ h
  refine rn 4 rfl ?_
  exact rt h rfl
theorem W60 (F : Nat) (a1 : Treach_checker) (a2 : TGraph) (r : Int) (h : M60 F a1 a2 = some r) : Pure Tryz.prog 60 [(V.agg (encTreach_checker a1)), (V.agg (encTGraph a2))] (iV r) := by
  refine pin (fun r => (iV r)) r rfl Tryz.func60 rfl rfl rfl rfl rfl (fun w0 m0 hg => ?_)
  unfold M60 at h
  refine rn 11 rfl ?_
  refine ln rfl rfl ?_
  refine rn 2 rfl ?_
  refine spO 12 h rfl (fun hb3 h => ?_) (fun hb3 h => ?_)
  · refine rn 17 rfl ?_
    exact rt h rfl
  refine rn 2 rfl ?_
  refine ln rfl rfl ?_
  refine rn 3 rfl ?_
  refine spO 18 h rfl (fun hb4 h => ?_) (fun hb4 h => ?_)
  · refine rn 11 rfl ?_
    exact rt h rfl
  refine rn 2 rfl ?_
  refine ln rfl rfl ?_
  refine rn 3 rfl ?_
  refine spC h rfl (fun hb5 h => ?_) (fun hb5 h => ?_)
  · refine rn 4 rfl ?_
    exact rt h rfl
  refine rn 7 rfl ?_
  refine cl h rfl rfl rfl (W127 _ _ _) rfl (fun y6 hx7 h => ?_)
  refine rn 7 rfl ?_
  refine spC h rfl (fun hb8 h => ?_) (fun hb8 h => ?_)
  · refine rn 5 rfl ?_
    exact rt h rfl
  refine rn 7 rfl ?_
  refine cl h rfl rfl rfl (W128 _ _ _) rfl (fun y9 hx10 h => ?_)
  refine rn 7 rfl ?_
  refine spC h rfl (fun hb11 h => ?_) (fun hb11 h => ?_)
  · refine rn 5 rfl ?_
    exact rt h rfl
  refine rn 7 rfl ?_
  refine cl h rfl rfl rfl (W129 _ _ _) rfl (fun y12 hx13 h => ?_)
  refine rn 7 rfl ?_
  refine spC h rfl (fun hb14 h => ?_) (fun hb14 h => ?_)
  · refine rn 5 rfl ?_
    exact rt h rfl
  refine rn 8 rfl ?_
  refine cl h rfl rfl rfl (W130 _ _ _ _) rfl (fun y15 hx16 h => ?_)
  refine rn 2 rfl ?_
  exact rt h rfl
theorem W17 (F : Nat) (a1 : TGraph) (r : Int) (h : M17 F a1 = some r) : Pure Tryz.prog 17 [(V.agg (encTGraph a1))] (iV r) := by
  refine pin (fun r => (iV r)) r rfl Tryz.func17 rfl rfl rfl rfl rfl (fun w0 m0 hg => ?_)
  unfold M17 at h
  obtain ⟨y2, hx3, h⟩ := bind_some h
  obtain ⟨y4, hx5, h⟩ := bind_some h
  refine rn 6 rfl ?_
  refine dr mixed (vs 1 rfl (cD rfl rfl rfl rfl (W59 _ _ _ _ hx3) rfl (vs 1 rfl (cD rfl rfl rfl rfl (W60 _ _ _ _ hx5) rfl (vs 1 rfl .nil))))) (by kernel_rfl) ?_
  exact rt h rfl
theorem W158 (F : Nat) (a1 : (List UInt8)) (r : Bool) (h : M158 F a1 = some r) : Pure Tryz.prog 158 [(sV a1)] (bV r) := by
  refine pin (fun r => (bV r)) r rfl Tryz.func158 rfl rfl rfl rfl rfl (fun w0 m0 hg => ?_)
  unfold M158 at h
  refine rn 11 rfl ?_
  exact rt h rfl
theorem W100 (F : Nat) (a1 : (List UInt8)) (a2 : (List UInt8)) (r : Int) (h : M100 F a1 a2 = some r) : Pure Tryz.prog 100 [(sV a1), (sV a2)] (iV r) := by
  refine pin (fun r => (iV r)) r rfl Tryz.func100 rfl rfl rfl rfl rfl (fun w0 m0 hg => ?_)
  unfold M100 at h
  refine rn 7 rfl ?_
  refine cl h rfl rfl rfl (W158 _ _) rfl (fun y3 hx4 h => ?_)
  refine rn 5 rfl ?_
  refine cl h rfl rfl rfl (W158 _ _) rfl (fun y5 hx6 h => ?_)
  refine rn 7 rfl ?_
  refine spC h rfl (fun hb7 h => ?_) (fun hb7 h => ?_)
  · refine rn 5 rfl ?_
    refine spC h rfl (fun hb8 h => ?_) (fun hb8 h => ?_)
    · refine rn 4 rfl ?_
      exact rt h rfl
    refine rn 5 rfl ?_
    exact rt h rfl
  refine rn 6 rfl ?_
  refine spC h rfl (fun hb9 h => ?_) (fun hb9 h => ?_)
  · refine rn 4 rfl ?_
    exact rt h rfl
  refine rn 8 rfl ?_
  refine spC h rfl (fun hb10 h => ?_) (fun hb10 h => ?_)
  · refine rn 4 rfl ?_
    exact rt h rfl
  refine rn 8 rfl ?_
  refine spC h rfl (fun hb11 h => ?_) (fun hb11 h => ?_)
  · refine rn 4 rfl ?_
    exact rt h rfl
  refine rn 5 rfl ?_
  exact rt h rfl
theorem W208 (F : Nat) (a1 : TMethod) (a2 : (List UInt8)) (r : Int) (h : M208 F a1 a2 = some r) : Pure Tryz.prog 208 [(V.agg (encTMethod a1)), (sV a2)] (iV r) := by
  refine pin (fun r => (iV r)) r rfl Tryz.func208 rfl rfl rfl rfl rfl (fun w0 m0 hg => ?_)
  unfold M208 at h
  refine rn 10 rfl ?_
  refine cl h rfl rfl rfl (W100 _ _ _) rfl (fun y3 hx4 h => ?_)
  refine rn 2 rfl ?_
  exact rt h rfl
theorem W207 (F : Nat) (a1 : (List TMethod)) (a2 : (List UInt8)) (r : (Int × Bool)) (h : M207 F a1 a2 = some r) : Pure Tryz.prog 207 [(V.lst 2 (a1.map encTMethod)), (sV a2), (V.fn (.func 208) [] [])] (V.tup [(iV (r.1)), (bV (r.2))]) := by
  refine pin (fun r => (V.tup [(iV (r.1)), (bV (r.2))])) r rfl Tryz.func207 rfl rfl rfl rfl rfl (fun w0 m0 hg => ?_)
  unfold M207 at h
  refine rn 8 rfl ?_
  refine ln rfl rfl ?_
  refine rn 9 rfl ?_
  refine jK h (fun (p : Int) => (⟨[(0, (V.lst 2 (a1.map encTMethod))), (1, (sV a2)), (2, (V.fn (.func 208) [] [])), (8, (iV ((a1.length : Nat) : Int))), (9, (iV p))], [], 0⟩ : St)) (fun k3 (p : Int) => k3 p = some r) (fun k3 h => ?_) ?_
  · refine rn 1 rfl ?_
    refine lC (fun (p : Int × Int) => (⟨[(0, (V.lst 2 (a1.map encTMethod))), (1, (sV a2)), (2, (V.fn (.func 208) [] [])), (8, (iV ((a1.length : Nat) : Int))), (9, (iV (p.1))), (10, (iV (p.2)))], [], 0⟩ : St)) (fun n (p : Int × Int) => M207_L1 F a1 a2 k3 n p.1 p.2 = some r) (fun p h => by simp [M207_L1] at h) F (0, ((a1.length : Nat) : Int)) h (g0 rfl rfl) (fun n p h => ?_)
    obtain ⟨n7, n8⟩ := p
    unfold M207_L1 at h
    refine rn 7 rfl ?_
    refine spC h rfl (fun hb9 h => ?_) (fun hb9 h => ?_)
    · refine rn 17 rfl ?_
      refine ixl h rfl rfl (fun x10 hx11 h => ?_)
      refine rn 2 rfl ?_
      refine cl h rfl rfl rfl (W208 _ _ _) rfl (fun y12 hx13 h => ?_)
      refine rn 2 rfl ?_
      refine jK h (fun (p : Int × Int) => (⟨[(0, (V.lst 2 (a1.map encTMethod))), (1, (sV a2)), (2, (V.fn (.func 208) [] [])), (8, (iV ((a1.length : Nat) : Int))), (9, (iV (p.1))), (10, (iV (p.2)))], [], 0⟩ : St)) (fun k14 (p : Int × Int) => k14 p.1 p.2 = some r) (fun k14 h => ?_) ?_
      · refine spC h rfl (fun hb17 h => ?_) (fun hb17 h => ?_)
        · refine rn 5 rfl ?_
          exact jX ((w64 ((w64 (Int.fdiv (IntKind.wrap .u64 (w64 (n7 + n8))) (2 ^ (min (Int.toNat 1) (IntKind.bits .u64))))) + 1)), n8) h (g0 rfl rfl)
        refine rn 4 rfl ?_
        exact jX (n7, (w64 (Int.fdiv (IntKind.wrap .u64 (w64 (n7 + n8))) (2 ^ (min (Int.toNat 1) (IntKind.bits .u64)))))) h (g0 rfl rfl)
      rintro ⟨n15, n16⟩ h
      refine rn 1 rfl ?_
      exact jX (n15, n16) h (g0 rfl rfl)
    refine rn 1 rfl ?_
    exact jX n7 h (g0 rfl rfl)
  intro n4 h
  refine rn 7 rfl ?_
  refine spO 39 h rfl (fun hb18 h => ?_) (fun hb18 h => ?_)
  · refine rn 3 rfl ?_
    refine ixl h rfl rfl (fun x19 hx20 h => ?_)
    refine rn 2 rfl ?_
    refine cl h rfl rfl rfl (W208 _ _ _) rfl (fun y21 hx22 h => ?_)
    refine rn 5 rfl ?_
    exact rt h rfl
  refine rn 12 rfl ?_
  exact rt h rfl
theorem W169 (F : Nat) (a1 : TType) (a2 : (List UInt8)) (r : ((List UInt8) × Bool)) (h : M169 F a1 a2 = some r) : Pure Tryz.prog 169 [(V.agg (encTType a1)), (sV a2)] (V.tup [(sV (r.1)), (bV (r.2))]) := by
  refine pin (fun r => (V.tup [(sV (r.1)), (bV (r.2))])) r rfl Tryz.func169 rfl rfl rfl rfl rfl (fun w0 m0 hg => ?_)
  unfold M169 at h
  refine rn 11 rfl ?_
  refine cl h rfl rfl rfl (W207 _ _ _) rfl (fun y3 hx4 h => ?_)
  refine rn 12 rfl ?_
  refine spC h rfl (fun hb5 h => ?_) (fun hb5 h => ?_)
  · refine rn 5 rfl ?_
    exact rt h rfl
  refine rn 6 rfl ?_
  refine ixl h rfl rfl (fun x6 hx7 h => ?_)
  refine rn 5 rfl ?_
  exact rt h rfl
theorem W117 (F : Nat) (a1 : TType) (a2 : TIface) (r : Bool) (h : M117 F a1 a2 = some r) : Pure Tryz.prog 117 [(V.agg (encTType a1)), (V.agg (encTIface a2))] (bV r) := by
  refine pin (fun r => (bV r)) r rfl Tryz.func117 rfl rfl rfl rfl rfl (fun w0 m0 hg => ?_)
  unfold M117 at h
  refine rn 11 rfl ?_
  refine ln rfl rfl ?_
  refine rn 2 rfl ?_
  refine jK h (fun _ : Unit => (⟨[], [], 0⟩ : St)) (fun k3 (_ : Unit) => k3 = some r) (fun k3 h => ?_) ?_
  · refine rn 1 rfl ?_
    refine wl (A := a2.Methods) 10 rfl (fun hA12 => ?_)
    refine lC (fun (p : Int) => (⟨[(2, (V.ptr 0 2 0 0)), (10, (V.lst 1 (a2.Methods.map encS))), (11, (iV ((a2.Methods.length : Nat) : Int))), (12, (iV p))], [(0, (Ob.arr 104 2 [(encTType a1)]))], 1⟩ : St)) (fun n (p : Int) => RG a2.Methods (fun tl nn => M117_L1 F a1 k3 tl = some r) n p) (fun p h => RG.zero h) (a2.Methods.length + 1) 0 (RG.start h) (gr [0] rfl (hB rfl rfl rfl .nil) rfl) (fun n n5 h => ?_)
    refine rn 5 rfl ?_
    refine spL rfl (fun hb6 => ?_) (fun hb6 => ?_)
    · obtain ⟨x7, tl, hx8, h, hk1⟩ := RG.t hA12 h hb6
      unfold M117_L1 at h
      refine rn 5 rfl ?_
      refine ixh hx8 rfl rfl ?_
      refine rn 7 rfl ?_
      refine cl h rfl rfl rfl (W169 _ _ _) rfl (fun y9 hx10 h => ?_)
      refine rn 11 rfl ?_
      refine spC h rfl (fun hb11 h => ?_) (fun hb11 h => ?_)
      · refine rn 4 rfl ?_
        exact rt h rfl
      refine rn 6 rfl ?_
      exact jX (w64 (n5 + 1)) (hk1 _ h) (gr [0] rfl (hB rfl rfl rfl .nil) rfl)
    replace h := RG.f h hb6
    unfold M117_L1 at h
    refine rn 1 rfl ?_
    exact jX () h (g0 rfl rfl)
  intro _ h
  refine rn 4 rfl ?_
  exact rt h rfl
theorem W41 (F : Nat) (a1 : TGraph) (a2 : Int) (a3 : (List (List UInt8))) (r : (Option Treach_world)) (h : M41 F a1 a2 a3 = some r) : Pure Tryz.prog 41 [(V.agg (encTGraph a1)), (iV a2), (V.lst 1 (a3.map encS))] (optr encTreach_world r) := by
  refine pin (fun r => (optr encTreach_world r)) r rfl Tryz.func41 rfl rfl rfl rfl rfl (fun w0 m0 hg => ?_)
  unfold M41 at h
  refine rn 12 rfl ?_
  refine aops_insert (es := ([] : List ((List UInt8) × Bool)).map encM9_4) ((mput ([] : List ((List UInt8) × Bool)) ([] : List UInt8) true).map encM9_4) tMap89 tKey9 wants_none rfl rfl (.con rfl) ⟨_, rfl⟩ encM9_4_good rfl (encM9_4_puts ([] : List ((List UInt8) × Bool)) ([] : List UInt8) true) ?_
  refine fo (rn 12 rfl ?_)
  refine ln rfl rfl ?_
  refine rn 2 rfl ?_
  refine jK h (fun (p : (List ((List UInt8) × Int))) => (⟨[(2, (V.lst 1 (a3.map encS))), (3, (V.ptr 0 4 0 0)), (7, (V.ptr 1 9 0 0))], [(0, (Ob.arr 27 4 [(encTGraph a1)])), (1, (Ob.arr 91 9 [[(V.lst 2 (a1.Ifaces.map encTIface)), (V.lst 2 (a1.Types.map encTType)), (V.lst 4 (a1.Funcs.map encTFunc)), (V.lst 1 (a1.Entries.map encS)), (V.map 2), (V.map 3), (V.map 4), (V.map 5), (bV (a2 == 2))]])), (2, (Ob.map (p.map encM9_3))), (3, (Ob.map (([] : List ((List UInt8) × Int)).map encM9_3))), (4, (Ob.map (([] : List ((List UInt8) × (List Int))).map encM9_387))), (5, (Ob.map ((mput ([] : List ((List UInt8) × Bool)) ([] : List UInt8) true).map encM9_4)))], 6⟩ : St)) (fun k4 (p : (List ((List UInt8) × Int))) => k4 p = some r) (fun k4 h => ?_) ?_
  · refine rn 1 rfl ?_
    refine wl (A := a1.Funcs) 29 rfl (fun hA13 => ?_)
    refine lC (fun (p : Int × (List ((List UInt8) × Int))) => (⟨[(2, (V.lst 1 (a3.map encS))), (3, (V.ptr 0 4 0 0)), (7, (V.ptr 1 9 0 0)), (29, (V.lst 4 (a1.Funcs.map encTFunc))), (30, (iV ((a1.Funcs.length : Nat) : Int))), (31, (iV (p.1)))], [(0, (Ob.arr 27 4 [(encTGraph a1)])), (1, (Ob.arr 91 9 [[(V.lst 2 (a1.Ifaces.map encTIface)), (V.lst 2 (a1.Types.map encTType)), (V.lst 4 (a1.Funcs.map encTFunc)), (V.lst 1 (a1.Entries.map encS)), (V.map 2), (V.map 3), (V.map 4), (V.map 5), (bV (a2 == 2))]])), (2, (Ob.map ((p.2).map encM9_3))), (3, (Ob.map (([] : List ((List UInt8) × Int)).map encM9_3))), (4, (Ob.map (([] : List ((List UInt8) × (List Int))).map encM9_387))), (5, (Ob.map ((mput ([] : List ((List UInt8) × Bool)) ([] : List UInt8) true).map encM9_4)))], 6⟩ : St)) (fun n (p : Int × (List ((List UInt8) × Int))) => RG a1.Funcs (fun tl nn => M41_L1 F k4 tl nn p.2 = some r) n p.1) (fun p h => RG.zero h) (a1.Funcs.length + 1) (0, ([] : List ((List UInt8) × Int))) (RG.start h) (gr [0, 5, 1, 2, 3, 4] rfl (hB rfl rfl rfl (hB rfl rfl rfl (hM rfl rfl (hM rfl rfl (hM rfl rfl (hM rfl rfl .nil)))))) rfl) (fun n p h => ?_)
    obtain ⟨n8, m9⟩ := p
    refine rn 5 rfl ?_
    refine spL rfl (fun hb10 => ?_) (fun hb10 => ?_)
    · obtain ⟨x11, tl, hx12, h, hk1⟩ := RG.t hA13 h hb10
      unfold M41_L1 at h
      refine rn 6 rfl ?_
      refine ixh hx12 rfl rfl ?_
      refine rn 5 rfl ?_
      refine dr mixed (vs 7 rfl (xD (OD.mk [(39, (V.map 2)), (41, (sV x11.Name)), (42, (iV n8))] [(2, (Ob.map (m9.map encM9_3)))] [] [(2, (Ob.map ((mput m9 x11.Name n8).map encM9_3)))]) ⟨⟨rfl, rfl, rfl, trivial⟩, ⟨rfl, trivial⟩⟩ (by exact fun S hn h hh => aops_mapUpdate (es := m9.map encM9_3) ((mput m9 x11.Name n8).map encM9_3) tMap87 tKey9 wants_none h.1 hh.1 (.con h.2.1) ⟨_, rfl⟩ encM9_3_good h.2.2.1 (encM9_3_puts m9 x11.Name n8) (aops_nil ⟨rfl, rfl⟩)) rfl .nil)) (by kernel_rfl) ?_
      refine rn 5 rfl ?_
      exact jX ((w64 (n8 + 1)), (mput m9 x11.Name n8)) (hk1 _ h) (gr [0, 1, 2, 3, 4, 5] rfl (hB rfl rfl rfl (hB rfl rfl rfl (hM rfl rfl (hM rfl rfl (hM rfl rfl (hM rfl rfl .nil)))))) rfl)
    replace h := RG.f h hb10
    unfold M41_L1 at h
    refine rn 1 rfl ?_
    exact jX m9 h (gr [0, 1, 2, 3, 4, 5] rfl (hB rfl rfl rfl (hB rfl rfl rfl (hM rfl rfl (hM rfl rfl (hM rfl rfl (hM rfl rfl .nil)))))) rfl)
  intro m5 h
  refine rn 5 rfl ?_
  refine ln rfl rfl ?_
  refine rn 2 rfl ?_
  refine jK h (fun (p : (List ((List UInt8) × Int))) => (⟨[(2, (V.lst 1 (a3.map encS))), (3, (V.ptr 0 4 0 0)), (7, (V.ptr 1 9 0 0))], [(0, (Ob.arr 27 4 [(encTGraph a1)])), (1, (Ob.arr 91 9 [[(V.lst 2 (a1.Ifaces.map encTIface)), (V.lst 2 (a1.Types.map encTType)), (V.lst 4 (a1.Funcs.map encTFunc)), (V.lst 1 (a1.Entries.map encS)), (V.map 2), (V.map 3), (V.map 4), (V.map 5), (bV (a2 == 2))]])), (2, (Ob.map (m5.map encM9_3))), (3, (Ob.map (p.map encM9_3))), (4, (Ob.map (([] : List ((List UInt8) × (List Int))).map encM9_387))), (5, (Ob.map ((mput ([] : List ((List UInt8) × Bool)) ([] : List UInt8) true).map encM9_4)))], 6⟩ : St)) (fun k14 (p : (List ((List UInt8) × Int))) => k14 p = some r) (fun k14 h => ?_) ?_
  · refine rn 1 rfl ?_
    refine wl (A := a1.Types) 45 rfl (fun hA23 => ?_)
    refine lC (fun (p : Int × (List ((List UInt8) × Int))) => (⟨[(2, (V.lst 1 (a3.map encS))), (3, (V.ptr 0 4 0 0)), (7, (V.ptr 1 9 0 0)), (45, (V.lst 2 (a1.Types.map encTType))), (46, (iV ((a1.Types.length : Nat) : Int))), (47, (iV (p.1)))], [(0, (Ob.arr 27 4 [(encTGraph a1)])), (1, (Ob.arr 91 9 [[(V.lst 2 (a1.Ifaces.map encTIface)), (V.lst 2 (a1.Types.map encTType)), (V.lst 4 (a1.Funcs.map encTFunc)), (V.lst 1 (a1.Entries.map encS)), (V.map 2), (V.map 3), (V.map 4), (V.map 5), (bV (a2 == 2))]])), (2, (Ob.map (m5.map encM9_3))), (3, (Ob.map ((p.2).map encM9_3))), (4, (Ob.map (([] : List ((List UInt8) × (List Int))).map encM9_387))), (5, (Ob.map ((mput ([] : List ((List UInt8) × Bool)) ([] : List UInt8) true).map encM9_4)))], 6⟩ : St)) (fun n (p : Int × (List ((List UInt8) × Int))) => RG a1.Types (fun tl nn => M41_L2 F k14 tl nn p.2 = some r) n p.1) (fun p h => RG.zero h) (a1.Types.length + 1) (0, ([] : List ((List UInt8) × Int))) (RG.start h) (gr [0, 1, 2, 3, 4, 5] rfl (hB rfl rfl rfl (hB rfl rfl rfl (hM rfl rfl (hM rfl rfl (hM rfl rfl (hM rfl rfl .nil)))))) rfl) (fun n p h => ?_)
    obtain ⟨n18, m19⟩ := p
    refine rn 5 rfl ?_
    refine spL rfl (fun hb20 => ?_) (fun hb20 => ?_)
    · obtain ⟨x21, tl, hx22, h, hk2⟩ := RG.t hA23 h hb20
      unfold M41_L2 at h
      refine rn 6 rfl ?_
      refine ixh hx22 rfl rfl ?_
      refine rn 5 rfl ?_
      refine dr mixed (vs 7 rfl (xD (OD.mk [(55, (V.map 3)), (57, (sV x21.Name)), (58, (iV n18))] [(3, (Ob.map (m19.map encM9_3)))] [] [(3, (Ob.map ((mput m19 x21.Name n18).map encM9_3)))]) ⟨⟨rfl, rfl, rfl, trivial⟩, ⟨rfl, trivial⟩⟩ (by exact fun S hn h hh => aops_mapUpdate (es := m19.map encM9_3) ((mput m19 x21.Name n18).map encM9_3) tMap87 tKey9 wants_none h.1 hh.1 (.con h.2.1) ⟨_, rfl⟩ encM9_3_good h.2.2.1 (encM9_3_puts m19 x21.Name n18) (aops_nil ⟨rfl, rfl⟩)) rfl .nil)) (by kernel_rfl) ?_
      refine rn 5 rfl ?_
      exact jX ((w64 (n18 + 1)), (mput m19 x21.Name n18)) (hk2 _ h) (gr [0, 1, 2, 3, 4, 5] rfl (hB rfl rfl rfl (hB rfl rfl rfl (hM rfl rfl (hM rfl rfl (hM rfl rfl (hM rfl rfl .nil)))))) rfl)
    replace h := RG.f h hb20
    unfold M41_L2 at h
    refine rn 1 rfl ?_
    exact jX m19 h (gr [0, 1, 2, 3, 4, 5] rfl (hB rfl rfl rfl (hB rfl rfl rfl (hM rfl rfl (hM rfl rfl (hM rfl rfl (hM rfl rfl .nil)))))) rfl)
  intro m15 h
  refine rn 5 rfl ?_
  refine ln rfl rfl ?_
  refine rn 2 rfl ?_
  refine jK h (fun (p : (List ((List UInt8) × (List Int)))) => (⟨[(2, (V.lst 1 (a3.map encS))), (7, (V.ptr 0 9 0 0))], [(0, (Ob.arr 91 9 [[(V.lst 2 (a1.Ifaces.map encTIface)), (V.lst 2 (a1.Types.map encTType)), (V.lst 4 (a1.Funcs.map encTFunc)), (V.lst 1 (a1.Entries.map encS)), (V.map 1), (V.map 2), (V.map 3), (V.map 4), (bV (a2 == 2))]])), (1, (Ob.map (m5.map encM9_3))), (2, (Ob.map (m15.map encM9_3))), (3, (Ob.map (p.map encM9_387))), (4, (Ob.map ((mput ([] : List ((List UInt8) × Bool)) ([] : List UInt8) true).map encM9_4)))], 5⟩ : St)) (fun k24 (p : (List ((List UInt8) × (List Int)))) => k24 p = some r) (fun k24 h => ?_) ?_
  · refine rn 1 rfl ?_
    refine wl (A := a1.Ifaces) 61 rfl (fun hA51 => ?_)
    refine lC (fun (p : Int × (List ((List UInt8) × (List Int)))) => (⟨[(2, (V.lst 1 (a3.map encS))), (3, (V.ptr 0 4 0 0)), (7, (V.ptr 1 9 0 0)), (61, (V.lst 2 (a1.Ifaces.map encTIface))), (62, (iV ((a1.Ifaces.length : Nat) : Int))), (63, (iV (p.1)))], [(0, (Ob.arr 27 4 [(encTGraph a1)])), (1, (Ob.arr 91 9 [[(V.lst 2 (a1.Ifaces.map encTIface)), (V.lst 2 (a1.Types.map encTType)), (V.lst 4 (a1.Funcs.map encTFunc)), (V.lst 1 (a1.Entries.map encS)), (V.map 2), (V.map 3), (V.map 4), (V.map 5), (bV (a2 == 2))]])), (2, (Ob.map (m5.map encM9_3))), (3, (Ob.map (m15.map encM9_3))), (4, (Ob.map ((p.2).map encM9_387))), (5, (Ob.map ((mput ([] : List ((List UInt8) × Bool)) ([] : List UInt8) true).map encM9_4)))], 6⟩ : St)) (fun n (p : Int × (List ((List UInt8) × (List Int)))) => RG a1.Ifaces (fun tl nn => M41_L3 F a1 k24 tl p.2 = some r) n p.1) (fun p h => RG.zero h) (a1.Ifaces.length + 1) (0, ([] : List ((List UInt8) × (List Int)))) (RG.start h) (gr [0, 1, 2, 3, 4, 5] rfl (hB rfl rfl rfl (hB rfl rfl rfl (hM rfl rfl (hM rfl rfl (hM rfl rfl (hM rfl rfl .nil)))))) rfl) (fun n p h => ?_)
    obtain ⟨n28, m29⟩ := p
    refine rn 5 rfl ?_
    refine spL rfl (fun hb30 => ?_) (fun hb30 => ?_)
    · obtain ⟨x33, tl, hx34, h, hk3⟩ := RG.t hA51 h hb30
      unfold M41_L3 at h
      refine rn 2 rfl ?_
      refine jK h (fun (p : (List ((List UInt8) × (List Int)))) => (⟨[(2, (V.lst 1 (a3.map encS))), (3, (V.ptr 0 4 0 0)), (7, (V.ptr 1 9 0 0)), (61, (V.lst 2 (a1.Ifaces.map encTIface))), (62, (iV ((a1.Ifaces.length : Nat) : Int))), (63, (iV n28))], [(0, (Ob.arr 27 4 [(encTGraph a1)])), (1, (Ob.arr 91 9 [[(V.lst 2 (a1.Ifaces.map encTIface)), (V.lst 2 (a1.Types.map encTType)), (V.lst 4 (a1.Funcs.map encTFunc)), (V.lst 1 (a1.Entries.map encS)), (V.map 2), (V.map 3), (V.map 4), (V.map 5), (bV (a2 == 2))]])), (2, (Ob.map (m5.map encM9_3))), (3, (Ob.map (m15.map encM9_3))), (4, (Ob.map (p.map encM9_387))), (5, (Ob.map ((mput ([] : List ((List UInt8) × Bool)) ([] : List UInt8) true).map encM9_4)))], 6⟩ : St)) (fun k31 (p : (List ((List UInt8) × (List Int)))) => k31 p = some r) (fun k31 h => ?_) ?_
      · refine rn 3 rfl ?_
        refine ixh hx34 rfl rfl ?_
        refine rn 8 rfl ?_
        refine ln rfl rfl ?_
        refine rn 2 rfl ?_
        refine jK h (fun (p : (List ((List UInt8) × (List Int)))) => (⟨[(2, (V.lst 1 (a3.map encS))), (3, (V.ptr 0 4 0 0)), (7, (V.ptr 1 9 0 0)), (61, (V.lst 2 (a1.Ifaces.map encTIface))), (62, (iV ((a1.Ifaces.length : Nat) : Int))), (63, (iV n28))], [(0, (Ob.arr 27 4 [(encTGraph a1)])), (1, (Ob.arr 91 9 [[(V.lst 2 (a1.Ifaces.map encTIface)), (V.lst 2 (a1.Types.map encTType)), (V.lst 4 (a1.Funcs.map encTFunc)), (V.lst 1 (a1.Entries.map encS)), (V.map 2), (V.map 3), (V.map 4), (V.map 5), (bV (a2 == 2))]])), (2, (Ob.map (m5.map encM9_3))), (3, (Ob.map (m15.map encM9_3))), (4, (Ob.map (p.map encM9_387))), (5, (Ob.map ((mput ([] : List ((List UInt8) × Bool)) ([] : List UInt8) true).map encM9_4)))], 6⟩ : St)) (fun k35 (p : (List ((List UInt8) × (List Int)))) => k35 p = some r) (fun k35 h => ?_) ?_
        · refine rn 1 rfl ?_
          refine wl (A := a1.Types) 68 rfl (fun hA50 => ?_)
          refine lC (fun (p : Int × (List ((List UInt8) × (List Int)))) => (⟨[(2, (V.lst 1 (a3.map encS))), (3, (V.ptr 0 4 0 0)), (7, (V.ptr 1 9 0 0)), (13, (V.ptr 2 2 0 0)), (61, (V.lst 2 (a1.Ifaces.map encTIface))), (62, (iV ((a1.Ifaces.length : Nat) : Int))), (63, (iV n28)), (68, (V.lst 2 (a1.Types.map encTType))), (69, (iV ((a1.Types.length : Nat) : Int))), (70, (iV (p.1)))], [(0, (Ob.arr 27 4 [(encTGraph a1)])), (1, (Ob.arr 91 9 [[(V.lst 2 (a1.Ifaces.map encTIface)), (V.lst 2 (a1.Types.map encTType)), (V.lst 4 (a1.Funcs.map encTFunc)), (V.lst 1 (a1.Entries.map encS)), (V.map 3), (V.map 4), (V.map 5), (V.map 6), (bV (a2 == 2))]])), (2, (Ob.arr 98 2 [(encTIface x33)])), (3, (Ob.map (m5.map encM9_3))), (4, (Ob.map (m15.map encM9_3))), (5, (Ob.map ((p.2).map encM9_387))), (6, (Ob.map ((mput ([] : List ((List UInt8) × Bool)) ([] : List UInt8) true).map encM9_4)))], 7⟩ : St)) (fun n (p : Int × (List ((List UInt8) × (List Int)))) => RG a1.Types (fun tl nn => M41_L4 F x33 k35 tl nn p.2 = some r) n p.1) (fun p h => RG.zero h) (a1.Types.length + 1) (0, m29) (RG.start h) (gr [0, 1, 6, 2, 3, 4, 5] rfl (hB rfl rfl rfl (hB rfl rfl rfl (hB rfl rfl rfl (hM rfl rfl (hM rfl rfl (hM rfl rfl (hM rfl rfl .nil))))))) rfl) (fun n p h => ?_)
          obtain ⟨n39, m40⟩ := p
          refine rn 5 rfl ?_
          refine spL rfl (fun hb41 => ?_) (fun hb41 => ?_)
          · obtain ⟨x42, tl, hx43, h, hk4⟩ := RG.t hA50 h hb41
            unfold M41_L4 at h
            refine rn 6 rfl ?_
            refine ixh hx43 rfl rfl ?_
            refine rn 9 rfl ?_
            refine cl h rfl rfl rfl (W117 _ _ _) rfl (fun y44 hx45 h => ?_)
            refine rn 1 rfl ?_
            refine jK h (fun (p : (List ((List UInt8) × (List Int)))) => (⟨[(2, (V.lst 1 (a3.map encS))), (3, (V.ptr 0 4 0 0)), (7, (V.ptr 1 9 0 0)), (13, (V.ptr 2 2 0 0)), (61, (V.lst 2 (a1.Ifaces.map encTIface))), (62, (iV ((a1.Ifaces.length : Nat) : Int))), (63, (iV n28)), (68, (V.lst 2 (a1.Types.map encTType))), (69, (iV ((a1.Types.length : Nat) : Int))), (70, (iV n39))], [(0, (Ob.arr 27 4 [(encTGraph a1)])), (1, (Ob.arr 91 9 [[(V.lst 2 (a1.Ifaces.map encTIface)), (V.lst 2 (a1.Types.map encTType)), (V.lst 4 (a1.Funcs.map encTFunc)), (V.lst 1 (a1.Entries.map encS)), (V.map 3), (V.map 4), (V.map 5), (V.map 6), (bV (a2 == 2))]])), (2, (Ob.arr 98 2 [(encTIface x33)])), (3, (Ob.map (m5.map encM9_3))), (4, (Ob.map (m15.map encM9_3))), (5, (Ob.map (p.map encM9_387))), (6, (Ob.map ((mput ([] : List ((List UInt8) × Bool)) ([] : List UInt8) true).map encM9_4)))], 7⟩ : St)) (fun k46 (p : (List ((List UInt8) × (List Int)))) => k46 p = some r) (fun k46 h => ?_) ?_
            · refine spC h rfl (fun hb48 h => ?_) (fun hb48 h => ?_)
              · refine ck h (fun hc49 h => ?_)
                refine awp_ghost ghost_res ?_
                refine awp_ghost ghost_res ?_
                refine fa ?_
                refine dr mixed (vs 12 rfl (xD (OD.mk [(87, (V.map 5)), (89, (sV x33.Name))] [(5, (Ob.map (m40.map encM9_387))), (8, Ob.res)] [(90, (V.own 8 ((mget m40 x33.Name).getD []).length))] [(5, (Ob.map (holeM encM9_387 8 x33.Name m40))), (8, (Ob.arr 3 1 (((mget m40 x33.Name).getD []).map encI_i64)))]) ⟨⟨rfl, rfl, trivial⟩, ⟨rfl, rfl, trivial⟩⟩ (by exact fun S hn h hh => aops_lookup_tk_at 8 rfl hn hh.2.1 (n := ((mget m40 x33.Name).getD []).length) tMap88 tKey9 tZo165 wants_none h.1 hh.1 (.con h.2.1) ⟨_, rfl⟩ encM9_387_good (lookT_enc encM9_387 (fun k => str k) encI_i64 3 1 8 (fun _ => rfl) inj_str x33.Name m40) (by simp) rfl (aops_nil ⟨rfl, rfl⟩)) rfl (vs 1 rfl (xD (OD.mk [(91, (iV n39))] [] [(92, (V.lst 1 (([n39] : List Int).map encI_i64)))] []) ⟨⟨rfl, trivial⟩, trivial⟩ (by exact fun S hn h hh => aops_buildSlice_imm [(0, (iV n39))] [[(iV n39)]] tEl165 tZ3 wants_none rfl rfl rfl rfl (evp_cons h.1 evp_nil) rfl rfl (by simp) (imms_rows (.cons (.cons (Imm.con _) .nil) .nil)) rfl (aops_nil ⟨rfl, rfl⟩)) rfl (xD (OD.mk [(90, (V.own 8 ((mget m40 x33.Name).getD []).length)), (92, (V.lst 1 (([n39] : List Int).map encI_i64)))] [(8, (Ob.arr 3 1 (((mget m40 x33.Name).getD []).map encI_i64))), (9, Ob.res)] [(93, (V.own 9 (((mget m40 x33.Name).getD []) ++ ([n39] : List Int)).length))] [(9, (Ob.arr 3 1 ((((mget m40 x33.Name).getD []) ++ ([n39] : List Int)).map encI_i64))), (8, Ob.dead)]) ⟨⟨rfl, rfl, trivial⟩, ⟨rfl, rfl, trivial⟩⟩ (by exact fun S hn h hh => aops_append_at 9 rfl hn hh.2.1 (([n39] : List Int).map encI_i64) ((((mget m40 x33.Name).getD []) ++ ([n39] : List Int)).map encI_i64) tEl165 tIsSl165 rfl rfl wants_none h.1 hh.1 (by simp) h.2.1 (.lst (rows_one one_encI_i64)) (map_snoc encI_i64 ((mget m40 x33.Name).getD []) ([n39] : List Int)) (List.length_map ..) hc49 rfl (aops_nil ⟨rfl, rfl⟩)) rfl (xD (OD.mk [(81, (V.map 5)), (83, (sV x33.Name)), (93, (V.own 9 (((mget m40 x33.Name).getD []) ++ ([n39] : List Int)).length))] [(5, (Ob.map (holeM encM9_387 8 x33.Name m40))), (9, (Ob.arr 3 1 ((((mget m40 x33.Name).getD []) ++ ([n39] : List Int)).map encI_i64)))] [] [(5, (Ob.map ((mput m40 x33.Name (((mget m40 x33.Name).getD []) ++ ([n39] : List Int))).map encM9_387))), (9, Ob.dead)]) ⟨⟨rfl, rfl, rfl, trivial⟩, ⟨rfl, rfl, trivial⟩⟩ (by exact fun S hn h hh => aops_mapUpdate_deepG (id2 := 9) (o := (V.own 9 (((mget m40 x33.Name).getD []) ++ ([n39] : List Int)).length)) (dv := (.dsl 3 1 ((((mget m40 x33.Name).getD []) ++ ([n39] : List Int)).map encI_i64))) (ob := (.arr 3 1 ((((mget m40 x33.Name).getD []) ++ ([n39] : List Int)).map encI_i64))) ((mput m40 x33.Name (((mget m40 x33.Name).getD []) ++ ([n39] : List Int))).map encM9_387) tMap88 tKey9 wants_none h.1 hh.1 (.con h.2.1) ⟨_, rfl⟩ (good_holeM (fun _ => ⟨_, rfl⟩)) h.2.2.1 (by simp [ovl]) hh.2.1 rfl (okeep_rows imms_encI_i64 (((mget m40 x33.Name).getD []) ++ ([n39] : List Int))) (puts_hole encM9_387 (fun k => str k) encI_i64 3 1 8 (fun _ => rfl) inj_str x33.Name (((mget m40 x33.Name).getD []) ++ ([n39] : List Int)) m40) (aops_nil ⟨rfl, rfl⟩)) rfl .nil)))))) (by kernel_rfl) ?_
                exact jX (mput m40 x33.Name (((mget m40 x33.Name).getD []) ++ ([n39] : List Int))) h (gr [0, 1, 2, 3, 4, 5, 6] rfl (hB rfl rfl rfl (hB rfl rfl rfl (hB rfl rfl rfl (hM rfl rfl (hM rfl rfl (hM rfl rfl (hM rfl rfl .nil))))))) rfl)
              refine rn 1 rfl ?_
              exact jX m40 h (gr [0, 1, 2, 3, 4, 5, 6] rfl (hB rfl rfl rfl (hB rfl rfl rfl (hB rfl rfl rfl (hM rfl rfl (hM rfl rfl (hM rfl rfl (hM rfl rfl .nil))))))) rfl)
            intro m47 h
            refine rn 5 rfl ?_
            exact jX ((w64 (n39 + 1)), m47) (hk4 _ h) (gr [0, 1, 2, 3, 4, 5, 6] rfl (hB rfl rfl rfl (hB rfl rfl rfl (hB rfl rfl rfl (hM rfl rfl (hM rfl rfl (hM rfl rfl (hM rfl rfl .nil))))))) rfl)
          replace h := RG.f h hb41
          unfold M41_L4 at h
          refine rn 1 rfl ?_
          exact jX m40 h (gr [0, 1, 3, 4, 5, 6] rfl (hB rfl rfl rfl (hB rfl rfl rfl (hM rfl rfl (hM rfl rfl (hM rfl rfl (hM rfl rfl .nil)))))) rfl)
        intro m36 h
        refine rn 1 rfl ?_
        exact jX m36 h (gr [0, 1, 2, 3, 4, 5] rfl (hB rfl rfl rfl (hB rfl rfl rfl (hM rfl rfl (hM rfl rfl (hM rfl rfl (hM rfl rfl .nil)))))) rfl)
      intro m32 h
      refine rn 4 rfl ?_
      exact jX ((w64 (n28 + 1)), m32) (hk3 _ h) (gr [0, 1, 2, 3, 4, 5] rfl (hB rfl rfl rfl (hB rfl rfl rfl (hM rfl rfl (hM rfl rfl (hM rfl rfl (hM rfl rfl .nil)))))) rfl)
    replace h := RG.f h hb30
    unfold M41_L3 at h
    refine rn 1 rfl ?_
    exact jX m29 h (gr [1, 2, 3, 4, 5] rfl (hB rfl rfl rfl (hM rfl rfl (hM rfl rfl (hM rfl rfl (hM rfl rfl .nil))))) rfl)
  intro m25 h
  refine rn 4 rfl ?_
  refine ln rfl rfl ?_
  refine rn 2 rfl ?_
  refine jK h (fun (p : (List ((List UInt8) × Bool))) => (⟨[(7, (V.ptr 0 9 0 0))], [(0, (Ob.arr 91 9 [[(V.lst 2 (a1.Ifaces.map encTIface)), (V.lst 2 (a1.Types.map encTType)), (V.lst 4 (a1.Funcs.map encTFunc)), (V.lst 1 (a1.Entries.map encS)), (V.map 1), (V.map 2), (V.map 3), (V.map 4), (bV (a2 == 2))]])), (1, (Ob.map (m5.map encM9_3))), (2, (Ob.map (m15.map encM9_3))), (3, (Ob.map (m25.map encM9_387))), (4, (Ob.map (p.map encM9_4)))], 5⟩ : St)) (fun k52 (p : (List ((List UInt8) × Bool))) => k52 p = some r) (fun k52 h => ?_) ?_
  · refine rn 1 rfl ?_
    refine wl (A := a3) 2 rfl (fun hA61 => ?_)
    refine lC (fun (p : Int × (List ((List UInt8) × Bool))) => (⟨[(7, (V.ptr 0 9 0 0)), (96, (V.lst 1 (a3.map encS))), (97, (iV ((a3.length : Nat) : Int))), (98, (iV (p.1)))], [(0, (Ob.arr 91 9 [[(V.lst 2 (a1.Ifaces.map encTIface)), (V.lst 2 (a1.Types.map encTType)), (V.lst 4 (a1.Funcs.map encTFunc)), (V.lst 1 (a1.Entries.map encS)), (V.map 1), (V.map 2), (V.map 3), (V.map 4), (bV (a2 == 2))]])), (1, (Ob.map (m5.map encM9_3))), (2, (Ob.map (m15.map encM9_3))), (3, (Ob.map (m25.map encM9_387))), (4, (Ob.map ((p.2).map encM9_4)))], 5⟩ : St)) (fun n (p : Int × (List ((List UInt8) × Bool))) => RG a3 (fun tl nn => M41_L5 F k52 tl p.2 = some r) n p.1) (fun p h => RG.zero h) (a3.length + 1) (0, (mput ([] : List ((List UInt8) × Bool)) ([] : List UInt8) true)) (RG.start h) (gr [0, 1, 2, 3, 4] rfl (hB rfl rfl rfl (hM rfl rfl (hM rfl rfl (hM rfl rfl (hM rfl rfl .nil))))) rfl) (fun n p h => ?_)
    obtain ⟨n56, m57⟩ := p
    refine rn 5 rfl ?_
    refine spL rfl (fun hb58 => ?_) (fun hb58 => ?_)
    · obtain ⟨x59, tl, hx60, h, hk5⟩ := RG.t hA61 h hb58
      unfold M41_L5 at h
      refine rn 5 rfl ?_
      refine ixh hx60 rfl rfl ?_
      refine rn 9 rfl ?_
      refine aops_mapUpdate (es := m57.map encM9_4) ((mput m57 x59 true).map encM9_4) tMap89 tKey9 wants_none rfl rfl (.con rfl) ⟨_, rfl⟩ encM9_4_good rfl (encM9_4_puts m57 x59 true) ?_
      refine fo (rn 6 rfl ?_)
      exact jX ((w64 (n56 + 1)), (mput m57 x59 true)) (hk5 _ h) (gr [0, 1, 2, 3, 4] rfl (hB rfl rfl rfl (hM rfl rfl (hM rfl rfl (hM rfl rfl (hM rfl rfl .nil))))) rfl)
    replace h := RG.f h hb58
    unfold M41_L5 at h
    refine rn 1 rfl ?_
    exact jX m57 h (gr [0, 1, 2, 3, 4] rfl (hB rfl rfl rfl (hM rfl rfl (hM rfl rfl (hM rfl rfl (hM rfl rfl .nil))))) rfl)
  intro m53 h
  refine rn 5 rfl ?_
  refine awp_ghost (ghost_frzMC 1 0 (Ob.arr 91 9 [[(V.lst 2 (a1.Ifaces.map encTIface)), (V.lst 2 (a1.Types.map encTType)), (V.lst 4 (a1.Funcs.map encTFunc)), (V.lst 1 (a1.Entries.map encS)), (V.imap (m5.map encM9_3)), (V.map 2), (V.map 3), (V.map 4), (bV (a2 == 2))]]) rfl encM9_3_imm (ObSub.box (.cons Sub.keepM (.cons Sub.keepM (.cons Sub.keepM (.cons Sub.keepM (.cons Sub.frzM (.cons Sub.keepM (.cons Sub.keepM (.cons Sub.keepM (.cons Sub.keepM .nil))))))))))) ?_
  refine awp_ghost (ghost_frzMC 2 0 (Ob.arr 91 9 [[(V.lst 2 (a1.Ifaces.map encTIface)), (V.lst 2 (a1.Types.map encTType)), (V.lst 4 (a1.Funcs.map encTFunc)), (V.lst 1 (a1.Entries.map encS)), (V.imap (m5.map encM9_3)), (V.imap (m15.map encM9_3)), (V.map 3), (V.map 4), (bV (a2 == 2))]]) rfl encM9_3_imm (ObSub.box (.cons Sub.keepM (.cons Sub.keepM (.cons Sub.keepM (.cons Sub.keepM (.cons Sub.keepM (.cons Sub.frzM (.cons Sub.keepM (.cons Sub.keepM (.cons Sub.keepM .nil))))))))))) ?_
  refine awp_ghost (ghost_frzDMC 3 0 (m25.map encM9_165) (Ob.arr 91 9 [[(V.lst 2 (a1.Ifaces.map encTIface)), (V.lst 2 (a1.Types.map encTType)), (V.lst 4 (a1.Funcs.map encTFunc)), (V.lst 1 (a1.Entries.map encS)), (V.imap (m5.map encM9_3)), (V.imap (m15.map encM9_3)), (V.imap (m25.map encM9_165)), (V.map 4), (bV (a2 == 2))]]) rfl (by simp) (und_map encM9_387_und _) (ObSub.box (.cons Sub.keepM (.cons Sub.keepM (.cons Sub.keepM (.cons Sub.keepM (.cons Sub.keepM (.cons Sub.keepM (.cons Sub.frzM (.cons Sub.keepM (.cons Sub.keepM .nil))))))))))) ?_
  refine awp_ghost (ghost_frzMC 4 0 (Ob.arr 91 9 [[(V.lst 2 (a1.Ifaces.map encTIface)), (V.lst 2 (a1.Types.map encTType)), (V.lst 4 (a1.Funcs.map encTFunc)), (V.lst 1 (a1.Entries.map encS)), (V.imap (m5.map encM9_3)), (V.imap (m15.map encM9_3)), (V.imap (m25.map encM9_165)), (V.imap (m53.map encM9_4)), (bV (a2 == 2))]]) rfl encM9_4_imm (ObSub.box (.cons Sub.keepM (.cons Sub.keepM (.cons Sub.keepM (.cons Sub.keepM (.cons Sub.keepM (.cons Sub.keepM (.cons Sub.keepM (.cons Sub.frzM (.cons Sub.keepM .nil))))))))))) ?_
  refine awp_ghost (ghost_frzP 0 6 rfl (imms_rows (.cons (.cons (Imm.lst _ _) (.cons (Imm.lst _ _) (.cons (Imm.lst _ _) (.cons (Imm.lst _ _) (.cons (Imm.imap _) (.cons (Imm.imap _) (.cons (Imm.imap _) (.cons (Imm.imap _) (.cons (Imm.con _) .nil))))))))) .nil)) rfl rfl) ?_
  refine fa ?_
  exact rt h rfl
theorem W170 (F : Nat) (a1 : Int) (r : Bool) (h : M170 F a1 = some r) : Pure Tryz.prog 170 [(iV a1)] (bV r) := by
  refine pin (fun r => (bV r)) r rfl Tryz.func170 rfl rfl rfl rfl rfl (fun w0 m0 hg => ?_)
  unfold M170 at h
  refine rn 11 rfl ?_
  exact rt h rfl
theorem W119 (F : Nat) (a1 : Int) (a2 : Int) (r : Int) (h : M119 F a1 a2 = some r) : Pure Tryz.prog 119 [(iV a1), (iV a2)] (iV r) := by
  refine pin (fun r => (iV r)) r rfl Tryz.func119 rfl rfl rfl rfl rfl (fun w0 m0 hg => ?_)
  unfold M119 at h
  refine rn 7 rfl ?_
  refine cl h rfl rfl rfl (W170 _ _) rfl (fun y3 hx4 h => ?_)
  refine rn 5 rfl ?_
  refine cl h rfl rfl rfl (W170 _ _) rfl (fun y5 hx6 h => ?_)
  refine rn 7 rfl ?_
  refine spC h rfl (fun hb7 h => ?_) (fun hb7 h => ?_)
  · refine rn 5 rfl ?_
    refine spC h rfl (fun hb8 h => ?_) (fun hb8 h => ?_)
    · refine rn 4 rfl ?_
      exact rt h rfl
    refine rn 5 rfl ?_
    exact rt h rfl
  refine rn 6 rfl ?_
  refine spC h rfl (fun hb9 h => ?_) (fun hb9 h => ?_)
  · refine rn 4 rfl ?_
    exact rt h rfl
  refine rn 8 rfl ?_
  refine spC h rfl (fun hb10 h => ?_) (fun hb10 h => ?_)
  · refine rn 4 rfl ?_
    exact rt h rfl
  refine rn 8 rfl ?_
  refine spC h rfl (fun hb11 h => ?_) (fun hb11 h => ?_)
  · refine rn 4 rfl ?_
    exact rt h rfl
  refine rn 5 rfl ?_
  exact rt h rfl
theorem W118 (F : Nat) (a1 : (List Int)) (r : Int) (h : M118 F a1 = some r) : Pure Tryz.prog 118 [(V.lst 1 (a1.map encI_i64))] (iV r) := by
  refine pin (fun r => (iV r)) r rfl Tryz.func118 rfl rfl rfl rfl rfl (fun w0 m0 hg => ?_)
  unfold M118 at h
  refine rn 12 rfl ?_
  refine ln rfl rfl ?_
  refine rn 2 rfl ?_
  refine jK h (fun _ : Unit => (⟨[(3, (iV 0))], [], 0⟩ : St)) (fun k2 (_ : Unit) => k2 = some r) (fun k2 h => ?_) ?_
  · refine rn 1 rfl ?_
    refine wl (A := a1) 0 rfl (fun hA9 => ?_)
    refine lC (fun (p : Int) => (⟨[(3, (iV 0)), (6, (V.lst 1 (a1.map encI_i64))), (7, (iV ((a1.length : Nat) : Int))), (8, (iV p))], [], 0⟩ : St)) (fun n (p : Int) => RG a1 (fun tl nn => M118_L1 F k2 tl = some r) n p) (fun p h => RG.zero h) (a1.length + 1) 0 (RG.start h) (g0 rfl rfl) (fun n n4 h => ?_)
    refine rn 5 rfl ?_
    refine spL rfl (fun hb5 => ?_) (fun hb5 => ?_)
    · obtain ⟨x6, tl, hx7, h, hk1⟩ := RG.t hA9 h hb5
      unfold M118_L1 at h
      refine rn 5 rfl ?_
      refine ixh hx7 rfl rfl ?_
      refine rn 9 rfl ?_
      refine spC h rfl (fun hb8 h => ?_) (fun hb8 h => ?_)
      · refine rn 5 rfl ?_
        exact rt h rfl
      refine rn 6 rfl ?_
      exact jX (w64 (n4 + 1)) (hk1 _ h) (g0 rfl rfl)
    replace h := RG.f h hb5
    unfold M118_L1 at h
    refine rn 1 rfl ?_
    exact jX () h (g0 rfl rfl)
  intro _ h
  refine rn 5 rfl ?_
  exact rt h rfl
theorem W42 (F : Nat) (a1 : TSite) (a2 : TSite) (r : Int) (h : M42 F a1 a2 = some r) : Pure Tryz.prog 42 [(V.agg (encTSite a1)), (V.agg (encTSite a2))] (iV r) := by
  refine pin (fun r => (iV r)) r rfl Tryz.func42 rfl rfl rfl rfl rfl (fun w0 m0 hg => ?_)
  unfold M42 at h
  obtain ⟨y3, hx4, h⟩ := bind_some h
  obtain ⟨y5, hx6, h⟩ := bind_some h
  obtain ⟨y7, hx8, h⟩ := bind_some h
  refine rn 7 rfl ?_
  refine dr mixed (vs 4 rfl (cD rfl rfl rfl rfl (W100 _ _ _ _ hx4) rfl (vs 4 rfl (cD rfl rfl rfl rfl (W119 _ _ _ _ hx6) rfl (xD (OD.mk [(9, (iV y3)), (14, (iV y5))] [] [(15, (V.lst 1 (([y3, y5] : List Int).map encI_i64)))] []) ⟨⟨rfl, rfl, trivial⟩, trivial⟩ (by exact fun S hn h hh => aops_buildSlice_imm [(0, (iV y3)), (1, (iV y5))] [[(iV y3)], [(iV y5)]] tEl165 tZ3 wants_none rfl rfl rfl rfl (evp_cons h.1 (evp_cons h.2.1 evp_nil)) rfl rfl (by simp) (imms_rows (.cons (.cons (Imm.con _) .nil) (.cons (.cons (Imm.con _) .nil) .nil))) rfl (aops_nil ⟨rfl, rfl⟩)) rfl (cD rfl rfl rfl rfl (W118 _ _ _ hx8) rfl (vs 1 rfl .nil))))))) (by kernel_rfl) ?_
  exact rt h rfl
theorem W49 (F : Nat) (a1 : (List (List UInt8))) (r : (List (List UInt8))) (h : M49 F a1 = some r) : Pure Tryz.prog 49 [(V.lst 1 (a1.map encS))] (V.lst 1 (r.map encS)) := by
  refine pin (fun r => (V.lst 1 (r.map encS))) r rfl Tryz.func49 rfl rfl rfl rfl rfl (fun w0 m0 hg => ?_)
  unfold M49 at h
  refine rn 8 rfl ?_
  refine aops_isNil (n := a1.length) false tIsSl25 wants_none rfl rfl (congrArg some (List.length_map ..)) rfl (fun b2 hn3 => ?_)
  replace h := nilq_elim h hn3
  refine fo (rn 1 rfl ?_)
  refine spC h rfl (fun hb4 h => ?_) (fun hb4 h => ?_)
  · refine rn 4 rfl ?_
    exact rt h rfl
  refine rn 3 rfl ?_
  refine aops_emptySlice tEl25 wants_none rfl ?_
  refine fo (rn 1 rfl ?_)
  refine apL encS h rfl rfl rfl (by simp) rfl (fun h => ?_)
  refine rn 2 rfl ?_
  refine awp_ghost (ghost_frzEs 1 [2, 7] rfl (rows_imm imms_encS) (List.forall_mem_cons.2 ⟨rfl, (List.forall_mem_cons.2 ⟨rfl, (fun _ hx => nomatch hx)⟩)⟩) (List.length_map ..).symm) ?_
  refine fa ?_
  exact rt h rfl
theorem W45 (F : Nat) (a1 : TIface) (r : TIface) (h : M45 F a1 = some r) : Pure Tryz.prog 45 [(V.agg (encTIface a1))] (V.agg (encTIface r)) := by
  refine pin (fun r => (V.agg (encTIface r))) r rfl Tryz.func45 rfl rfl rfl rfl rfl (fun w0 m0 hg => ?_)
  unfold M45 at h
  refine rn 9 rfl ?_
  refine cl h rfl rfl rfl (W49 _ _) rfl (fun y2 hx3 h => ?_)
  refine rn 8 rfl ?_
  exact rt h rfl
theorem W186 (F : Nat) (a1 : Int) (r : Int) (h : M186 F a1 = some r) : Pure Tryz.prog 186 [(V.con (.int .u64 a1))] (iV r) := by
  refine pin (fun r => (iV r)) r rfl Tryz.func186 rfl rfl rfl rfl rfl (fun w0 m0 hg => ?_)
  unfold M186 at h
  refine rn 10 rfl ?_
  refine jK h (fun (p : Int × Int) => (⟨[(0, (V.con (.int .u64 (p.1)))), (2, (iV (p.2)))], [], 0⟩ : St)) (fun k2 (p : Int × Int) => k2 p.1 p.2 = some r) (fun k2 h => ?_) ?_
  · refine spC h rfl (fun hb5 h => ?_) (fun hb5 h => ?_)
    · refine rn 9 rfl ?_
      exact jX ((Int.fdiv a1 (2 ^ (min (Int.toNat 32) (IntKind.bits .u64)))), 32) h (g0 rfl rfl)
    refine rn 1 rfl ?_
    exact jX (a1, 0) h (g0 rfl rfl)
  rintro ⟨n3, n4⟩ h
  refine rn 6 rfl ?_
  refine jK h (fun (p : Int × Int) => (⟨[(0, (V.con (.int .u64 (p.1)))), (2, (iV (p.2)))], [], 0⟩ : St)) (fun k6 (p : Int × Int) => k6 p.1 p.2 = some r) (fun k6 h => ?_) ?_
  · refine spC h rfl (fun hb9 h => ?_) (fun hb9 h => ?_)
    · refine rn 11 rfl ?_
      exact jX ((Int.fdiv n3 (2 ^ (min (Int.toNat 16) (IntKind.bits .u64)))), (w64 (n4 + 16))) h (g0 rfl rfl)
    refine rn 1 rfl ?_
    exact jX (n3, n4) h (g0 rfl rfl)
  rintro ⟨n7, n8⟩ h
  refine rn 6 rfl ?_
  refine jK h (fun (p : Int × Int) => (⟨[(0, (V.con (.int .u64 (p.1)))), (2, (iV (p.2)))], [], 0⟩ : St)) (fun k10 (p : Int × Int) => k10 p.1 p.2 = some r) (fun k10 h => ?_) ?_
  · refine spC h rfl (fun hb13 h => ?_) (fun hb13 h => ?_)
    · refine rn 11 rfl ?_
      exact jX ((Int.fdiv n7 (2 ^ (min (Int.toNat 8) (IntKind.bits .u64)))), (w64 (n8 + 8))) h (g0 rfl rfl)
    refine rn 1 rfl ?_
    exact jX (n7, n8) h (g0 rfl rfl)
  rintro ⟨n11, n12⟩ h
  refine rn 5 rfl ?_
  refine ixs h rfl rfl (fun c14 hx15 h => ?_)
  refine rn 4 rfl ?_
  exact rt h rfl
theorem W135 (F : Nat) (a1 : Int) (r : Int) (h : M135 F a1 = some r) : Pure Tryz.prog 135 [(V.con (.int .u64 a1))] (iV r) := by
  refine pin (fun r => (iV r)) r rfl Tryz.func135 rfl rfl rfl rfl rfl (fun w0 m0 hg => ?_)
  unfold M135 at h
  refine rn 10 rfl ?_
  refine cl h rfl rfl rfl (W186 _ _) rfl (fun y2 hx3 h => ?_)
  refine rn 2 rfl ?_
  exact rt h rfl
theorem W44 (F : Nat) (a1 : TIface) (r : (List UInt8)) (h : M44 F a1 = some r) : Pure Tryz.prog 44 [(V.agg (encTIface a1))] (sV r) := by
  refine pin (fun r => (sV r)) r rfl Tryz.func44 rfl rfl rfl rfl rfl (fun w0 m0 hg => ?_)
  unfold M44 at h
  refine rn 11 rfl ?_
  exact rt h rfl
theorem W121 (F : Nat) (a1 : TIface) (a2 : TIface) (r : Int) (h : M121 F a1 a2 = some r) : Pure Tryz.prog 121 [(V.agg (encTIface a1)), (V.agg (encTIface a2)), (V.iptr [(V.fn (.func 44) [] [])] 0)] (iV r) := by
  refine pin (fun r => (iV r)) r rfl Tryz.func121 rfl rfl rfl rfl rfl (fun w0 m0 hg => ?_)
  unfold M121 at h
  obtain ⟨y3, hx4, h⟩ := bind_some h
  obtain ⟨y5, hx6, h⟩ := bind_some h
  obtain ⟨y7, hx8, h⟩ := bind_some h
  refine rn 7 rfl ?_
  refine dr mixed (vs 2 rfl (cD rfl rfl rfl rfl (W44 _ _ _ hx4) rfl (vs 2 rfl (cD rfl rfl rfl rfl (W44 _ _ _ hx6) rfl (cD rfl rfl rfl rfl (W100 _ _ _ _ hx8) rfl (vs 1 rfl .nil)))))) (by kernel_rfl) ?_
  exact rt h rfl
theorem W209 (F : Nat) (a1 : Int) (a2 : Int) (a3 : List TIface) (r : (List TIface)) (h : M209 F a1 a2 a3 = some r) : Mut Tryz.prog 209 [(V.own 0 a3.length), (iV a1), (iV a2), (V.fn (.func 121) [] [(V.iptr [(V.fn (.func 44) [] [])] 0)])] 1 [(0, (Ob.arr 98 2 (a3.map encTIface)))] (resV []) 1 [(0, (Ob.arr 98 2 (r.map encTIface)))] := by
  refine mut_enter Tryz.func209 rfl rfl (l := []) rfl rfl [(0, (V.own 0 a3.length)), (1, (iV a1)), (2, (iV a2)), (3, (V.fn (.func 121) [] [(V.iptr [(V.fn (.func 44) [] [])] 0)]))] rfl (fun w0 m0 β0 hg => en ?_)
  unfold M209 at h
  refine rn 7 rfl ?_
  refine lC (fun (p : Int × (List TIface)) => (⟨[(0, (V.own 0 (p.2).length)), (1, (iV a1)), (2, (iV a2)), (3, (V.fn (.func 121) [] [(V.iptr [(V.fn (.func 44) [] [])] 0)])), (8, (iV (p.1)))], [(0, (Ob.arr 98 2 ((p.2).map encTIface)))], 1⟩ : St)) (fun n (p : Int × (List TIface)) => M209_L1 F a1 a2 n p.1 p.2 = some r) (fun p h => by simp [M209_L1] at h) F ((w64 (a1 + 1)), a3) h (gr [0] rfl (hR rfl rfl .nil) rfl) (fun n p h => ?_)
  obtain ⟨n36, l37⟩ := p
  unfold M209_L1 at h
  refine rn 7 rfl ?_
  refine spC h rfl (fun hb38 h => ?_) (fun hb38 h => ?_)
  · refine rn 2 rfl ?_
    refine jK h (fun (p : (List TIface)) => (⟨[(0, (V.own 0 p.length)), (1, (iV a1)), (2, (iV a2)), (3, (V.fn (.func 121) [] [(V.iptr [(V.fn (.func 44) [] [])] 0)])), (8, (iV n36))], [(0, (Ob.arr 98 2 (p.map encTIface)))], 1⟩ : St)) (fun k39 (p : (List TIface)) => k39 p = some r) (fun k39 h => ?_) ?_
    · refine rn 6 rfl ?_
      refine jK h (fun (p : (List TIface)) => (⟨[(0, (V.own 0 p.length)), (1, (iV a1)), (2, (iV a2)), (3, (V.fn (.func 121) [] [(V.iptr [(V.fn (.func 44) [] [])] 0)])), (8, (iV n36))], [(0, (Ob.arr 98 2 (p.map encTIface)))], 1⟩ : St)) (fun k41 (p : (List TIface)) => k41 p = some r) (fun k41 h => ?_) ?_
      · refine rn 1 rfl ?_
        refine lC (fun (p : Int × (List TIface)) => (⟨[(0, (V.own 0 (p.2).length)), (1, (iV a1)), (2, (iV a2)), (3, (V.fn (.func 121) [] [(V.iptr [(V.fn (.func 44) [] [])] 0)])), (8, (iV n36)), (9, (iV (p.1)))], [(0, (Ob.arr 98 2 ((p.2).map encTIface)))], 1⟩ : St)) (fun n (p : Int × (List TIface)) => M209_L2 F a1 k41 n p.1 p.2 = some r) (fun p h => by simp [M209_L2] at h) F (n36, l37) h (gr [0] rfl (hR rfl rfl .nil) rfl) (fun n p h => ?_)
        obtain ⟨n45, l46⟩ := p
        unfold M209_L2 at h
        refine rn 2 rfl ?_
        refine bs h (fun hb47 h => ?_) (fun hb47 h => ?_)
        · obtain ⟨x48, hx49, h⟩ := bind_some h
          obtain ⟨x50, hx51, h⟩ := bind_some h
          obtain ⟨y52, hx53, h⟩ := bind_some h
          refine dr mixed (vs 3 rfl (vb hb47 rfl (vs 3 rfl (oD (a := l46) hx49 rfl rfl rfl rfl (lD hx49 rfl rfl rfl rfl rfl (vs 3 rfl (oD (a := l46) hx51 rfl rfl rfl rfl (lD hx51 rfl rfl rfl rfl rfl (cD rfl rfl rfl rfl (W121 _ _ _ _ hx53) rfl (vs 2 rfl .nil)))))))))) (by kernel_rfl) ?_
          refine spC h rfl (fun hb54 h => ?_) (fun hb54 h => ?_)
          · obtain ⟨x55, hx56, h⟩ := bind_some h
            obtain ⟨x57, hx58, h⟩ := bind_some h
            obtain ⟨x59, hx60, h⟩ := bind_some h
            obtain ⟨x61, hx62, h⟩ := bind_some h
            refine rn 3 rfl ?_
            refine dr mixed (vs 8 rfl (oD (a := l46) hx56 rfl rfl rfl rfl (lD hx56 rfl rfl rfl rfl rfl (vs 2 rfl (oD (a := l46) hx58 rfl rfl rfl rfl (lD hx58 rfl rfl rfl rfl rfl (oD (a := l46) hx60 rfl rfl rfl rfl (xD (OD.mk [(51, (V.ptr 0 2 n45.toNat 0)), (46, (V.agg (encTIface x55)))] [(0, (Ob.arr 98 2 (l46.map encTIface)))] [] [(0, (Ob.arr 98 2 ((l46.set n45.toNat x55).map encTIface)))]) ⟨⟨rfl, rfl, trivial⟩, ⟨rfl, trivial⟩⟩ (by exact fun S hn h hh => aops_store (encTIface x55) ((l46.set n45.toNat x55).map encTIface) tS98 wants_none h.1 h.2.1 rfl rfl hh.1 (idx_map encTIface hx60) rfl (map_set encTIface l46 _ x55) (aops_nil ⟨rfl, rfl⟩)) rfl (xD (OD.mk [(39, (V.own 0 l46.length)), (41, (iV (w64 (n45 - 1))))] [] [(52, (V.ptr 0 2 (w64 (n45 - 1)).toNat 0))] []) ⟨⟨rfl, rfl, trivial⟩, trivial⟩ (by exact fun S hn h hh => aops_index_own tSl22 wants_none h.1 h.2.1 (idx_some hx62).1 (by simpa using idx_lt hx62) rfl (aops_nil ⟨rfl, rfl⟩)) rfl (xD (OD.mk [(52, (V.ptr 0 2 (w64 (n45 - 1)).toNat 0)), (50, (V.agg (encTIface x57)))] [(0, (Ob.arr 98 2 ((l46.set n45.toNat x55).map encTIface)))] [] [(0, (Ob.arr 98 2 (((l46.set n45.toNat x55).set (w64 (n45 - 1)).toNat x57).map encTIface)))]) ⟨⟨rfl, rfl, trivial⟩, ⟨rfl, trivial⟩⟩ (by exact fun S hn h hh => aops_store (encTIface x57) (((l46.set n45.toNat x55).set (w64 (n45 - 1)).toNat x57).map encTIface) tS98 wants_none h.1 h.2.1 rfl rfl hh.1 (idx_map encTIface hx62) rfl (map_set encTIface (l46.set n45.toNat x55) _ x57) (aops_nil ⟨rfl, rfl⟩)) rfl .nil)))))))))) (by kernel_rfl) ?_
            refine rn 6 rfl ?_
            exact jX ((w64 (n45 - 1)), ((l46.set n45.toNat x55).set (w64 (n45 - 1)).toNat x57)) h (ghost_ren 1 (fun i => ([0] : List Nat).getD i 0) _ _ (by decide) (EnvSub.get (.cons (Sub.ownE rfl rfl (by simp)) (.cons (Sub.imm (Imm.con _)) (.cons (Sub.imm (Imm.con _)) (.cons (Sub.imm (Imm.fn .nil (.cons (Imm.iptr _ _) .nil))) (.cons (Sub.imm (Imm.con _)) (.cons (Sub.imm (Imm.con _)) .nil))))))) (HpSub.get (.cons rfl (ObSub.rows (rows_imm imms_encTIface)) .nil)) rfl)
          refine rn 1 rfl ?_
          exact jX l46 h (gr [0] rfl (hR rfl rfl .nil) rfl)
        refine dr mixed (vs 3 rfl (vb hb47 rfl (vs 13 rfl .nil))) (by kernel_rfl) ?_
        refine rn 2 rfl ?_
        exact jX l46 h (gr [0] rfl (hR rfl rfl .nil) rfl)
      intro l42 h
      refine rn 1 rfl ?_
      exact jX l42 h (gr [0] rfl (hR rfl rfl .nil) rfl)
    intro l40 h
    refine rn 5 rfl ?_
    exact jX ((w64 (n36 + 1)), l40) h (gr [0] rfl (hR rfl rfl .nil) rfl)
  refine rn 1 rfl ?_
  replace h := Option.some.inj h
  subst h
  exact wE ⟨.inr rfl, [], (gr [0] rfl (hR rfl rfl .nil) rfl), .nil⟩
theorem W259 (F : Nat) (a1 : Int) (a2 : Int) (a3 : Int) (a4 : List TIface) (r : (List TIface)) (h : M259 F a1 a2 a3 a4 = some r) : Mut Tryz.prog 259 [(V.own 0 a4.length), (iV a1), (iV a2), (iV a3), (V.fn (.func 121) [] [(V.iptr [(V.fn (.func 44) [] [])] 0)])] 1 [(0, (Ob.arr 98 2 (a4.map encTIface)))] (resV []) 1 [(0, (Ob.arr 98 2 (r.map encTIface)))] := by
  refine mut_enter Tryz.func259 rfl rfl (l := []) rfl rfl [(0, (V.own 0 a4.length)), (1, (iV a1)), (2, (iV a2)), (3, (iV a3)), (4, (V.fn (.func 121) [] [(V.iptr [(V.fn (.func 44) [] [])] 0)]))] rfl (fun w0 m0 β0 hg => en ?_)
  unfold M259 at h
  refine rn 6 rfl ?_
  refine lC (fun (p : Int × (List TIface)) => (⟨[(0, (V.own 0 (p.2).length)), (2, (iV a2)), (3, (iV a3)), (4, (V.fn (.func 121) [] [(V.iptr [(V.fn (.func 44) [] [])] 0)])), (10, (iV (p.1)))], [(0, (Ob.arr 98 2 ((p.2).map encTIface)))], 1⟩ : St)) (fun n (p : Int × (List TIface)) => M259_L1 F a2 a3 n p.1 p.2 = some r) (fun p h => by simp [M259_L1] at h) F (a1, a4) h (gr [0] rfl (hR rfl rfl .nil) rfl) (fun n p h => ?_)
  obtain ⟨n53, l54⟩ := p
  unfold M259_L1 at h
  refine rn 15 rfl ?_
  refine spC h rfl (fun hb55 h => ?_) (fun hb55 h => ?_)
  · refine rn 1 rfl ?_
    replace h := Option.some.inj h
    subst h
    exact wE ⟨.inr rfl, [], (gr [0] rfl (hR rfl rfl .nil) rfl), .nil⟩
  refine rn 3 rfl ?_
  refine bs h (fun hb56 h => ?_) (fun hb56 h => ?_)
  · obtain ⟨x57, hx58, h⟩ := bind_some h
    obtain ⟨x59, hx60, h⟩ := bind_some h
    obtain ⟨y61, hx62, h⟩ := bind_some h
    refine dr mixed (vs 4 rfl (vb hb56 rfl (vs 5 rfl (oD (a := l54) hx58 rfl rfl rfl rfl (lD hx58 rfl rfl rfl rfl rfl (vs 5 rfl (oD (a := l54) hx60 rfl rfl rfl rfl (lD hx60 rfl rfl rfl rfl rfl (cD rfl rfl rfl rfl (W121 _ _ _ _ hx62) rfl (vs 2 rfl .nil)))))))))) (by kernel_rfl) ?_
    refine jK h (fun (p : Int) => (⟨[(0, (V.own 0 l54.length)), (2, (iV a2)), (3, (iV a3)), (4, (V.fn (.func 121) [] [(V.iptr [(V.fn (.func 44) [] [])] 0)])), (10, (iV n53)), (11, (iV p)), (24, (V.fn (.func 121) [] [(V.iptr [(V.fn (.func 44) [] [])] 0)])), (25, (V.own 0 l54.length)), (26, (iV a3)), (27, (iV (w64 ((w64 (2 * n53)) + 1)))), (28, (iV (w64 (a3 + (w64 ((w64 (2 * n53)) + 1)))))), (29, (V.ptr 0 2 (w64 (a3 + (w64 ((w64 (2 * n53)) + 1)))).toNat 0)), (30, (V.agg (encTIface x57))), (31, (V.own 0 l54.length)), (32, (iV a3)), (33, (iV (w64 ((w64 (2 * n53)) + 1)))), (34, (iV (w64 (a3 + (w64 ((w64 (2 * n53)) + 1)))))), (35, (iV (w64 ((w64 (a3 + (w64 ((w64 (2 * n53)) + 1)))) + 1)))), (36, (V.ptr 0 2 (w64 ((w64 (a3 + (w64 ((w64 (2 * n53)) + 1)))) + 1)).toNat 0)), (37, (V.agg (encTIface x59))), (38, (iV y61)), (39, (bV (decide (y61 < 0))))], [(0, (Ob.arr 98 2 (l54.map encTIface)))], 1⟩ : St)) (fun k63 (p : Int) => k63 p = some r) (fun k63 h => ?_) ?_
    · refine spC h rfl (fun hb65 h => ?_) (fun hb65 h => ?_)
      · refine rn 5 rfl ?_
        exact jX (w64 ((w64 ((w64 (2 * n53)) + 1)) + 1)) h (gr [0] rfl (hR rfl rfl .nil) rfl)
      refine rn 1 rfl ?_
      exact jX (w64 ((w64 (2 * n53)) + 1)) h (gr [0] rfl (hR rfl rfl .nil) rfl)
    intro n64 h
    obtain ⟨x66, hx67, h⟩ := bind_some h
    obtain ⟨x68, hx69, h⟩ := bind_some h
    obtain ⟨y70, hx71, h⟩ := bind_some h
    refine rn 2 rfl ?_
    refine dr mixed (vs 5 rfl (oD (a := l54) hx67 rfl rfl rfl rfl (lD hx67 rfl rfl rfl rfl rfl (vs 4 rfl (oD (a := l54) hx69 rfl rfl rfl rfl (lD hx69 rfl rfl rfl rfl rfl (cD rfl rfl rfl rfl (W121 _ _ _ _ hx71) rfl (vs 2 rfl .nil)))))))) (by kernel_rfl) ?_
    refine spC h rfl (fun hb72 h => ?_) (fun hb72 h => ?_)
    · replace h := Option.some.inj h
      subst h
      exact wR ⟨.inl rfl, [], (gr [0] rfl (hR rfl rfl .nil) rfl), .nil⟩
    obtain ⟨x73, hx74, h⟩ := bind_some h
    obtain ⟨x75, hx76, h⟩ := bind_some h
    obtain ⟨x77, hx78, h⟩ := bind_some h
    obtain ⟨x79, hx80, h⟩ := bind_some h
    refine rn 2 rfl ?_
    refine dr mixed (vs 12 rfl (oD (a := l54) hx74 rfl rfl rfl rfl (lD hx74 rfl rfl rfl rfl rfl (vs 4 rfl (oD (a := l54) hx76 rfl rfl rfl rfl (lD hx76 rfl rfl rfl rfl rfl (oD (a := l54) hx78 rfl rfl rfl rfl (xD (OD.mk [(79, (V.ptr 0 2 (w64 (a3 + n53)).toNat 0)), (72, (V.agg (encTIface x73)))] [(0, (Ob.arr 98 2 (l54.map encTIface)))] [] [(0, (Ob.arr 98 2 ((l54.set (w64 (a3 + n53)).toNat x73).map encTIface)))]) ⟨⟨rfl, rfl, trivial⟩, ⟨rfl, trivial⟩⟩ (by exact fun S hn h hh => aops_store (encTIface x73) ((l54.set (w64 (a3 + n53)).toNat x73).map encTIface) tS98 wants_none h.1 h.2.1 rfl rfl hh.1 (idx_map encTIface hx78) rfl (map_set encTIface l54 _ x73) (aops_nil ⟨rfl, rfl⟩)) rfl (xD (OD.mk [(63, (V.own 0 l54.length)), (66, (iV (w64 (a3 + n64))))] [] [(80, (V.ptr 0 2 (w64 (a3 + n64)).toNat 0))] []) ⟨⟨rfl, rfl, trivial⟩, trivial⟩ (by exact fun S hn h hh => aops_index_own tSl22 wants_none h.1 h.2.1 (idx_some hx80).1 (by simpa using idx_lt hx80) rfl (aops_nil ⟨rfl, rfl⟩)) rfl (xD (OD.mk [(80, (V.ptr 0 2 (w64 (a3 + n64)).toNat 0)), (78, (V.agg (encTIface x75)))] [(0, (Ob.arr 98 2 ((l54.set (w64 (a3 + n53)).toNat x73).map encTIface)))] [] [(0, (Ob.arr 98 2 (((l54.set (w64 (a3 + n53)).toNat x73).set (w64 (a3 + n64)).toNat x75).map encTIface)))]) ⟨⟨rfl, rfl, trivial⟩, ⟨rfl, trivial⟩⟩ (by exact fun S hn h hh => aops_store (encTIface x75) (((l54.set (w64 (a3 + n53)).toNat x73).set (w64 (a3 + n64)).toNat x75).map encTIface) tS98 wants_none h.1 h.2.1 rfl rfl hh.1 (idx_map encTIface hx80) rfl (map_set encTIface (l54.set (w64 (a3 + n53)).toNat x73) _ x75) (aops_nil ⟨rfl, rfl⟩)) rfl .nil)))))))))) (by kernel_rfl) ?_
    refine rn 5 rfl ?_
    exact jX (n64, ((l54.set (w64 (a3 + n53)).toNat x73).set (w64 (a3 + n64)).toNat x75)) h (ghost_ren 1 (fun i => ([0] : List Nat).getD i 0) _ _ (by decide) (EnvSub.get (.cons (Sub.ownE rfl rfl (by simp)) (.cons (Sub.imm (Imm.con _)) (.cons (Sub.imm (Imm.con _)) (.cons (Sub.imm (Imm.fn .nil (.cons (Imm.iptr _ _) .nil))) (.cons (Sub.imm (Imm.con _)) .nil)))))) (HpSub.get (.cons rfl (ObSub.rows (rows_imm imms_encTIface)) .nil)) rfl)
  refine dr mixed (vs 4 rfl (vb hb56 rfl (vs 17 rfl .nil))) (by kernel_rfl) ?_
  obtain ⟨x81, hx82, h⟩ := bind_some h
  obtain ⟨x83, hx84, h⟩ := bind_some h
  obtain ⟨y85, hx86, h⟩ := bind_some h
  refine rn 4 rfl ?_
  refine dr mixed (vs 5 rfl (oD (a := l54) hx82 rfl rfl rfl rfl (lD hx82 rfl rfl rfl rfl rfl (vs 4 rfl (oD (a := l54) hx84 rfl rfl rfl rfl (lD hx84 rfl rfl rfl rfl rfl (cD rfl rfl rfl rfl (W121 _ _ _ _ hx86) rfl (vs 2 rfl .nil)))))))) (by kernel_rfl) ?_
  refine spC h rfl (fun hb87 h => ?_) (fun hb87 h => ?_)
  · replace h := Option.some.inj h
    subst h
    exact wR ⟨.inl rfl, [], (gr [0] rfl (hR rfl rfl .nil) rfl), .nil⟩
  obtain ⟨x88, hx89, h⟩ := bind_some h
  obtain ⟨x90, hx91, h⟩ := bind_some h
  obtain ⟨x92, hx93, h⟩ := bind_some h
  obtain ⟨x94, hx95, h⟩ := bind_some h
  refine rn 2 rfl ?_
  refine dr mixed (vs 12 rfl (oD (a := l54) hx89 rfl rfl rfl rfl (lD hx89 rfl rfl rfl rfl rfl (vs 4 rfl (oD (a := l54) hx91 rfl rfl rfl rfl (lD hx91 rfl rfl rfl rfl rfl (oD (a := l54) hx93 rfl rfl rfl rfl (xD (OD.mk [(79, (V.ptr 0 2 (w64 (a3 + n53)).toNat 0)), (72, (V.agg (encTIface x88)))] [(0, (Ob.arr 98 2 (l54.map encTIface)))] [] [(0, (Ob.arr 98 2 ((l54.set (w64 (a3 + n53)).toNat x88).map encTIface)))]) ⟨⟨rfl, rfl, trivial⟩, ⟨rfl, trivial⟩⟩ (by exact fun S hn h hh => aops_store (encTIface x88) ((l54.set (w64 (a3 + n53)).toNat x88).map encTIface) tS98 wants_none h.1 h.2.1 rfl rfl hh.1 (idx_map encTIface hx93) rfl (map_set encTIface l54 _ x88) (aops_nil ⟨rfl, rfl⟩)) rfl (xD (OD.mk [(63, (V.own 0 l54.length)), (66, (iV (w64 (a3 + (w64 ((w64 (2 * n53)) + 1))))))] [] [(80, (V.ptr 0 2 (w64 (a3 + (w64 ((w64 (2 * n53)) + 1)))).toNat 0))] []) ⟨⟨rfl, rfl, trivial⟩, trivial⟩ (by exact fun S hn h hh => aops_index_own tSl22 wants_none h.1 h.2.1 (idx_some hx95).1 (by simpa using idx_lt hx95) rfl (aops_nil ⟨rfl, rfl⟩)) rfl (xD (OD.mk [(80, (V.ptr 0 2 (w64 (a3 + (w64 ((w64 (2 * n53)) + 1)))).toNat 0)), (78, (V.agg (encTIface x90)))] [(0, (Ob.arr 98 2 ((l54.set (w64 (a3 + n53)).toNat x88).map encTIface)))] [] [(0, (Ob.arr 98 2 (((l54.set (w64 (a3 + n53)).toNat x88).set (w64 (a3 + (w64 ((w64 (2 * n53)) + 1)))).toNat x90).map encTIface)))]) ⟨⟨rfl, rfl, trivial⟩, ⟨rfl, trivial⟩⟩ (by exact fun S hn h hh => aops_store (encTIface x90) (((l54.set (w64 (a3 + n53)).toNat x88).set (w64 (a3 + (w64 ((w64 (2 * n53)) + 1)))).toNat x90).map encTIface) tS98 wants_none h.1 h.2.1 rfl rfl hh.1 (idx_map encTIface hx95) rfl (map_set encTIface (l54.set (w64 (a3 + n53)).toNat x88) _ x90) (aops_nil ⟨rfl, rfl⟩)) rfl .nil)))))))))) (by kernel_rfl) ?_
  refine rn 5 rfl ?_
  exact jX ((w64 ((w64 (2 * n53)) + 1)), ((l54.set (w64 (a3 + n53)).toNat x88).set (w64 (a3 + (w64 ((w64 (2 * n53)) + 1)))).toNat x90)) h (ghost_ren 1 (fun i => ([0] : List Nat).getD i 0) _ _ (by decide) (EnvSub.get (.cons (Sub.ownE rfl rfl (by simp)) (.cons (Sub.imm (Imm.con _)) (.cons (Sub.imm (Imm.con _)) (.cons (Sub.imm (Imm.fn .nil (.cons (Imm.iptr _ _) .nil))) (.cons (Sub.imm (Imm.con _)) .nil)))))) (HpSub.get (.cons rfl (ObSub.rows (rows_imm imms_encTIface)) .nil)) rfl)
theorem W210 (F : Nat) (a1 : Int) (a2 : Int) (a3 : List TIface) (r : (List TIface)) (h : M210 F a1 a2 a3 = some r) : Mut Tryz.prog 210 [(V.own 0 a3.length), (iV a1), (iV a2), (V.fn (.func 121) [] [(V.iptr [(V.fn (.func 44) [] [])] 0)])] 1 [(0, (Ob.arr 98 2 (a3.map encTIface)))] (resV []) 1 [(0, (Ob.arr 98 2 (r.map encTIface)))] := by
  refine mut_enter Tryz.func210 rfl rfl (l := []) rfl rfl [(0, (V.own 0 a3.length)), (1, (iV a1)), (2, (iV a2)), (3, (V.fn (.func 121) [] [(V.iptr [(V.fn (.func 44) [] [])] 0)]))] rfl (fun w0 m0 β0 hg => en ?_)
  unfold M210 at h
  refine rn 24 rfl ?_
  refine jK h (fun (p : (List TIface)) => (⟨[(0, (V.own 0 p.length)), (3, (V.fn (.func 121) [] [(V.iptr [(V.fn (.func 44) [] [])] 0)])), (8, (iV a1)), (9, (iV 0)), (10, (iV (w64 (a2 - a1))))], [(0, (Ob.arr 98 2 (p.map encTIface)))], 1⟩ : St)) (fun k31 (p : (List TIface)) => k31 p = some r) (fun k31 h => ?_) ?_
  · refine rn 1 rfl ?_
    refine lC (fun (p : Int × (List TIface)) => (⟨[(0, (V.own 0 (p.2).length)), (3, (V.fn (.func 121) [] [(V.iptr [(V.fn (.func 44) [] [])] 0)])), (8, (iV a1)), (9, (iV 0)), (10, (iV (w64 (a2 - a1)))), (11, (iV (p.1)))], [(0, (Ob.arr 98 2 ((p.2).map encTIface)))], 1⟩ : St)) (fun n (p : Int × (List TIface)) => M210_L1 F a1 a2 k31 n p.1 p.2 = some r) (fun p h => by simp [M210_L1] at h) F ((w64 (Int.tdiv (w64 ((w64 (a2 - a1)) - 1)) 2)), a3) h (gr [0] rfl (hR rfl rfl .nil) rfl) (fun n p h => ?_)
    obtain ⟨n35, l36⟩ := p
    unfold M210_L1 at h
    refine rn 6 rfl ?_
    refine spC h rfl (fun hb37 h => ?_) (fun hb37 h => ?_)
    · obtain ⟨y38, hx39, h⟩ := bind_some h
      refine rn 9 rfl ?_
      refine ck h (fun hc40 h => ?_)
      refine aops_mcallS (V.tup []) [(V.own 0 l36.length), (iV n35), (iV (w64 (a2 - a1))), (iV a1), (V.fn (.func 121) [] [(V.iptr [(V.fn (.func 44) [] [])] 0)])] (fun i => ([0] : List Nat).getD i 0) (fun i => ([0] : List Nat).getD i 0) 1 1 [(0, (Ob.arr 98 2 (y38.map encTIface)))] fOk259 wants_none rfl (evm_cons rfl (evm_cons rfl (evm_cons rfl (evm_cons rfl (evm_cons rfl evm_nil))))) (.cons (Sub.own rfl rfl) (.cons (Sub.imm (Imm.con _)) (.cons (Sub.imm (Imm.con _)) (.cons (Sub.imm (Imm.con _)) (.cons (Sub.imm (Imm.fn .nil (.cons (Imm.iptr _ _) .nil))) .nil))))) (.cons rfl (ObSub.rows (rows_imm imms_encTIface)) .nil) (W259 F n35 (w64 (a2 - a1)) a1 l36 y38 hx39) rfl rfl rfl rfl (Sub.immT (Imm.tup .nil)) (.cons rfl (ObSub.rowsT (rows_imm imms_encTIface)) .nil) _ rfl ?_
      refine aops_ghost (ghost_tell 0 (V.own 0 y38.length) rfl (Sub.ownI hc40)) ?_
      refine aops_ghost (ghost_tell 24 (V.own 0 y38.length) rfl (Sub.ownI hc40)) ?_
      refine fo (rn 7 rfl ?_)
      exact jX ((w64 (n35 - 1)), y38) h (gr [0] rfl (hR rfl rfl .nil) rfl)
    refine rn 1 rfl ?_
    exact jX l36 h (gr [0] rfl (hR rfl rfl .nil) rfl)
  intro l32 h
  refine rn 7 rfl ?_
  refine lC (fun (p : Int × (List TIface)) => (⟨[(0, (V.own 0 (p.2).length)), (3, (V.fn (.func 121) [] [(V.iptr [(V.fn (.func 44) [] [])] 0)])), (8, (iV a1)), (9, (iV 0)), (12, (iV (p.1)))], [(0, (Ob.arr 98 2 ((p.2).map encTIface)))], 1⟩ : St)) (fun n (p : Int × (List TIface)) => M210_L2 F a1 n p.1 p.2 = some r) (fun p h => by simp [M210_L2] at h) F ((w64 ((w64 (a2 - a1)) - 1)), l32) h (gr [0] rfl (hR rfl rfl .nil) rfl) (fun n p h => ?_)
  obtain ⟨n43, l44⟩ := p
  unfold M210_L2 at h
  refine rn 6 rfl ?_
  refine spC h rfl (fun hb45 h => ?_) (fun hb45 h => ?_)
  · obtain ⟨x46, hx47, h⟩ := bind_some h
    obtain ⟨x48, hx49, h⟩ := bind_some h
    obtain ⟨x50, hx51, h⟩ := bind_some h
    obtain ⟨x52, hx53, h⟩ := bind_some h
    refine rn 4 rfl ?_
    refine dr mixed (vs 10 rfl (oD (a := l44) hx47 rfl rfl rfl rfl (lD hx47 rfl rfl rfl rfl rfl (vs 2 rfl (oD (a := l44) hx49 rfl rfl rfl rfl (lD hx49 rfl rfl rfl rfl rfl (oD (a := l44) hx51 rfl rfl rfl rfl (xD (OD.mk [(52, (V.ptr 0 2 a1.toNat 0)), (47, (V.agg (encTIface x46)))] [(0, (Ob.arr 98 2 (l44.map encTIface)))] [] [(0, (Ob.arr 98 2 ((l44.set a1.toNat x46).map encTIface)))]) ⟨⟨rfl, rfl, trivial⟩, ⟨rfl, trivial⟩⟩ (by exact fun S hn h hh => aops_store (encTIface x46) ((l44.set a1.toNat x46).map encTIface) tS98 wants_none h.1 h.2.1 rfl rfl hh.1 (idx_map encTIface hx51) rfl (map_set encTIface l44 _ x46) (aops_nil ⟨rfl, rfl⟩)) rfl (xD (OD.mk [(38, (V.own 0 l44.length)), (41, (iV (w64 (a1 + n43))))] [] [(53, (V.ptr 0 2 (w64 (a1 + n43)).toNat 0))] []) ⟨⟨rfl, rfl, trivial⟩, trivial⟩ (by exact fun S hn h hh => aops_index_own tSl22 wants_none h.1 h.2.1 (idx_some hx53).1 (by simpa using idx_lt hx53) rfl (aops_nil ⟨rfl, rfl⟩)) rfl (xD (OD.mk [(53, (V.ptr 0 2 (w64 (a1 + n43)).toNat 0)), (51, (V.agg (encTIface x48)))] [(0, (Ob.arr 98 2 ((l44.set a1.toNat x46).map encTIface)))] [] [(0, (Ob.arr 98 2 (((l44.set a1.toNat x46).set (w64 (a1 + n43)).toNat x48).map encTIface)))]) ⟨⟨rfl, rfl, trivial⟩, ⟨rfl, trivial⟩⟩ (by exact fun S hn h hh => aops_store (encTIface x48) (((l44.set a1.toNat x46).set (w64 (a1 + n43)).toNat x48).map encTIface) tS98 wants_none h.1 h.2.1 rfl rfl hh.1 (idx_map encTIface hx53) rfl (map_set encTIface (l44.set a1.toNat x46) _ x48) (aops_nil ⟨rfl, rfl⟩)) rfl .nil)))))))))) (by kernel_rfl) ?_
    obtain ⟨y54, hx55, h⟩ := bind_some h
    refine rn 6 rfl ?_
    refine ck h (fun hc56 h => ?_)
    refine aops_mcallS (V.tup []) [(V.own 0 l44.length), (iV 0), (iV n43), (iV a1), (V.fn (.func 121) [] [(V.iptr [(V.fn (.func 44) [] [])] 0)])] (fun i => ([0] : List Nat).getD i 0) (fun i => ([0] : List Nat).getD i 0) 1 1 [(0, (Ob.arr 98 2 (y54.map encTIface)))] fOk259 wants_none rfl (evm_cons rfl (evm_cons rfl (evm_cons rfl (evm_cons rfl (evm_cons rfl evm_nil))))) (.cons (Sub.ownE rfl rfl (by simp)) (.cons (Sub.imm (Imm.con _)) (.cons (Sub.imm (Imm.con _)) (.cons (Sub.imm (Imm.con _)) (.cons (Sub.imm (Imm.fn .nil (.cons (Imm.iptr _ _) .nil))) .nil))))) (.cons rfl (ObSub.rows (rows_imm imms_encTIface)) .nil) (W259 F 0 n43 a1 ((l44.set a1.toNat x46).set (w64 (a1 + n43)).toNat x48) y54 hx55) rfl rfl rfl rfl (Sub.immT (Imm.tup .nil)) (.cons rfl (ObSub.rowsT (rows_imm imms_encTIface)) .nil) _ rfl ?_
    refine aops_ghost (ghost_tell 0 (V.own 0 y54.length) rfl (Sub.ownI hc56)) ?_
    refine aops_ghost (ghost_tell 36 (V.own 0 y54.length) rfl (Sub.ownI hc56)) ?_
    refine aops_ghost (ghost_tell 38 (V.own 0 y54.length) rfl (Sub.ownI hc56)) ?_
    refine aops_ghost (ghost_tell 42 (V.own 0 y54.length) rfl (Sub.ownI hc56)) ?_
    refine aops_ghost (ghost_tell 48 (V.own 0 y54.length) rfl (Sub.ownI hc56)) ?_
    refine aops_ghost (ghost_tell 54 (V.own 0 y54.length) rfl (Sub.ownI hc56)) ?_
    refine fo (rn 7 rfl ?_)
    exact jX ((w64 (n43 - 1)), y54) h (gr [0] rfl (hR rfl rfl .nil) rfl)
  refine rn 1 rfl ?_
  replace h := Option.some.inj h
  subst h
  exact wE ⟨.inr rfl, [], (gr [0] rfl (hR rfl rfl .nil) rfl), .nil⟩
theorem W276 (F : Nat) (a1 : Int) (a2 : Int) (a3 : List TIface) (a4 : Int) (r : (Int × Int × Int)) (h : M276 F a1 a2 a3 a4 = some r) : Mut Tryz.prog 276 [(V.own 0 a3.length), (iV a1), (iV a2), (V.ptr 1 1 0 0), (V.fn (.func 121) [] [(V.iptr [(V.fn (.func 44) [] [])] 0)])] 2 [(0, (Ob.arr 98 2 (a3.map encTIface))), (1, (Ob.arr 3 1 [[(iV a4)]]))] (resV [(iV (r.1)), (iV (r.2.1))]) 2 [(0, (Ob.arr 98 2 (a3.map encTIface))), (1, (Ob.arr 3 1 [[(iV (r.2.2))]]))] := by
  refine mut_enter Tryz.func276 rfl rfl (l := [.tmp 10, .tmp 11]) rfl rfl [(0, (V.own 0 a3.length)), (1, (iV a1)), (2, (iV a2)), (3, (V.ptr 1 1 0 0)), (4, (V.fn (.func 121) [] [(V.iptr [(V.fn (.func 44) [] [])] 0)]))] rfl (fun w0 m0 β0 hg => en ?_)
  unfold M276 at h
  obtain ⟨x15, hx16, h⟩ := bind_some h
  obtain ⟨x17, hx18, h⟩ := bind_some h
  obtain ⟨y19, hx20, h⟩ := bind_some h
  refine rn 7 rfl ?_
  refine dr mixed (vs 3 rfl (oD (a := a3) hx16 rfl rfl rfl rfl (lD hx16 rfl rfl rfl rfl rfl (vs 2 rfl (oD (a := a3) hx18 rfl rfl rfl rfl (lD hx18 rfl rfl rfl rfl rfl (cD rfl rfl rfl rfl (W121 _ _ _ _ hx20) rfl (vs 1 rfl .nil)))))))) (by kernel_rfl) ?_
  refine spC h rfl (fun hb21 h => ?_) (fun hb21 h => ?_)
  · refine rn 16 rfl ?_
    replace h := Option.some.inj h
    subst h
    exact wR ⟨.inl rfl, [(10, (iV a2)), (11, (iV a1))], (gr [0, 1] rfl (hR rfl rfl (hB rfl rfl rfl .nil)) rfl), (.cons (.tmp rfl) (.cons (.tmp rfl) .nil))⟩
  refine rn 8 rfl ?_
  replace h := Option.some.inj h
  subst h
  exact wR ⟨.inl rfl, [(10, (iV a1)), (11, (iV a2))], (gr [0, 1] rfl (hR rfl rfl (hB rfl rfl rfl .nil)) rfl), (.cons (.tmp rfl) (.cons (.tmp rfl) .nil))⟩
theorem W261 (F : Nat) (a1 : Int) (a2 : Int) (a3 : Int) (a4 : List TIface) (a5 : Int) (r : (Int × Int)) (h : M261 F a1 a2 a3 a4 a5 = some r) : Mut Tryz.prog 261 [(V.own 0 a4.length), (iV a1), (iV a2), (iV a3), (V.ptr 1 1 0 0), (V.fn (.func 121) [] [(V.iptr [(V.fn (.func 44) [] [])] 0)])] 2 [(0, (Ob.arr 98 2 (a4.map encTIface))), (1, (Ob.arr 3 1 [[(iV a5)]]))] (resV [(iV (r.1))]) 2 [(0, (Ob.arr 98 2 (a4.map encTIface))), (1, (Ob.arr 3 1 [[(iV (r.2))]]))] := by
  refine mut_enter Tryz.func261 rfl rfl (l := [.tmp 12]) rfl rfl [(0, (V.own 0 a4.length)), (1, (iV a1)), (2, (iV a2)), (3, (iV a3)), (4, (V.ptr 1 1 0 0)), (5, (V.fn (.func 121) [] [(V.iptr [(V.fn (.func 44) [] [])] 0)]))] rfl (fun w0 m0 β0 hg => en ?_)
  unfold M261 at h
  obtain ⟨y14, hx15, h⟩ := bind_some h
  refine rn 11 rfl ?_
  refine aops_mcallS (V.tup [(iV (y14.1)), (iV (y14.2.1))]) [(V.own 0 a4.length), (iV a1), (iV a2), (V.ptr 1 1 0 0), (V.fn (.func 121) [] [(V.iptr [(V.fn (.func 44) [] [])] 0)])] (fun i => ([0, 1] : List Nat).getD i 0) (fun i => ([0, 1] : List Nat).getD i 0) 2 2 [(0, (Ob.arr 98 2 (a4.map encTIface))), (1, (Ob.arr 3 1 [[(iV (y14.2.2))]]))] fOk276 wants_none rfl (evm_cons rfl (evm_cons rfl (evm_cons rfl (evm_cons rfl (evm_cons rfl evm_nil))))) (.cons (Sub.own rfl rfl) (.cons (Sub.imm (Imm.con _)) (.cons (Sub.imm (Imm.con _)) (.cons (Sub.ptr rfl rfl) (.cons (Sub.imm (Imm.fn .nil (.cons (Imm.iptr _ _) .nil))) .nil))))) (.cons rfl (ObSub.rows (rows_imm imms_encTIface)) (.cons rfl (ObSub.box (.cons (Sub.imm (Imm.con _)) .nil)) .nil)) (W276 F a1 a2 a4 a5 y14 hx15) rfl rfl rfl rfl (Sub.immT (Imm.tup (.cons (Imm.con _) (.cons (Imm.con _) .nil)))) (.cons rfl (ObSub.rowsT (rows_imm imms_encTIface)) (.cons rfl (ObSub.box (.cons (Sub.immT (Imm.con _)) .nil)) .nil)) _ rfl ?_
  obtain ⟨y16, hx17, h⟩ := bind_some h
  refine fo (rn 13 rfl ?_)
  refine aops_mcallS (V.tup [(iV (y16.1)), (iV (y16.2.1))]) [(V.own 0 a4.length), (iV (y14.2.1)), (iV a3), (V.ptr 1 1 0 0), (V.fn (.func 121) [] [(V.iptr [(V.fn (.func 44) [] [])] 0)])] (fun i => ([0, 1] : List Nat).getD i 0) (fun i => ([0, 1] : List Nat).getD i 0) 2 2 [(0, (Ob.arr 98 2 (a4.map encTIface))), (1, (Ob.arr 3 1 [[(iV (y16.2.2))]]))] fOk276 wants_none rfl (evm_cons rfl (evm_cons rfl (evm_cons rfl (evm_cons rfl (evm_cons rfl evm_nil))))) (.cons (Sub.own rfl rfl) (.cons (Sub.imm (Imm.con _)) (.cons (Sub.imm (Imm.con _)) (.cons (Sub.ptr rfl rfl) (.cons (Sub.imm (Imm.fn .nil (.cons (Imm.iptr _ _) .nil))) .nil))))) (.cons rfl (ObSub.rows (rows_imm imms_encTIface)) (.cons rfl (ObSub.box (.cons (Sub.imm (Imm.con _)) .nil)) .nil)) (W276 F (y14.2.1) a3 a4 (y14.2.2) y16 hx17) rfl rfl rfl rfl (Sub.immT (Imm.tup (.cons (Imm.con _) (.cons (Imm.con _) .nil)))) (.cons rfl (ObSub.rowsT (rows_imm imms_encTIface)) (.cons rfl (ObSub.box (.cons (Sub.immT (Imm.con _)) .nil)) .nil)) _ rfl ?_
  obtain ⟨y18, hx19, h⟩ := bind_some h
  refine fo (rn 13 rfl ?_)
  refine aops_mcallS (V.tup [(iV (y18.1)), (iV (y18.2.1))]) [(V.own 0 a4.length), (iV (y14.1)), (iV (y16.1)), (V.ptr 1 1 0 0), (V.fn (.func 121) [] [(V.iptr [(V.fn (.func 44) [] [])] 0)])] (fun i => ([0, 1] : List Nat).getD i 0) (fun i => ([0, 1] : List Nat).getD i 0) 2 2 [(0, (Ob.arr 98 2 (a4.map encTIface))), (1, (Ob.arr 3 1 [[(iV (y18.2.2))]]))] fOk276 wants_none rfl (evm_cons rfl (evm_cons rfl (evm_cons rfl (evm_cons rfl (evm_cons rfl evm_nil))))) (.cons (Sub.own rfl rfl) (.cons (Sub.imm (Imm.con _)) (.cons (Sub.imm (Imm.con _)) (.cons (Sub.ptr rfl rfl) (.cons (Sub.imm (Imm.fn .nil (.cons (Imm.iptr _ _) .nil))) .nil))))) (.cons rfl (ObSub.rows (rows_imm imms_encTIface)) (.cons rfl (ObSub.box (.cons (Sub.imm (Imm.con _)) .nil)) .nil)) (W276 F (y14.1) (y16.1) a4 (y16.2.2) y18 hx19) rfl rfl rfl rfl (Sub.immT (Imm.tup (.cons (Imm.con _) (.cons (Imm.con _) .nil)))) (.cons rfl (ObSub.rowsT (rows_imm imms_encTIface)) (.cons rfl (ObSub.box (.cons (Sub.immT (Imm.con _)) .nil)) .nil)) _ rfl ?_
  refine fo (rn 11 rfl ?_)
  replace h := Option.some.inj h
  subst h
  exact wR ⟨.inl rfl, [(12, (iV (y18.2.1)))], (gr [0, 1] rfl (hR rfl rfl (hB rfl rfl rfl .nil)) rfl), (.cons (.tmp rfl) .nil)⟩
theorem W260 (F : Nat) (a1 : Int) (a2 : List TIface) (a3 : Int) (r : (Int × Int)) (h : M260 F a1 a2 a3 = some r) : Mut Tryz.prog 260 [(V.own 0 a2.length), (iV a1), (V.ptr 1 1 0 0), (V.fn (.func 121) [] [(V.iptr [(V.fn (.func 44) [] [])] 0)])] 2 [(0, (Ob.arr 98 2 (a2.map encTIface))), (1, (Ob.arr 3 1 [[(iV a3)]]))] (resV [(iV (r.1))]) 2 [(0, (Ob.arr 98 2 (a2.map encTIface))), (1, (Ob.arr 3 1 [[(iV (r.2))]]))] := by
  refine mut_enter Tryz.func260 rfl rfl (l := [.tmp 8]) rfl rfl [(0, (V.own 0 a2.length)), (1, (iV a1)), (2, (V.ptr 1 1 0 0)), (3, (V.fn (.func 121) [] [(V.iptr [(V.fn (.func 44) [] [])] 0)]))] rfl (fun w0 m0 β0 hg => en ?_)
  unfold M260 at h
  obtain ⟨y8, hx9, h⟩ := bind_some h
  refine rn 14 rfl ?_
  refine aops_mcallS (iV (y8.1)) [(V.own 0 a2.length), (iV (w64 (a1 - 1))), (iV a1), (iV (w64 (a1 + 1))), (V.ptr 1 1 0 0), (V.fn (.func 121) [] [(V.iptr [(V.fn (.func 44) [] [])] 0)])] (fun i => ([0, 1] : List Nat).getD i 0) (fun i => ([0, 1] : List Nat).getD i 0) 2 2 [(0, (Ob.arr 98 2 (a2.map encTIface))), (1, (Ob.arr 3 1 [[(iV (y8.2))]]))] fOk261 wants_none rfl (evm_cons rfl (evm_cons rfl (evm_cons rfl (evm_cons rfl (evm_cons rfl (evm_cons rfl evm_nil)))))) (.cons (Sub.own rfl rfl) (.cons (Sub.imm (Imm.con _)) (.cons (Sub.imm (Imm.con _)) (.cons (Sub.imm (Imm.con _)) (.cons (Sub.ptr rfl rfl) (.cons (Sub.imm (Imm.fn .nil (.cons (Imm.iptr _ _) .nil))) .nil)))))) (.cons rfl (ObSub.rows (rows_imm imms_encTIface)) (.cons rfl (ObSub.box (.cons (Sub.imm (Imm.con _)) .nil)) .nil)) (W261 F (w64 (a1 - 1)) a1 (w64 (a1 + 1)) a2 a3 y8 hx9) rfl rfl rfl rfl (Sub.immT (Imm.con _)) (.cons rfl (ObSub.rowsT (rows_imm imms_encTIface)) (.cons rfl (ObSub.box (.cons (Sub.immT (Imm.con _)) .nil)) .nil)) _ rfl ?_
  refine fo (rn 2 rfl ?_)
  replace h := Option.some.inj h
  subst h
  exact wR ⟨.inl rfl, [(8, (iV (y8.1)))], (gr [0, 1] rfl (hR rfl rfl (hB rfl rfl rfl .nil)) rfl), (.cons (.tmp rfl) .nil)⟩
theorem W212 (F : Nat) (a1 : Int) (a2 : Int) (a3 : List TIface) (r : (Int × Int)) (h : M212 F a1 a2 a3 = some r) : Mut Tryz.prog 212 [(V.own 0 a3.length), (iV a1), (iV a2), (V.fn (.func 121) [] [(V.iptr [(V.fn (.func 44) [] [])] 0)])] 1 [(0, (Ob.arr 98 2 (a3.map encTIface)))] (resV [(iV (r.1)), (iV (r.2))]) 1 [(0, (Ob.arr 98 2 (a3.map encTIface)))] := by
  refine mut_enter Tryz.func212 rfl rfl (l := [.tmp 8, .tmp 9]) rfl rfl [(0, (V.own 0 a3.length)), (1, (iV a1)), (2, (iV a2)), (3, (V.fn (.func 121) [] [(V.iptr [(V.fn (.func 44) [] [])] 0)]))] rfl (fun w0 m0 β0 hg => en ?_)
  unfold M212 at h
  refine rn 49 rfl ?_
  refine jK h (fun (p : Int × Int) => (⟨[(11, (V.ptr 1 1 0 0)), (13, (iV (p.1)))], [(0, (Ob.arr 98 2 (a3.map encTIface))), (1, (Ob.arr 3 1 [[(iV (p.2))]]))], 2⟩ : St)) (fun k26 (p : Int × Int) => k26 p.1 p.2 = some r) (fun k26 h => ?_) ?_
  · refine spC h rfl (fun hb29 h => ?_) (fun hb29 h => ?_)
    · refine rn 6 rfl ?_
      refine jK h (fun (p : Int × Int × Int × Int) => (⟨[(0, (V.own 0 a3.length)), (3, (V.fn (.func 121) [] [(V.iptr [(V.fn (.func 44) [] [])] 0)])), (11, (V.ptr 1 1 0 0)), (12, (iV (p.1))), (13, (iV (p.2.1))), (14, (iV (p.2.2.1)))], [(0, (Ob.arr 98 2 (a3.map encTIface))), (1, (Ob.arr 3 1 [[(iV (p.2.2.2))]]))], 2⟩ : St)) (fun k30 (p : Int × Int × Int × Int) => k30 p.1 p.2.1 p.2.2.1 p.2.2.2 = some r) (fun k30 h => ?_) ?_
      · refine spC h rfl (fun hb35 h => ?_) (fun hb35 h => ?_)
        · obtain ⟨y36, hx37, h⟩ := bind_some h
          refine rn 5 rfl ?_
          refine aops_mcallS (iV (y36.1)) [(V.own 0 a3.length), (iV (w64 (a1 + (w64 ((w64 (Int.tdiv (w64 (a2 - a1)) 4)) * 1))))), (V.ptr 1 1 0 0), (V.fn (.func 121) [] [(V.iptr [(V.fn (.func 44) [] [])] 0)])] (fun i => ([0, 1] : List Nat).getD i 0) (fun i => ([0, 1] : List Nat).getD i 0) 2 2 [(0, (Ob.arr 98 2 (a3.map encTIface))), (1, (Ob.arr 3 1 [[(iV (y36.2))]]))] fOk260 wants_none rfl (evm_cons rfl (evm_cons rfl (evm_cons rfl (evm_cons rfl evm_nil)))) (.cons (Sub.own rfl rfl) (.cons (Sub.imm (Imm.con _)) (.cons (Sub.ptr rfl rfl) (.cons (Sub.imm (Imm.fn .nil (.cons (Imm.iptr _ _) .nil))) .nil)))) (.cons rfl (ObSub.rows (rows_imm imms_encTIface)) (.cons rfl (ObSub.box (.cons (Sub.imm (Imm.con _)) .nil)) .nil)) (W260 F (w64 (a1 + (w64 ((w64 (Int.tdiv (w64 (a2 - a1)) 4)) * 1)))) a3 0 y36 hx37) rfl rfl rfl rfl (Sub.immT (Imm.con _)) (.cons rfl (ObSub.rowsT (rows_imm imms_encTIface)) (.cons rfl (ObSub.box (.cons (Sub.immT (Imm.con _)) .nil)) .nil)) _ rfl ?_
          obtain ⟨y38, hx39, h⟩ := bind_some h
          refine fo (rn 7 rfl ?_)
          refine aops_mcallS (iV (y38.1)) [(V.own 0 a3.length), (iV (w64 (a1 + (w64 ((w64 (Int.tdiv (w64 (a2 - a1)) 4)) * 2))))), (V.ptr 1 1 0 0), (V.fn (.func 121) [] [(V.iptr [(V.fn (.func 44) [] [])] 0)])] (fun i => ([0, 1] : List Nat).getD i 0) (fun i => ([0, 1] : List Nat).getD i 0) 2 2 [(0, (Ob.arr 98 2 (a3.map encTIface))), (1, (Ob.arr 3 1 [[(iV (y38.2))]]))] fOk260 wants_none rfl (evm_cons rfl (evm_cons rfl (evm_cons rfl (evm_cons rfl evm_nil)))) (.cons (Sub.own rfl rfl) (.cons (Sub.imm (Imm.con _)) (.cons (Sub.ptr rfl rfl) (.cons (Sub.imm (Imm.fn .nil (.cons (Imm.iptr _ _) .nil))) .nil)))) (.cons rfl (ObSub.rows (rows_imm imms_encTIface)) (.cons rfl (ObSub.box (.cons (Sub.imm (Imm.con _)) .nil)) .nil)) (W260 F (w64 (a1 + (w64 ((w64 (Int.tdiv (w64 (a2 - a1)) 4)) * 2)))) a3 (y36.2) y38 hx39) rfl rfl rfl rfl (Sub.immT (Imm.con _)) (.cons rfl (ObSub.rowsT (rows_imm imms_encTIface)) (.cons rfl (ObSub.box (.cons (Sub.immT (Imm.con _)) .nil)) .nil)) _ rfl ?_
          obtain ⟨y40, hx41, h⟩ := bind_some h
          refine fo (rn 6 rfl ?_)
          refine aops_mcallS (iV (y40.1)) [(V.own 0 a3.length), (iV (w64 (a1 + (w64 ((w64 (Int.tdiv (w64 (a2 - a1)) 4)) * 3))))), (V.ptr 1 1 0 0), (V.fn (.func 121) [] [(V.iptr [(V.fn (.func 44) [] [])] 0)])] (fun i => ([0, 1] : List Nat).getD i 0) (fun i => ([0, 1] : List Nat).getD i 0) 2 2 [(0, (Ob.arr 98 2 (a3.map encTIface))), (1, (Ob.arr 3 1 [[(iV (y40.2))]]))] fOk260 wants_none rfl (evm_cons rfl (evm_cons rfl (evm_cons rfl (evm_cons rfl evm_nil)))) (.cons (Sub.own rfl rfl) (.cons (Sub.imm (Imm.con _)) (.cons (Sub.ptr rfl rfl) (.cons (Sub.imm (Imm.fn .nil (.cons (Imm.iptr _ _) .nil))) .nil)))) (.cons rfl (ObSub.rows (rows_imm imms_encTIface)) (.cons rfl (ObSub.box (.cons (Sub.imm (Imm.con _)) .nil)) .nil)) (W260 F (w64 (a1 + (w64 ((w64 (Int.tdiv (w64 (a2 - a1)) 4)) * 3)))) a3 (y38.2) y40 hx41) rfl rfl rfl rfl (Sub.immT (Imm.con _)) (.cons rfl (ObSub.rowsT (rows_imm imms_encTIface)) (.cons rfl (ObSub.box (.cons (Sub.immT (Imm.con _)) .nil)) .nil)) _ rfl ?_
          refine fo (rn 2 rfl ?_)
          exact jX ((y36.1), (y38.1), (y40.1), (y40.2)) h (gr [0, 1] rfl (hR rfl rfl (hB rfl rfl rfl .nil)) rfl)
        refine rn 1 rfl ?_
        exact jX ((w64 (a1 + (w64 ((w64 (Int.tdiv (w64 (a2 - a1)) 4)) * 1)))), (w64 (a1 + (w64 ((w64 (Int.tdiv (w64 (a2 - a1)) 4)) * 2)))), (w64 (a1 + (w64 ((w64 (Int.tdiv (w64 (a2 - a1)) 4)) * 3)))), 0) h (gr [0, 1] rfl (hR rfl rfl (hB rfl rfl rfl .nil)) rfl)
      rintro ⟨n31, n32, n33, n34⟩ h
      obtain ⟨y42, hx43, h⟩ := bind_some h
      refine rn 6 rfl ?_
      refine aops_mcallS (iV (y42.1)) [(V.own 0 a3.length), (iV n31), (iV n32), (iV n33), (V.ptr 1 1 0 0), (V.fn (.func 121) [] [(V.iptr [(V.fn (.func 44) [] [])] 0)])] (fun i => ([0, 1] : List Nat).getD i 0) (fun i => ([0, 1] : List Nat).getD i 0) 2 2 [(0, (Ob.arr 98 2 (a3.map encTIface))), (1, (Ob.arr 3 1 [[(iV (y42.2))]]))] fOk261 wants_none rfl (evm_cons rfl (evm_cons rfl (evm_cons rfl (evm_cons rfl (evm_cons rfl (evm_cons rfl evm_nil)))))) (.cons (Sub.own rfl rfl) (.cons (Sub.imm (Imm.con _)) (.cons (Sub.imm (Imm.con _)) (.cons (Sub.imm (Imm.con _)) (.cons (Sub.ptr rfl rfl) (.cons (Sub.imm (Imm.fn .nil (.cons (Imm.iptr _ _) .nil))) .nil)))))) (.cons rfl (ObSub.rows (rows_imm imms_encTIface)) (.cons rfl (ObSub.box (.cons (Sub.imm (Imm.con _)) .nil)) .nil)) (W261 F n31 n32 n33 a3 n34 y42 hx43) rfl rfl rfl rfl (Sub.immT (Imm.con _)) (.cons rfl (ObSub.rowsT (rows_imm imms_encTIface)) (.cons rfl (ObSub.box (.cons (Sub.immT (Imm.con _)) .nil)) .nil)) _ rfl ?_
      refine fo (rn 2 rfl ?_)
      exact jX ((y42.1), (y42.2)) h (gr [0, 1] rfl (hR rfl rfl (hB rfl rfl rfl .nil)) rfl)
    refine rn 1 rfl ?_
    exact jX ((w64 (a1 + (w64 ((w64 (Int.tdiv (w64 (a2 - a1)) 4)) * 2)))), 0) h (gr [0, 1] rfl (hR rfl rfl (hB rfl rfl rfl .nil)) rfl)
  rintro ⟨n27, n28⟩ h
  refine rn 10 rfl ?_
  refine spC h rfl (fun hb44 h => ?_) (fun hb44 h => ?_)
  · refine rn 6 rfl ?_
    replace h := Option.some.inj h
    subst h
    exact wR ⟨.inl rfl, [(8, (iV n27)), (9, (iV 1))], (gr [0] rfl (hR rfl rfl .nil) rfl), (.cons (.tmp rfl) (.cons (.tmp rfl) .nil))⟩
  refine rn 5 rfl ?_
  refine spC h rfl (fun hb45 h => ?_) (fun hb45 h => ?_)
  · refine rn 6 rfl ?_
    replace h := Option.some.inj h
    subst h
    exact wR ⟨.inl rfl, [(8, (iV n27)), (9, (iV 2))], (gr [0] rfl (hR rfl rfl .nil) rfl), (.cons (.tmp rfl) (.cons (.tmp rfl) .nil))⟩
  refine rn 6 rfl ?_
  replace h := Option.some.inj h
  subst h
  exact wR ⟨.inl rfl, [(8, (iV n27)), (9, (iV 0))], (gr [0] rfl (hR rfl rfl .nil) rfl), (.cons (.tmp rfl) (.cons (.tmp rfl) .nil))⟩
theorem W213 (F : Nat) (a1 : Int) (a2 : Int) (a3 : List TIface) (r : (List TIface)) (h : M213 F a1 a2 a3 = some r) : Mut Tryz.prog 213 [(V.own 0 a3.length), (iV a1), (iV a2), (V.fn (.func 121) [] [(V.iptr [(V.fn (.func 44) [] [])] 0)])] 1 [(0, (Ob.arr 98 2 (a3.map encTIface)))] (resV []) 1 [(0, (Ob.arr 98 2 (r.map encTIface)))] := by
  refine mut_enter Tryz.func213 rfl rfl (l := []) rfl rfl [(0, (V.own 0 a3.length)), (1, (iV a1)), (2, (iV a2)), (3, (V.fn (.func 121) [] [(V.iptr [(V.fn (.func 44) [] [])] 0)]))] rfl (fun w0 m0 β0 hg => en ?_)
  unfold M213 at h
  refine rn 12 rfl ?_
  refine lC (fun (p : Int × Int × (List TIface)) => (⟨[(0, (V.own 0 (p.2.2).length)), (8, (iV (p.1))), (9, (iV (p.2.1)))], [(0, (Ob.arr 98 2 ((p.2.2).map encTIface)))], 1⟩ : St)) (fun n (p : Int × Int × (List TIface)) => M213_L1 F n p.1 p.2.1 p.2.2 = some r) (fun p h => by simp [M213_L1] at h) F (a1, (w64 (a2 - 1)), a3) h (gr [0] rfl (hR rfl rfl .nil) rfl) (fun n p h => ?_)
  obtain ⟨n23, n24, l25⟩ := p
  unfold M213_L1 at h
  refine rn 7 rfl ?_
  refine spC h rfl (fun hb26 h => ?_) (fun hb26 h => ?_)
  · obtain ⟨x27, hx28, h⟩ := bind_some h
    obtain ⟨x29, hx30, h⟩ := bind_some h
    obtain ⟨x31, hx32, h⟩ := bind_some h
    obtain ⟨x33, hx34, h⟩ := bind_some h
    refine rn 3 rfl ?_
    refine dr mixed (vs 6 rfl (oD (a := l25) hx28 rfl rfl rfl rfl (lD hx28 rfl rfl rfl rfl rfl (vs 2 rfl (oD (a := l25) hx30 rfl rfl rfl rfl (lD hx30 rfl rfl rfl rfl rfl (oD (a := l25) hx32 rfl rfl rfl rfl (xD (OD.mk [(28, (V.ptr 0 2 n23.toNat 0)), (23, (V.agg (encTIface x27)))] [(0, (Ob.arr 98 2 (l25.map encTIface)))] [] [(0, (Ob.arr 98 2 ((l25.set n23.toNat x27).map encTIface)))]) ⟨⟨rfl, rfl, trivial⟩, ⟨rfl, trivial⟩⟩ (by exact fun S hn h hh => aops_store (encTIface x27) ((l25.set n23.toNat x27).map encTIface) tS98 wants_none h.1 h.2.1 rfl rfl hh.1 (idx_map encTIface hx32) rfl (map_set encTIface l25 _ x27) (aops_nil ⟨rfl, rfl⟩)) rfl (xD (OD.mk [(18, (V.own 0 l25.length)), (19, (iV n24))] [] [(29, (V.ptr 0 2 n24.toNat 0))] []) ⟨⟨rfl, rfl, trivial⟩, trivial⟩ (by exact fun S hn h hh => aops_index_own tSl22 wants_none h.1 h.2.1 (idx_some hx34).1 (by simpa using idx_lt hx34) rfl (aops_nil ⟨rfl, rfl⟩)) rfl (xD (OD.mk [(29, (V.ptr 0 2 n24.toNat 0)), (27, (V.agg (encTIface x29)))] [(0, (Ob.arr 98 2 ((l25.set n23.toNat x27).map encTIface)))] [] [(0, (Ob.arr 98 2 (((l25.set n23.toNat x27).set n24.toNat x29).map encTIface)))]) ⟨⟨rfl, rfl, trivial⟩, ⟨rfl, trivial⟩⟩ (by exact fun S hn h hh => aops_store (encTIface x29) (((l25.set n23.toNat x27).set n24.toNat x29).map encTIface) tS98 wants_none h.1 h.2.1 rfl rfl hh.1 (idx_map encTIface hx34) rfl (map_set encTIface (l25.set n23.toNat x27) _ x29) (aops_nil ⟨rfl, rfl⟩)) rfl .nil)))))))))) (by kernel_rfl) ?_
    refine rn 12 rfl ?_
    exact jX ((w64 (n23 + 1)), (w64 (n24 - 1)), ((l25.set n23.toNat x27).set n24.toNat x29)) h (ghost_ren 1 (fun i => ([0] : List Nat).getD i 0) _ _ (by decide) (EnvSub.get (.cons (Sub.ownE rfl rfl (by simp)) (.cons (Sub.imm (Imm.con _)) (.cons (Sub.imm (Imm.con _)) .nil)))) (HpSub.get (.cons rfl (ObSub.rows (rows_imm imms_encTIface)) .nil)) rfl)
  refine rn 1 rfl ?_
  replace h := Option.some.inj h
  subst h
  exact wE ⟨.inr rfl, [], (gr [0] rfl (hR rfl rfl .nil) rfl), .nil⟩
theorem W214 (F : Nat) (a1 : Int) (a2 : Int) (a3 : List TIface) (r : (Bool × (List TIface))) (h : M214 F a1 a2 a3 = some r) : Mut Tryz.prog 214 [(V.own 0 a3.length), (iV a1), (iV a2), (V.fn (.func 121) [] [(V.iptr [(V.fn (.func 44) [] [])] 0)])] 1 [(0, (Ob.arr 98 2 (a3.map encTIface)))] (resV [(bV (r.1))]) 1 [(0, (Ob.arr 98 2 ((r.2).map encTIface)))] := by
  refine mut_enter Tryz.func214 rfl rfl (l := [.tmp 8]) rfl rfl [(0, (V.own 0 a3.length)), (1, (iV a1)), (2, (iV a2)), (3, (V.fn (.func 121) [] [(V.iptr [(V.fn (.func 44) [] [])] 0)]))] rfl (fun w0 m0 β0 hg => en ?_)
  unfold M214 at h
  refine rn 15 rfl ?_
  refine jK h (fun (p : (List TIface)) => (⟨[], [(0, (Ob.arr 98 2 (p.map encTIface)))], 1⟩ : St)) (fun k91 (p : (List TIface)) => k91 p = some r) (fun k91 h => ?_) ?_
  · refine rn 1 rfl ?_
    refine ck h (fun hA175 h => ?_)
    refine lC (fun (p : Int × Int × (List TIface)) => (⟨[(0, (V.own 0 (p.2.2).length)), (1, (iV a1)), (2, (iV a2)), (3, (V.fn (.func 121) [] [(V.iptr [(V.fn (.func 44) [] [])] 0)])), (9, (iV (p.1))), (10, (iV (p.2.1)))], [(0, (Ob.arr 98 2 ((p.2.2).map encTIface)))], 1⟩ : St)) (fun n (p : Int × Int × (List TIface)) => RC 5 (fun tl nn => M214_L1 F a1 a2 k91 tl p.1 p.2.2 = some r) n p.2.1) (fun p h => RC.zero h) (Int.toNat 5 + 1) ((w64 (a1 + 1)), 0, a3) (RC.start h) (gr [0] rfl (hR rfl rfl .nil) rfl) (fun n p h => ?_)
    obtain ⟨n96, n97, l98⟩ := p
    refine rn 6 rfl ?_
    refine spL rfl (fun hb99 => ?_) (fun hb99 => ?_)
    · obtain ⟨tl, h, hk1⟩ := RC.t hA175 h hb99
      unfold M214_L1 at h
      refine rn 2 rfl ?_
      refine jK h (fun (p : Int × (List TIface)) => (⟨[(0, (V.own 0 (p.2).length)), (1, (iV a1)), (2, (iV a2)), (3, (V.fn (.func 121) [] [(V.iptr [(V.fn (.func 44) [] [])] 0)])), (9, (iV (p.1))), (10, (iV n97))], [(0, (Ob.arr 98 2 ((p.2).map encTIface)))], 1⟩ : St)) (fun k100 (p : Int × (List TIface)) => k100 p.1 p.2 = some r) (fun k100 h => ?_) ?_
      · refine rn 2 rfl ?_
        refine jK h (fun (p : Int) => (⟨[(0, (V.own 0 l98.length)), (1, (iV a1)), (2, (iV a2)), (3, (V.fn (.func 121) [] [(V.iptr [(V.fn (.func 44) [] [])] 0)])), (9, (iV p)), (10, (iV n97))], [(0, (Ob.arr 98 2 (l98.map encTIface)))], 1⟩ : St)) (fun k103 (p : Int) => k103 p = some r) (fun k103 h => ?_) ?_
        · refine rn 1 rfl ?_
          refine lC (fun (p : Int) => (⟨[(0, (V.own 0 l98.length)), (1, (iV a1)), (2, (iV a2)), (3, (V.fn (.func 121) [] [(V.iptr [(V.fn (.func 44) [] [])] 0)])), (9, (iV p)), (10, (iV n97))], [(0, (Ob.arr 98 2 (l98.map encTIface)))], 1⟩ : St)) (fun n (p : Int) => M214_L2 F a2 l98 k103 n p = some r) (fun p h => by simp [M214_L2] at h) F n96 h (gr [0] rfl (hR rfl rfl .nil) rfl) (fun n n106 h => ?_)
          unfold M214_L2 at h
          refine rn 2 rfl ?_
          refine bs h (fun hb107 h => ?_) (fun hb107 h => ?_)
          · obtain ⟨x108, hx109, h⟩ := bind_some h
            obtain ⟨x110, hx111, h⟩ := bind_some h
            obtain ⟨y112, hx113, h⟩ := bind_some h
            refine dr mixed (vs 3 rfl (vb hb107 rfl (vs 3 rfl (oD (a := l98) hx109 rfl rfl rfl rfl (lD hx109 rfl rfl rfl rfl rfl (vs 3 rfl (oD (a := l98) hx111 rfl rfl rfl rfl (lD hx111 rfl rfl rfl rfl rfl (cD rfl rfl rfl rfl (W121 _ _ _ _ hx113) rfl (vs 3 rfl .nil)))))))))) (by kernel_rfl) ?_
            refine spC h rfl (fun hb114 h => ?_) (fun hb114 h => ?_)
            · refine rn 8 rfl ?_
              exact jX (w64 (n106 + 1)) h (gr [0] rfl (hR rfl rfl .nil) rfl)
            refine rn 1 rfl ?_
            exact jX n106 h (gr [0] rfl (hR rfl rfl .nil) rfl)
          refine dr mixed (vs 3 rfl (vb hb107 rfl (vs 14 rfl .nil))) (by kernel_rfl) ?_
          refine rn 2 rfl ?_
          exact jX n106 h (gr [0] rfl (hR rfl rfl .nil) rfl)
        intro n104 h
        refine rn 7 rfl ?_
        refine spC h rfl (fun hb115 h => ?_) (fun hb115 h => ?_)
        · refine rn 4 rfl ?_
          replace h := Option.some.inj h
          subst h
          exact wR ⟨.inl rfl, [(8, (bV true))], (gr [0] rfl (hR rfl rfl .nil) rfl), (.cons (.tmp rfl) .nil)⟩
        refine rn 9 rfl ?_
        refine spC h rfl (fun hb116 h => ?_) (fun hb116 h => ?_)
        · refine rn 4 rfl ?_
          replace h := Option.some.inj h
          subst h
          exact wR ⟨.inl rfl, [(8, (bV false))], (gr [0] rfl (hR rfl rfl .nil) rfl), (.cons (.tmp rfl) .nil)⟩
        obtain ⟨x117, hx118, h⟩ := bind_some h
        obtain ⟨x119, hx120, h⟩ := bind_some h
        obtain ⟨x121, hx122, h⟩ := bind_some h
        obtain ⟨x123, hx124, h⟩ := bind_some h
        refine rn 2 rfl ?_
        refine dr mixed (vs 8 rfl (oD (a := l98) hx118 rfl rfl rfl rfl (lD hx118 rfl rfl rfl rfl rfl (vs 2 rfl (oD (a := l98) hx120 rfl rfl rfl rfl (lD hx120 rfl rfl rfl rfl rfl (oD (a := l98) hx122 rfl rfl rfl rfl (xD (OD.mk [(60, (V.ptr 0 2 n104.toNat 0)), (55, (V.agg (encTIface x117)))] [(0, (Ob.arr 98 2 (l98.map encTIface)))] [] [(0, (Ob.arr 98 2 ((l98.set n104.toNat x117).map encTIface)))]) ⟨⟨rfl, rfl, trivial⟩, ⟨rfl, trivial⟩⟩ (by exact fun S hn h hh => aops_store (encTIface x117) ((l98.set n104.toNat x117).map encTIface) tS98 wants_none h.1 h.2.1 rfl rfl hh.1 (idx_map encTIface hx122) rfl (map_set encTIface l98 _ x117) (aops_nil ⟨rfl, rfl⟩)) rfl (xD (OD.mk [(48, (V.own 0 l98.length)), (50, (iV (w64 (n104 - 1))))] [] [(61, (V.ptr 0 2 (w64 (n104 - 1)).toNat 0))] []) ⟨⟨rfl, rfl, trivial⟩, trivial⟩ (by exact fun S hn h hh => aops_index_own tSl22 wants_none h.1 h.2.1 (idx_some hx124).1 (by simpa using idx_lt hx124) rfl (aops_nil ⟨rfl, rfl⟩)) rfl (xD (OD.mk [(61, (V.ptr 0 2 (w64 (n104 - 1)).toNat 0)), (59, (V.agg (encTIface x119)))] [(0, (Ob.arr 98 2 ((l98.set n104.toNat x117).map encTIface)))] [] [(0, (Ob.arr 98 2 (((l98.set n104.toNat x117).set (w64 (n104 - 1)).toNat x119).map encTIface)))]) ⟨⟨rfl, rfl, trivial⟩, ⟨rfl, trivial⟩⟩ (by exact fun S hn h hh => aops_store (encTIface x119) (((l98.set n104.toNat x117).set (w64 (n104 - 1)).toNat x119).map encTIface) tS98 wants_none h.1 h.2.1 rfl rfl hh.1 (idx_map encTIface hx124) rfl (map_set encTIface (l98.set n104.toNat x117) _ x119) (aops_nil ⟨rfl, rfl⟩)) rfl .nil)))))))))) (by kernel_rfl) ?_
        refine rn 8 rfl ?_
        refine jK h (fun (p : (List TIface)) => (⟨[(0, (V.own 0 p.length)), (1, (iV a1)), (2, (iV a2)), (3, (V.fn (.func 121) [] [(V.iptr [(V.fn (.func 44) [] [])] 0)])), (9, (iV n104)), (10, (iV n97))], [(0, (Ob.arr 98 2 (p.map encTIface)))], 1⟩ : St)) (fun k125 (p : (List TIface)) => k125 p = some r) (fun k125 h => ?_) ?_
        · refine spC h rfl (fun hb127 h => ?_) (fun hb127 h => ?_)
          · refine rn 6 rfl ?_
            refine jK h (fun (p : (List TIface)) => (⟨[(0, (V.own 0 p.length)), (1, (iV a1)), (2, (iV a2)), (3, (V.fn (.func 121) [] [(V.iptr [(V.fn (.func 44) [] [])] 0)])), (9, (iV n104)), (10, (iV n97))], [(0, (Ob.arr 98 2 (p.map encTIface)))], 1⟩ : St)) (fun k128 (p : (List TIface)) => k128 p = some r) (fun k128 h => ?_) ?_
            · refine rn 1 rfl ?_
              refine lC (fun (p : Int × (List TIface)) => (⟨[(0, (V.own 0 (p.2).length)), (1, (iV a1)), (2, (iV a2)), (3, (V.fn (.func 121) [] [(V.iptr [(V.fn (.func 44) [] [])] 0)])), (9, (iV n104)), (10, (iV n97)), (11, (iV (p.1)))], [(0, (Ob.arr 98 2 ((p.2).map encTIface)))], 1⟩ : St)) (fun n (p : Int × (List TIface)) => M214_L3 F k128 n p.1 p.2 = some r) (fun p h => by simp [M214_L3] at h) F ((w64 (n104 - 1)), ((l98.set n104.toNat x117).set (w64 (n104 - 1)).toNat x119)) h (ghost_ren 1 (fun i => ([0] : List Nat).getD i 0) _ _ (by decide) (EnvSub.get (.cons (Sub.ownE rfl rfl (by simp)) (.cons (Sub.imm (Imm.con _)) (.cons (Sub.imm (Imm.con _)) (.cons (Sub.imm (Imm.fn .nil (.cons (Imm.iptr _ _) .nil))) (.cons (Sub.imm (Imm.con _)) (.cons (Sub.imm (Imm.con _)) (.cons (Sub.imm (Imm.con _)) .nil)))))))) (HpSub.get (.cons rfl (ObSub.rows (rows_imm imms_encTIface)) .nil)) rfl) (fun n p h => ?_)
              obtain ⟨n132, l133⟩ := p
              unfold M214_L3 at h
              refine rn 6 rfl ?_
              refine spC h rfl (fun hb134 h => ?_) (fun hb134 h => ?_)
              · obtain ⟨x135, hx136, h⟩ := bind_some h
                obtain ⟨x137, hx138, h⟩ := bind_some h
                obtain ⟨y139, hx140, h⟩ := bind_some h
                refine rn 5 rfl ?_
                refine dr mixed (vs 3 rfl (oD (a := l133) hx136 rfl rfl rfl rfl (lD hx136 rfl rfl rfl rfl rfl (vs 3 rfl (oD (a := l133) hx138 rfl rfl rfl rfl (lD hx138 rfl rfl rfl rfl rfl (cD rfl rfl rfl rfl (W121 _ _ _ _ hx140) rfl (vs 2 rfl .nil)))))))) (by kernel_rfl) ?_
                refine spC h rfl (fun hb141 h => ?_) (fun hb141 h => ?_)
                · refine rn 1 rfl ?_
                  exact jX l133 h (gr [0] rfl (hR rfl rfl .nil) rfl)
                obtain ⟨x142, hx143, h⟩ := bind_some h
                obtain ⟨x144, hx145, h⟩ := bind_some h
                obtain ⟨x146, hx147, h⟩ := bind_some h
                obtain ⟨x148, hx149, h⟩ := bind_some h
                refine rn 1 rfl ?_
                refine dr mixed (vs 8 rfl (oD (a := l133) hx143 rfl rfl rfl rfl (lD hx143 rfl rfl rfl rfl rfl (vs 2 rfl (oD (a := l133) hx145 rfl rfl rfl rfl (lD hx145 rfl rfl rfl rfl rfl (oD (a := l133) hx147 rfl rfl rfl rfl (xD (OD.mk [(99, (V.ptr 0 2 n132.toNat 0)), (94, (V.agg (encTIface x142)))] [(0, (Ob.arr 98 2 (l133.map encTIface)))] [] [(0, (Ob.arr 98 2 ((l133.set n132.toNat x142).map encTIface)))]) ⟨⟨rfl, rfl, trivial⟩, ⟨rfl, trivial⟩⟩ (by exact fun S hn h hh => aops_store (encTIface x142) ((l133.set n132.toNat x142).map encTIface) tS98 wants_none h.1 h.2.1 rfl rfl hh.1 (idx_map encTIface hx147) rfl (map_set encTIface l133 _ x142) (aops_nil ⟨rfl, rfl⟩)) rfl (xD (OD.mk [(87, (V.own 0 l133.length)), (89, (iV (w64 (n132 - 1))))] [] [(100, (V.ptr 0 2 (w64 (n132 - 1)).toNat 0))] []) ⟨⟨rfl, rfl, trivial⟩, trivial⟩ (by exact fun S hn h hh => aops_index_own tSl22 wants_none h.1 h.2.1 (idx_some hx149).1 (by simpa using idx_lt hx149) rfl (aops_nil ⟨rfl, rfl⟩)) rfl (xD (OD.mk [(100, (V.ptr 0 2 (w64 (n132 - 1)).toNat 0)), (98, (V.agg (encTIface x144)))] [(0, (Ob.arr 98 2 ((l133.set n132.toNat x142).map encTIface)))] [] [(0, (Ob.arr 98 2 (((l133.set n132.toNat x142).set (w64 (n132 - 1)).toNat x144).map encTIface)))]) ⟨⟨rfl, rfl, trivial⟩, ⟨rfl, trivial⟩⟩ (by exact fun S hn h hh => aops_store (encTIface x144) (((l133.set n132.toNat x142).set (w64 (n132 - 1)).toNat x144).map encTIface) tS98 wants_none h.1 h.2.1 rfl rfl hh.1 (idx_map encTIface hx149) rfl (map_set encTIface (l133.set n132.toNat x142) _ x144) (aops_nil ⟨rfl, rfl⟩)) rfl .nil)))))))))) (by kernel_rfl) ?_
                refine rn 6 rfl ?_
                exact jX ((w64 (n132 - 1)), ((l133.set n132.toNat x142).set (w64 (n132 - 1)).toNat x144)) h (ghost_ren 1 (fun i => ([0] : List Nat).getD i 0) _ _ (by decide) (EnvSub.get (.cons (Sub.ownE rfl rfl (by simp)) (.cons (Sub.imm (Imm.con _)) (.cons (Sub.imm (Imm.con _)) (.cons (Sub.imm (Imm.fn .nil (.cons (Imm.iptr _ _) .nil))) (.cons (Sub.imm (Imm.con _)) (.cons (Sub.imm (Imm.con _)) (.cons (Sub.imm (Imm.con _)) .nil)))))))) (HpSub.get (.cons rfl (ObSub.rows (rows_imm imms_encTIface)) .nil)) rfl)
              refine rn 1 rfl ?_
              exact jX l133 h (gr [0] rfl (hR rfl rfl .nil) rfl)
            intro l129 h
            exact jX l129 h (gr [0] rfl (hR rfl rfl .nil) rfl)
          refine rn 1 rfl ?_
          exact jX ((l98.set n104.toNat x117).set (w64 (n104 - 1)).toNat x119) h (ghost_ren 1 (fun i => ([0] : List Nat).getD i 0) _ _ (by decide) (EnvSub.get (.cons (Sub.ownE rfl rfl (by simp)) (.cons (Sub.imm (Imm.con _)) (.cons (Sub.imm (Imm.con _)) (.cons (Sub.imm (Imm.fn .nil (.cons (Imm.iptr _ _) .nil))) (.cons (Sub.imm (Imm.con _)) (.cons (Sub.imm (Imm.con _)) .nil))))))) (HpSub.get (.cons rfl (ObSub.rows (rows_imm imms_encTIface)) .nil)) rfl)
        intro l126 h
        refine rn 7 rfl ?_
        refine jK h (fun (p : (List TIface)) => (⟨[(0, (V.own 0 p.length)), (1, (iV a1)), (2, (iV a2)), (3, (V.fn (.func 121) [] [(V.iptr [(V.fn (.func 44) [] [])] 0)])), (9, (iV n104)), (10, (iV n97))], [(0, (Ob.arr 98 2 (p.map encTIface)))], 1⟩ : St)) (fun k150 (p : (List TIface)) => k150 p = some r) (fun k150 h => ?_) ?_
        · refine spC h rfl (fun hb152 h => ?_) (fun hb152 h => ?_)
          · refine rn 6 rfl ?_
            refine jK h (fun (p : (List TIface)) => (⟨[(0, (V.own 0 p.length)), (1, (iV a1)), (2, (iV a2)), (3, (V.fn (.func 121) [] [(V.iptr [(V.fn (.func 44) [] [])] 0)])), (9, (iV n104)), (10, (iV n97))], [(0, (Ob.arr 98 2 (p.map encTIface)))], 1⟩ : St)) (fun k153 (p : (List TIface)) => k153 p = some r) (fun k153 h => ?_) ?_
            · refine rn 1 rfl ?_
              refine lC (fun (p : Int × (List TIface)) => (⟨[(0, (V.own 0 (p.2).length)), (1, (iV a1)), (2, (iV a2)), (3, (V.fn (.func 121) [] [(V.iptr [(V.fn (.func 44) [] [])] 0)])), (9, (iV n104)), (10, (iV n97)), (12, (iV (p.1)))], [(0, (Ob.arr 98 2 ((p.2).map encTIface)))], 1⟩ : St)) (fun n (p : Int × (List TIface)) => M214_L4 F a2 k153 n p.1 p.2 = some r) (fun p h => by simp [M214_L4] at h) F ((w64 (n104 + 1)), l126) h (gr [0] rfl (hR rfl rfl .nil) rfl) (fun n p h => ?_)
              obtain ⟨n157, l158⟩ := p
              unfold M214_L4 at h
              refine rn 7 rfl ?_
              refine spC h rfl (fun hb159 h => ?_) (fun hb159 h => ?_)
              · obtain ⟨x160, hx161, h⟩ := bind_some h
                obtain ⟨x162, hx163, h⟩ := bind_some h
                obtain ⟨y164, hx165, h⟩ := bind_some h
                refine rn 5 rfl ?_
                refine dr mixed (vs 3 rfl (oD (a := l158) hx161 rfl rfl rfl rfl (lD hx161 rfl rfl rfl rfl rfl (vs 3 rfl (oD (a := l158) hx163 rfl rfl rfl rfl (lD hx163 rfl rfl rfl rfl rfl (cD rfl rfl rfl rfl (W121 _ _ _ _ hx165) rfl (vs 2 rfl .nil)))))))) (by kernel_rfl) ?_
                refine spC h rfl (fun hb166 h => ?_) (fun hb166 h => ?_)
                · refine rn 1 rfl ?_
                  exact jX l158 h (gr [0] rfl (hR rfl rfl .nil) rfl)
                obtain ⟨x167, hx168, h⟩ := bind_some h
                obtain ⟨x169, hx170, h⟩ := bind_some h
                obtain ⟨x171, hx172, h⟩ := bind_some h
                obtain ⟨x173, hx174, h⟩ := bind_some h
                refine rn 1 rfl ?_
                refine dr mixed (vs 8 rfl (oD (a := l158) hx168 rfl rfl rfl rfl (lD hx168 rfl rfl rfl rfl rfl (vs 2 rfl (oD (a := l158) hx170 rfl rfl rfl rfl (lD hx170 rfl rfl rfl rfl rfl (oD (a := l158) hx172 rfl rfl rfl rfl (xD (OD.mk [(139, (V.ptr 0 2 n157.toNat 0)), (134, (V.agg (encTIface x167)))] [(0, (Ob.arr 98 2 (l158.map encTIface)))] [] [(0, (Ob.arr 98 2 ((l158.set n157.toNat x167).map encTIface)))]) ⟨⟨rfl, rfl, trivial⟩, ⟨rfl, trivial⟩⟩ (by exact fun S hn h hh => aops_store (encTIface x167) ((l158.set n157.toNat x167).map encTIface) tS98 wants_none h.1 h.2.1 rfl rfl hh.1 (idx_map encTIface hx172) rfl (map_set encTIface l158 _ x167) (aops_nil ⟨rfl, rfl⟩)) rfl (xD (OD.mk [(127, (V.own 0 l158.length)), (129, (iV (w64 (n157 - 1))))] [] [(140, (V.ptr 0 2 (w64 (n157 - 1)).toNat 0))] []) ⟨⟨rfl, rfl, trivial⟩, trivial⟩ (by exact fun S hn h hh => aops_index_own tSl22 wants_none h.1 h.2.1 (idx_some hx174).1 (by simpa using idx_lt hx174) rfl (aops_nil ⟨rfl, rfl⟩)) rfl (xD (OD.mk [(140, (V.ptr 0 2 (w64 (n157 - 1)).toNat 0)), (138, (V.agg (encTIface x169)))] [(0, (Ob.arr 98 2 ((l158.set n157.toNat x167).map encTIface)))] [] [(0, (Ob.arr 98 2 (((l158.set n157.toNat x167).set (w64 (n157 - 1)).toNat x169).map encTIface)))]) ⟨⟨rfl, rfl, trivial⟩, ⟨rfl, trivial⟩⟩ (by exact fun S hn h hh => aops_store (encTIface x169) (((l158.set n157.toNat x167).set (w64 (n157 - 1)).toNat x169).map encTIface) tS98 wants_none h.1 h.2.1 rfl rfl hh.1 (idx_map encTIface hx174) rfl (map_set encTIface (l158.set n157.toNat x167) _ x169) (aops_nil ⟨rfl, rfl⟩)) rfl .nil)))))))))) (by kernel_rfl) ?_
                refine rn 6 rfl ?_
                exact jX ((w64 (n157 + 1)), ((l158.set n157.toNat x167).set (w64 (n157 - 1)).toNat x169)) h (ghost_ren 1 (fun i => ([0] : List Nat).getD i 0) _ _ (by decide) (EnvSub.get (.cons (Sub.ownE rfl rfl (by simp)) (.cons (Sub.imm (Imm.con _)) (.cons (Sub.imm (Imm.con _)) (.cons (Sub.imm (Imm.fn .nil (.cons (Imm.iptr _ _) .nil))) (.cons (Sub.imm (Imm.con _)) (.cons (Sub.imm (Imm.con _)) (.cons (Sub.imm (Imm.con _)) .nil)))))))) (HpSub.get (.cons rfl (ObSub.rows (rows_imm imms_encTIface)) .nil)) rfl)
              refine rn 1 rfl ?_
              exact jX l158 h (gr [0] rfl (hR rfl rfl .nil) rfl)
            intro l154 h
            exact jX l154 h (gr [0] rfl (hR rfl rfl .nil) rfl)
          refine rn 1 rfl ?_
          exact jX l126 h (gr [0] rfl (hR rfl rfl .nil) rfl)
        intro l151 h
        refine rn 1 rfl ?_
        exact jX (n104, l151) h (gr [0] rfl (hR rfl rfl .nil) rfl)
      rintro ⟨n101, l102⟩ h
      refine rn 5 rfl ?_
      exact jX (n101, (w64 (n97 + 1)), l102) (hk1 _ h) (gr [0] rfl (hR rfl rfl .nil) rfl)
    replace h := RC.f h hb99
    unfold M214_L1 at h
    refine rn 1 rfl ?_
    exact jX l98 h (gr [0] rfl (hR rfl rfl .nil) rfl)
  intro l92 h
  refine rn 4 rfl ?_
  replace h := Option.some.inj h
  subst h
  exact wR ⟨.inl rfl, [(8, (bV false))], (gr [0] rfl (hR rfl rfl .nil) rfl), (.cons (.tmp rfl) .nil)⟩
theorem W215 (F : Nat) (a1 : Int) (a2 : Int) (a3 : Int) (a4 : List TIface) (r : (Int × (List TIface))) (h : M215 F a1 a2 a3 a4 = some r) : Mut Tryz.prog 215 [(V.own 0 a4.length), (iV a1), (iV a2), (iV a3), (V.fn (.func 121) [] [(V.iptr [(V.fn (.func 44) [] [])] 0)])] 1 [(0, (Ob.arr 98 2 (a4.map encTIface)))] (resV [(iV (r.1))]) 1 [(0, (Ob.arr 98 2 ((r.2).map encTIface)))] := by
  refine mut_enter Tryz.func215 rfl rfl (l := [.tmp 10]) rfl rfl [(0, (V.own 0 a4.length)), (1, (iV a1)), (2, (iV a2)), (3, (iV a3)), (4, (V.fn (.func 121) [] [(V.iptr [(V.fn (.func 44) [] [])] 0)]))] rfl (fun w0 m0 β0 hg => en ?_)
  unfold M215 at h
  obtain ⟨x61, hx62, h⟩ := bind_some h
  obtain ⟨x63, hx64, h⟩ := bind_some h
  obtain ⟨x65, hx66, h⟩ := bind_some h
  obtain ⟨x67, hx68, h⟩ := bind_some h
  refine rn 5 rfl ?_
  refine dr mixed (vs 6 rfl (oD (a := a4) hx62 rfl rfl rfl rfl (lD hx62 rfl rfl rfl rfl rfl (vs 2 rfl (oD (a := a4) hx64 rfl rfl rfl rfl (lD hx64 rfl rfl rfl rfl rfl (oD (a := a4) hx66 rfl rfl rfl rfl (xD (OD.mk [(25, (V.ptr 0 2 a1.toNat 0)), (20, (V.agg (encTIface x61)))] [(0, (Ob.arr 98 2 (a4.map encTIface)))] [] [(0, (Ob.arr 98 2 ((a4.set a1.toNat x61).map encTIface)))]) ⟨⟨rfl, rfl, trivial⟩, ⟨rfl, trivial⟩⟩ (by exact fun S hn h hh => aops_store (encTIface x61) ((a4.set a1.toNat x61).map encTIface) tS98 wants_none h.1 h.2.1 rfl rfl hh.1 (idx_map encTIface hx66) rfl (map_set encTIface a4 _ x61) (aops_nil ⟨rfl, rfl⟩)) rfl (xD (OD.mk [(15, (V.own 0 a4.length)), (16, (iV a3))] [] [(26, (V.ptr 0 2 a3.toNat 0))] []) ⟨⟨rfl, rfl, trivial⟩, trivial⟩ (by exact fun S hn h hh => aops_index_own tSl22 wants_none h.1 h.2.1 (idx_some hx68).1 (by simpa using idx_lt hx68) rfl (aops_nil ⟨rfl, rfl⟩)) rfl (xD (OD.mk [(26, (V.ptr 0 2 a3.toNat 0)), (24, (V.agg (encTIface x63)))] [(0, (Ob.arr 98 2 ((a4.set a1.toNat x61).map encTIface)))] [] [(0, (Ob.arr 98 2 (((a4.set a1.toNat x61).set a3.toNat x63).map encTIface)))]) ⟨⟨rfl, rfl, trivial⟩, ⟨rfl, trivial⟩⟩ (by exact fun S hn h hh => aops_store (encTIface x63) (((a4.set a1.toNat x61).set a3.toNat x63).map encTIface) tS98 wants_none h.1 h.2.1 rfl rfl hh.1 (idx_map encTIface hx68) rfl (map_set encTIface (a4.set a1.toNat x61) _ x63) (aops_nil ⟨rfl, rfl⟩)) rfl .nil)))))))))) (by kernel_rfl) ?_
  refine rn 10 rfl ?_
  refine jK h (fun (p : Int × (List TIface)) => (⟨[(11, (iV (p.1)))], [(0, (Ob.arr 98 2 ((p.2).map encTIface)))], 1⟩ : St)) (fun k69 (p : Int × (List TIface)) => k69 p.1 p.2 = some r) (fun k69 h => ?_) ?_
  · refine rn 1 rfl ?_
    refine lC (fun (p : Int × Int × (List TIface)) => (⟨[(0, (V.own 0 (p.2.2).length)), (1, (iV a1)), (4, (V.fn (.func 121) [] [(V.iptr [(V.fn (.func 44) [] [])] 0)])), (11, (iV (p.1))), (12, (iV (p.2.1)))], [(0, (Ob.arr 98 2 ((p.2.2).map encTIface)))], 1⟩ : St)) (fun n (p : Int × Int × (List TIface)) => M215_L1 F a1 k69 n p.1 p.2.1 p.2.2 = some r) (fun p h => by simp [M215_L1] at h) F ((w64 (a1 + 1)), (w64 (a2 - 1)), ((a4.set a1.toNat x61).set a3.toNat x63)) h (ghost_ren 1 (fun i => ([0] : List Nat).getD i 0) _ _ (by decide) (EnvSub.get (.cons (Sub.ownE rfl rfl (by simp)) (.cons (Sub.imm (Imm.con _)) (.cons (Sub.imm (Imm.fn .nil (.cons (Imm.iptr _ _) .nil))) (.cons (Sub.imm (Imm.con _)) (.cons (Sub.imm (Imm.con _)) .nil)))))) (HpSub.get (.cons rfl (ObSub.rows (rows_imm imms_encTIface)) .nil)) rfl) (fun n p h => ?_)
    obtain ⟨n75, n76, l77⟩ := p
    unfold M215_L1 at h
    refine jK h (fun (p : Int × Int × (List TIface)) => (⟨[(0, (V.own 0 (p.2.2).length)), (1, (iV a1)), (4, (V.fn (.func 121) [] [(V.iptr [(V.fn (.func 44) [] [])] 0)])), (11, (iV (p.1))), (12, (iV (p.2.1)))], [(0, (Ob.arr 98 2 ((p.2.2).map encTIface)))], 1⟩ : St)) (fun k78 (p : Int × Int × (List TIface)) => k78 p.1 p.2.1 p.2.2 = some r) (fun k78 h => ?_) ?_
    · refine rn 2 rfl ?_
      refine jK h (fun (p : Int) => (⟨[(0, (V.own 0 l77.length)), (1, (iV a1)), (4, (V.fn (.func 121) [] [(V.iptr [(V.fn (.func 44) [] [])] 0)])), (11, (iV p)), (12, (iV n76))], [(0, (Ob.arr 98 2 (l77.map encTIface)))], 1⟩ : St)) (fun k82 (p : Int) => k82 p = some r) (fun k82 h => ?_) ?_
      · refine rn 1 rfl ?_
        refine lC (fun (p : Int) => (⟨[(0, (V.own 0 l77.length)), (1, (iV a1)), (4, (V.fn (.func 121) [] [(V.iptr [(V.fn (.func 44) [] [])] 0)])), (11, (iV p)), (12, (iV n76))], [(0, (Ob.arr 98 2 (l77.map encTIface)))], 1⟩ : St)) (fun n (p : Int) => M215_L2 F a1 n76 l77 k82 n p = some r) (fun p h => by simp [M215_L2] at h) F n75 h (gr [0] rfl (hR rfl rfl .nil) rfl) (fun n n85 h => ?_)
        unfold M215_L2 at h
        refine rn 2 rfl ?_
        refine bs h (fun hb86 h => ?_) (fun hb86 h => ?_)
        · obtain ⟨x87, hx88, h⟩ := bind_some h
          obtain ⟨x89, hx90, h⟩ := bind_some h
          obtain ⟨y91, hx92, h⟩ := bind_some h
          refine dr mixed (vs 3 rfl (vb hb86 rfl (vs 3 rfl (oD (a := l77) hx88 rfl rfl rfl rfl (lD hx88 rfl rfl rfl rfl rfl (vs 2 rfl (oD (a := l77) hx90 rfl rfl rfl rfl (lD hx90 rfl rfl rfl rfl rfl (cD rfl rfl rfl rfl (W121 _ _ _ _ hx92) rfl (vs 3 rfl .nil)))))))))) (by kernel_rfl) ?_
          refine spC h rfl (fun hb93 h => ?_) (fun hb93 h => ?_)
          · refine rn 8 rfl ?_
            exact jX (w64 (n85 + 1)) h (gr [0] rfl (hR rfl rfl .nil) rfl)
          refine rn 1 rfl ?_
          exact jX n85 h (gr [0] rfl (hR rfl rfl .nil) rfl)
        refine dr mixed (vs 3 rfl (vb hb86 rfl (vs 13 rfl .nil))) (by kernel_rfl) ?_
        refine rn 2 rfl ?_
        exact jX n85 h (gr [0] rfl (hR rfl rfl .nil) rfl)
      intro n83 h
      refine rn 1 rfl ?_
      refine jK h (fun (p : Int) => (⟨[(0, (V.own 0 l77.length)), (1, (iV a1)), (4, (V.fn (.func 121) [] [(V.iptr [(V.fn (.func 44) [] [])] 0)])), (11, (iV n83)), (12, (iV p))], [(0, (Ob.arr 98 2 (l77.map encTIface)))], 1⟩ : St)) (fun k94 (p : Int) => k94 p = some r) (fun k94 h => ?_) ?_
      · refine rn 1 rfl ?_
        refine lC (fun (p : Int) => (⟨[(0, (V.own 0 l77.length)), (1, (iV a1)), (4, (V.fn (.func 121) [] [(V.iptr [(V.fn (.func 44) [] [])] 0)])), (11, (iV n83)), (12, (iV p))], [(0, (Ob.arr 98 2 (l77.map encTIface)))], 1⟩ : St)) (fun n (p : Int) => M215_L3 F a1 l77 n83 k94 n p = some r) (fun p h => by simp [M215_L3] at h) F n76 h (gr [0] rfl (hR rfl rfl .nil) rfl) (fun n n97 h => ?_)
        unfold M215_L3 at h
        refine rn 2 rfl ?_
        refine bs h (fun hb98 h => ?_) (fun hb98 h => ?_)
        · obtain ⟨x99, hx100, h⟩ := bind_some h
          obtain ⟨x101, hx102, h⟩ := bind_some h
          obtain ⟨y103, hx104, h⟩ := bind_some h
          refine dr mixed (vs 3 rfl (vb hb98 rfl (vs 3 rfl (oD (a := l77) hx100 rfl rfl rfl rfl (lD hx100 rfl rfl rfl rfl rfl (vs 2 rfl (oD (a := l77) hx102 rfl rfl rfl rfl (lD hx102 rfl rfl rfl rfl rfl (cD rfl rfl rfl rfl (W121 _ _ _ _ hx104) rfl (vs 2 rfl .nil)))))))))) (by kernel_rfl) ?_
          refine spC h rfl (fun hb105 h => ?_) (fun hb105 h => ?_)
          · refine rn 8 rfl ?_
            exact jX (w64 (n97 - 1)) h (gr [0] rfl (hR rfl rfl .nil) rfl)
          refine rn 1 rfl ?_
          exact jX n97 h (gr [0] rfl (hR rfl rfl .nil) rfl)
        refine dr mixed (vs 3 rfl (vb hb98 rfl (vs 12 rfl .nil))) (by kernel_rfl) ?_
        refine rn 2 rfl ?_
        exact jX n97 h (gr [0] rfl (hR rfl rfl .nil) rfl)
      intro n95 h
      refine rn 7 rfl ?_
      refine spC h rfl (fun hb106 h => ?_) (fun hb106 h => ?_)
      · refine rn 1 rfl ?_
        exact jX (n83, l77) h (gr [0] rfl (hR rfl rfl .nil) rfl)
      obtain ⟨x107, hx108, h⟩ := bind_some h
      obtain ⟨x109, hx110, h⟩ := bind_some h
      obtain ⟨x111, hx112, h⟩ := bind_some h
      obtain ⟨x113, hx114, h⟩ := bind_some h
      refine rn 2 rfl ?_
      refine dr mixed (vs 6 rfl (oD (a := l77) hx108 rfl rfl rfl rfl (lD hx108 rfl rfl rfl rfl rfl (vs 2 rfl (oD (a := l77) hx110 rfl rfl rfl rfl (lD hx110 rfl rfl rfl rfl rfl (oD (a := l77) hx112 rfl rfl rfl rfl (xD (OD.mk [(83, (V.ptr 0 2 n83.toNat 0)), (78, (V.agg (encTIface x107)))] [(0, (Ob.arr 98 2 (l77.map encTIface)))] [] [(0, (Ob.arr 98 2 ((l77.set n83.toNat x107).map encTIface)))]) ⟨⟨rfl, rfl, trivial⟩, ⟨rfl, trivial⟩⟩ (by exact fun S hn h hh => aops_store (encTIface x107) ((l77.set n83.toNat x107).map encTIface) tS98 wants_none h.1 h.2.1 rfl rfl hh.1 (idx_map encTIface hx112) rfl (map_set encTIface l77 _ x107) (aops_nil ⟨rfl, rfl⟩)) rfl (xD (OD.mk [(73, (V.own 0 l77.length)), (74, (iV n95))] [] [(84, (V.ptr 0 2 n95.toNat 0))] []) ⟨⟨rfl, rfl, trivial⟩, trivial⟩ (by exact fun S hn h hh => aops_index_own tSl22 wants_none h.1 h.2.1 (idx_some hx114).1 (by simpa using idx_lt hx114) rfl (aops_nil ⟨rfl, rfl⟩)) rfl (xD (OD.mk [(84, (V.ptr 0 2 n95.toNat 0)), (82, (V.agg (encTIface x109)))] [(0, (Ob.arr 98 2 ((l77.set n83.toNat x107).map encTIface)))] [] [(0, (Ob.arr 98 2 (((l77.set n83.toNat x107).set n95.toNat x109).map encTIface)))]) ⟨⟨rfl, rfl, trivial⟩, ⟨rfl, trivial⟩⟩ (by exact fun S hn h hh => aops_store (encTIface x109) (((l77.set n83.toNat x107).set n95.toNat x109).map encTIface) tS98 wants_none h.1 h.2.1 rfl rfl hh.1 (idx_map encTIface hx114) rfl (map_set encTIface (l77.set n83.toNat x107) _ x109) (aops_nil ⟨rfl, rfl⟩)) rfl .nil)))))))))) (by kernel_rfl) ?_
      refine rn 12 rfl ?_
      exact jX ((w64 (n83 + 1)), (w64 (n95 - 1)), ((l77.set n83.toNat x107).set n95.toNat x109)) h (ghost_ren 1 (fun i => ([0] : List Nat).getD i 0) _ _ (by decide) (EnvSub.get (.cons (Sub.ownE rfl rfl (by simp)) (.cons (Sub.imm (Imm.con _)) (.cons (Sub.imm (Imm.fn .nil (.cons (Imm.iptr _ _) .nil))) (.cons (Sub.imm (Imm.con _)) (.cons (Sub.imm (Imm.con _)) .nil)))))) (HpSub.get (.cons rfl (ObSub.rows (rows_imm imms_encTIface)) .nil)) rfl)
    rintro ⟨n79, n80, l81⟩ h
    exact jX (n79, n80, l81) h (gr [0] rfl (hR rfl rfl .nil) rfl)
  rintro ⟨n70, l71⟩ h
  refine rn 5 rfl ?_
  replace h := Option.some.inj h
  subst h
  exact wR ⟨.inl rfl, [(10, (iV n70))], (gr [0] rfl (hR rfl rfl .nil) rfl), (.cons (.tmp rfl) .nil)⟩
theorem W216 (F : Nat) (a1 : Int) (a2 : Int) (a3 : Int) (a4 : List TIface) (r : (Int × Bool × (List TIface))) (h : M216 F a1 a2 a3 a4 = some r) : Mut Tryz.prog 216 [(V.own 0 a4.length), (iV a1), (iV a2), (iV a3), (V.fn (.func 121) [] [(V.iptr [(V.fn (.func 44) [] [])] 0)])] 1 [(0, (Ob.arr 98 2 (a4.map encTIface)))] (resV [(iV (r.1)), (bV (r.2.1))]) 1 [(0, (Ob.arr 98 2 ((r.2.2).map encTIface)))] := by
  refine mut_enter Tryz.func216 rfl rfl (l := [.tmp 10, .tmp 11]) rfl rfl [(0, (V.own 0 a4.length)), (1, (iV a1)), (2, (iV a2)), (3, (iV a3)), (4, (V.fn (.func 121) [] [(V.iptr [(V.fn (.func 44) [] [])] 0)]))] rfl (fun w0 m0 β0 hg => en ?_)
  unfold M216 at h
  obtain ⟨x111, hx112, h⟩ := bind_some h
  obtain ⟨x113, hx114, h⟩ := bind_some h
  obtain ⟨x115, hx116, h⟩ := bind_some h
  obtain ⟨x117, hx118, h⟩ := bind_some h
  refine rn 6 rfl ?_
  refine dr mixed (vs 6 rfl (oD (a := a4) hx112 rfl rfl rfl rfl (lD hx112 rfl rfl rfl rfl rfl (vs 2 rfl (oD (a := a4) hx114 rfl rfl rfl rfl (lD hx114 rfl rfl rfl rfl rfl (oD (a := a4) hx116 rfl rfl rfl rfl (xD (OD.mk [(26, (V.ptr 0 2 a1.toNat 0)), (21, (V.agg (encTIface x111)))] [(0, (Ob.arr 98 2 (a4.map encTIface)))] [] [(0, (Ob.arr 98 2 ((a4.set a1.toNat x111).map encTIface)))]) ⟨⟨rfl, rfl, trivial⟩, ⟨rfl, trivial⟩⟩ (by exact fun S hn h hh => aops_store (encTIface x111) ((a4.set a1.toNat x111).map encTIface) tS98 wants_none h.1 h.2.1 rfl rfl hh.1 (idx_map encTIface hx116) rfl (map_set encTIface a4 _ x111) (aops_nil ⟨rfl, rfl⟩)) rfl (xD (OD.mk [(16, (V.own 0 a4.length)), (17, (iV a3))] [] [(27, (V.ptr 0 2 a3.toNat 0))] []) ⟨⟨rfl, rfl, trivial⟩, trivial⟩ (by exact fun S hn h hh => aops_index_own tSl22 wants_none h.1 h.2.1 (idx_some hx118).1 (by simpa using idx_lt hx118) rfl (aops_nil ⟨rfl, rfl⟩)) rfl (xD (OD.mk [(27, (V.ptr 0 2 a3.toNat 0)), (25, (V.agg (encTIface x113)))] [(0, (Ob.arr 98 2 ((a4.set a1.toNat x111).map encTIface)))] [] [(0, (Ob.arr 98 2 (((a4.set a1.toNat x111).set a3.toNat x113).map encTIface)))]) ⟨⟨rfl, rfl, trivial⟩, ⟨rfl, trivial⟩⟩ (by exact fun S hn h hh => aops_store (encTIface x113) (((a4.set a1.toNat x111).set a3.toNat x113).map encTIface) tS98 wants_none h.1 h.2.1 rfl rfl hh.1 (idx_map encTIface hx118) rfl (map_set encTIface (a4.set a1.toNat x111) _ x113) (aops_nil ⟨rfl, rfl⟩)) rfl .nil)))))))))) (by kernel_rfl) ?_
  refine rn 10 rfl ?_
  refine jK h (fun (p : Int) => (⟨[(0, (V.own 0 ((a4.set a1.toNat x111).set a3.toNat x113).length)), (1, (iV a1)), (4, (V.fn (.func 121) [] [(V.iptr [(V.fn (.func 44) [] [])] 0)])), (12, (iV p)), (13, (iV (w64 (a2 - 1))))], [(0, (Ob.arr 98 2 (((a4.set a1.toNat x111).set a3.toNat x113).map encTIface)))], 1⟩ : St)) (fun k119 (p : Int) => k119 p = some r) (fun k119 h => ?_) ?_
  · refine rn 1 rfl ?_
    refine lC (fun (p : Int) => (⟨[(0, (V.own 0 ((a4.set a1.toNat x111).set a3.toNat x113).length)), (1, (iV a1)), (4, (V.fn (.func 121) [] [(V.iptr [(V.fn (.func 44) [] [])] 0)])), (12, (iV p)), (13, (iV (w64 (a2 - 1))))], [(0, (Ob.arr 98 2 (((a4.set a1.toNat x111).set a3.toNat x113).map encTIface)))], 1⟩ : St)) (fun n (p : Int) => M216_L1 F a1 a2 a3 a4 x111 x113 k119 n p = some r) (fun p h => by simp [M216_L1] at h) F (w64 (a1 + 1)) h (ghost_ren 1 (fun i => ([0] : List Nat).getD i 0) _ _ (by decide) (EnvSub.get (.cons (Sub.ownE rfl rfl (by simp)) (.cons (Sub.imm (Imm.con _)) (.cons (Sub.imm (Imm.fn .nil (.cons (Imm.iptr _ _) .nil))) (.cons (Sub.imm (Imm.con _)) (.cons (Sub.imm (Imm.con _)) .nil)))))) (HpSub.get (.cons rfl (ObSub.rows (rows_imm imms_encTIface)) .nil)) rfl) (fun n n122 h => ?_)
    unfold M216_L1 at h
    refine rn 2 rfl ?_
    refine bs h (fun hb123 h => ?_) (fun hb123 h => ?_)
    · obtain ⟨x124, hx125, h⟩ := bind_some h
      obtain ⟨x126, hx127, h⟩ := bind_some h
      obtain ⟨y128, hx129, h⟩ := bind_some h
      refine dr mixed (vs 3 rfl (vb hb123 rfl (vs 3 rfl (oD (a := ((a4.set a1.toNat x111).set a3.toNat x113)) hx125 rfl rfl rfl rfl (lD hx125 rfl rfl rfl rfl rfl (vs 2 rfl (oD (a := ((a4.set a1.toNat x111).set a3.toNat x113)) hx127 rfl rfl rfl rfl (lD hx127 rfl rfl rfl rfl rfl (cD rfl rfl rfl rfl (W121 _ _ _ _ hx129) rfl (vs 2 rfl .nil)))))))))) (by kernel_rfl) ?_
      refine spC h rfl (fun hb130 h => ?_) (fun hb130 h => ?_)
      · refine rn 8 rfl ?_
        exact jX (w64 (n122 + 1)) h (gr [0] rfl (hR rfl rfl .nil) rfl)
      refine rn 1 rfl ?_
      exact jX n122 h (gr [0] rfl (hR rfl rfl .nil) rfl)
    refine dr mixed (vs 3 rfl (vb hb123 rfl (vs 12 rfl .nil))) (by kernel_rfl) ?_
    refine rn 2 rfl ?_
    exact jX n122 h (gr [0] rfl (hR rfl rfl .nil) rfl)
  intro n120 h
  refine rn 1 rfl ?_
  refine jK h (fun (p : Int) => (⟨[(0, (V.own 0 ((a4.set a1.toNat x111).set a3.toNat x113).length)), (1, (iV a1)), (4, (V.fn (.func 121) [] [(V.iptr [(V.fn (.func 44) [] [])] 0)])), (12, (iV n120)), (13, (iV p))], [(0, (Ob.arr 98 2 (((a4.set a1.toNat x111).set a3.toNat x113).map encTIface)))], 1⟩ : St)) (fun k131 (p : Int) => k131 p = some r) (fun k131 h => ?_) ?_
  · refine rn 1 rfl ?_
    refine lC (fun (p : Int) => (⟨[(0, (V.own 0 ((a4.set a1.toNat x111).set a3.toNat x113).length)), (1, (iV a1)), (4, (V.fn (.func 121) [] [(V.iptr [(V.fn (.func 44) [] [])] 0)])), (12, (iV n120)), (13, (iV p))], [(0, (Ob.arr 98 2 (((a4.set a1.toNat x111).set a3.toNat x113).map encTIface)))], 1⟩ : St)) (fun n (p : Int) => M216_L2 F a1 a3 a4 x111 x113 n120 k131 n p = some r) (fun p h => by simp [M216_L2] at h) F (w64 (a2 - 1)) h (gr [0] rfl (hR rfl rfl .nil) rfl) (fun n n134 h => ?_)
    unfold M216_L2 at h
    refine rn 2 rfl ?_
    refine bs h (fun hb135 h => ?_) (fun hb135 h => ?_)
    · obtain ⟨x136, hx137, h⟩ := bind_some h
      obtain ⟨x138, hx139, h⟩ := bind_some h
      obtain ⟨y140, hx141, h⟩ := bind_some h
      refine dr mixed (vs 3 rfl (vb hb135 rfl (vs 3 rfl (oD (a := ((a4.set a1.toNat x111).set a3.toNat x113)) hx137 rfl rfl rfl rfl (lD hx137 rfl rfl rfl rfl rfl (vs 2 rfl (oD (a := ((a4.set a1.toNat x111).set a3.toNat x113)) hx139 rfl rfl rfl rfl (lD hx139 rfl rfl rfl rfl rfl (cD rfl rfl rfl rfl (W121 _ _ _ _ hx141) rfl (vs 3 rfl .nil)))))))))) (by kernel_rfl) ?_
      refine spC h rfl (fun hb142 h => ?_) (fun hb142 h => ?_)
      · refine rn 8 rfl ?_
        exact jX (w64 (n134 - 1)) h (gr [0] rfl (hR rfl rfl .nil) rfl)
      refine rn 1 rfl ?_
      exact jX n134 h (gr [0] rfl (hR rfl rfl .nil) rfl)
    refine dr mixed (vs 3 rfl (vb hb135 rfl (vs 13 rfl .nil))) (by kernel_rfl) ?_
    refine rn 2 rfl ?_
    exact jX n134 h (gr [0] rfl (hR rfl rfl .nil) rfl)
  intro n132 h
  refine rn 7 rfl ?_
  refine spC h rfl (fun hb143 h => ?_) (fun hb143 h => ?_)
  · obtain ⟨x144, hx145, h⟩ := bind_some h
    obtain ⟨x146, hx147, h⟩ := bind_some h
    obtain ⟨x148, hx149, h⟩ := bind_some h
    obtain ⟨x150, hx151, h⟩ := bind_some h
    refine rn 1 rfl ?_
    refine dr mixed (vs 6 rfl (oD (a := ((a4.set a1.toNat x111).set a3.toNat x113)) hx145 rfl rfl rfl rfl (lD hx145 rfl rfl rfl rfl rfl (vs 2 rfl (oD (a := ((a4.set a1.toNat x111).set a3.toNat x113)) hx147 rfl rfl rfl rfl (lD hx147 rfl rfl rfl rfl rfl (oD (a := ((a4.set a1.toNat x111).set a3.toNat x113)) hx149 rfl rfl rfl rfl (xD (OD.mk [(84, (V.ptr 0 2 n132.toNat 0)), (79, (V.agg (encTIface x144)))] [(0, (Ob.arr 98 2 (((a4.set a1.toNat x111).set a3.toNat x113).map encTIface)))] [] [(0, (Ob.arr 98 2 ((((a4.set a1.toNat x111).set a3.toNat x113).set n132.toNat x144).map encTIface)))]) ⟨⟨rfl, rfl, trivial⟩, ⟨rfl, trivial⟩⟩ (by exact fun S hn h hh => aops_store (encTIface x144) ((((a4.set a1.toNat x111).set a3.toNat x113).set n132.toNat x144).map encTIface) tS98 wants_none h.1 h.2.1 rfl rfl hh.1 (idx_map encTIface hx149) rfl (map_set encTIface ((a4.set a1.toNat x111).set a3.toNat x113) _ x144) (aops_nil ⟨rfl, rfl⟩)) rfl (xD (OD.mk [(74, (V.own 0 ((a4.set a1.toNat x111).set a3.toNat x113).length)), (75, (iV a1))] [] [(85, (V.ptr 0 2 a1.toNat 0))] []) ⟨⟨rfl, rfl, trivial⟩, trivial⟩ (by exact fun S hn h hh => aops_index_own tSl22 wants_none h.1 h.2.1 (idx_some hx151).1 (by simpa using idx_lt hx151) rfl (aops_nil ⟨rfl, rfl⟩)) rfl (xD (OD.mk [(85, (V.ptr 0 2 a1.toNat 0)), (83, (V.agg (encTIface x146)))] [(0, (Ob.arr 98 2 ((((a4.set a1.toNat x111).set a3.toNat x113).set n132.toNat x144).map encTIface)))] [] [(0, (Ob.arr 98 2 (((((a4.set a1.toNat x111).set a3.toNat x113).set n132.toNat x144).set a1.toNat x146).map encTIface)))]) ⟨⟨rfl, rfl, trivial⟩, ⟨rfl, trivial⟩⟩ (by exact fun S hn h hh => aops_store (encTIface x146) (((((a4.set a1.toNat x111).set a3.toNat x113).set n132.toNat x144).set a1.toNat x146).map encTIface) tS98 wants_none h.1 h.2.1 rfl rfl hh.1 (idx_map encTIface hx151) rfl (map_set encTIface (((a4.set a1.toNat x111).set a3.toNat x113).set n132.toNat x144) _ x146) (aops_nil ⟨rfl, rfl⟩)) rfl .nil)))))))))) (by kernel_rfl) ?_
    refine rn 6 rfl ?_
    replace h := Option.some.inj h
    subst h
    exact wR ⟨.inl rfl, [(10, (iV n132)), (11, (bV true))], (gr [0] rfl (hR rfl rfl .nil) rfl), (.cons (.tmp rfl) (.cons (.tmp rfl) .nil))⟩
  obtain ⟨x152, hx153, h⟩ := bind_some h
  obtain ⟨x154, hx155, h⟩ := bind_some h
  obtain ⟨x156, hx157, h⟩ := bind_some h
  obtain ⟨x158, hx159, h⟩ := bind_some h
  refine rn 2 rfl ?_
  refine dr mixed (vs 6 rfl (oD (a := ((a4.set a1.toNat x111).set a3.toNat x113)) hx153 rfl rfl rfl rfl (lD hx153 rfl rfl rfl rfl rfl (vs 2 rfl (oD (a := ((a4.set a1.toNat x111).set a3.toNat x113)) hx155 rfl rfl rfl rfl (lD hx155 rfl rfl rfl rfl rfl (oD (a := ((a4.set a1.toNat x111).set a3.toNat x113)) hx157 rfl rfl rfl rfl (xD (OD.mk [(99, (V.ptr 0 2 n120.toNat 0)), (94, (V.agg (encTIface x152)))] [(0, (Ob.arr 98 2 (((a4.set a1.toNat x111).set a3.toNat x113).map encTIface)))] [] [(0, (Ob.arr 98 2 ((((a4.set a1.toNat x111).set a3.toNat x113).set n120.toNat x152).map encTIface)))]) ⟨⟨rfl, rfl, trivial⟩, ⟨rfl, trivial⟩⟩ (by exact fun S hn h hh => aops_store (encTIface x152) ((((a4.set a1.toNat x111).set a3.toNat x113).set n120.toNat x152).map encTIface) tS98 wants_none h.1 h.2.1 rfl rfl hh.1 (idx_map encTIface hx157) rfl (map_set encTIface ((a4.set a1.toNat x111).set a3.toNat x113) _ x152) (aops_nil ⟨rfl, rfl⟩)) rfl (xD (OD.mk [(89, (V.own 0 ((a4.set a1.toNat x111).set a3.toNat x113).length)), (90, (iV n132))] [] [(100, (V.ptr 0 2 n132.toNat 0))] []) ⟨⟨rfl, rfl, trivial⟩, trivial⟩ (by exact fun S hn h hh => aops_index_own tSl22 wants_none h.1 h.2.1 (idx_some hx159).1 (by simpa using idx_lt hx159) rfl (aops_nil ⟨rfl, rfl⟩)) rfl (xD (OD.mk [(100, (V.ptr 0 2 n132.toNat 0)), (98, (V.agg (encTIface x154)))] [(0, (Ob.arr 98 2 ((((a4.set a1.toNat x111).set a3.toNat x113).set n120.toNat x152).map encTIface)))] [] [(0, (Ob.arr 98 2 (((((a4.set a1.toNat x111).set a3.toNat x113).set n120.toNat x152).set n132.toNat x154).map encTIface)))]) ⟨⟨rfl, rfl, trivial⟩, ⟨rfl, trivial⟩⟩ (by exact fun S hn h hh => aops_store (encTIface x154) (((((a4.set a1.toNat x111).set a3.toNat x113).set n120.toNat x152).set n132.toNat x154).map encTIface) tS98 wants_none h.1 h.2.1 rfl rfl hh.1 (idx_map encTIface hx159) rfl (map_set encTIface (((a4.set a1.toNat x111).set a3.toNat x113).set n120.toNat x152) _ x154) (aops_nil ⟨rfl, rfl⟩)) rfl .nil)))))))))) (by kernel_rfl) ?_
  refine rn 13 rfl ?_
  refine jK h (fun (p : Int × (List TIface)) => (⟨[(0, (V.own 0 (p.2).length)), (1, (iV a1)), (13, (iV (p.1)))], [(0, (Ob.arr 98 2 ((p.2).map encTIface)))], 1⟩ : St)) (fun k160 (p : Int × (List TIface)) => k160 p.1 p.2 = some r) (fun k160 h => ?_) ?_
  · refine rn 1 rfl ?_
    refine lC (fun (p : Int × Int × (List TIface)) => (⟨[(0, (V.own 0 (p.2.2).length)), (1, (iV a1)), (4, (V.fn (.func 121) [] [(V.iptr [(V.fn (.func 44) [] [])] 0)])), (12, (iV (p.1))), (13, (iV (p.2.1)))], [(0, (Ob.arr 98 2 ((p.2.2).map encTIface)))], 1⟩ : St)) (fun n (p : Int × Int × (List TIface)) => M216_L3 F a1 k160 n p.1 p.2.1 p.2.2 = some r) (fun p h => by simp [M216_L3] at h) F ((w64 (n120 + 1)), (w64 (n132 - 1)), ((((a4.set a1.toNat x111).set a3.toNat x113).set n120.toNat x152).set n132.toNat x154)) h (ghost_ren 1 (fun i => ([0] : List Nat).getD i 0) _ _ (by decide) (EnvSub.get (.cons (Sub.ownE rfl rfl (by simp)) (.cons (Sub.imm (Imm.con _)) (.cons (Sub.imm (Imm.fn .nil (.cons (Imm.iptr _ _) .nil))) (.cons (Sub.imm (Imm.con _)) (.cons (Sub.imm (Imm.con _)) .nil)))))) (HpSub.get (.cons rfl (ObSub.rows (rows_imm imms_encTIface)) .nil)) rfl) (fun n p h => ?_)
    obtain ⟨n166, n167, l168⟩ := p
    unfold M216_L3 at h
    refine jK h (fun (p : Int × Int × (List TIface)) => (⟨[(0, (V.own 0 (p.2.2).length)), (1, (iV a1)), (4, (V.fn (.func 121) [] [(V.iptr [(V.fn (.func 44) [] [])] 0)])), (12, (iV (p.1))), (13, (iV (p.2.1)))], [(0, (Ob.arr 98 2 ((p.2.2).map encTIface)))], 1⟩ : St)) (fun k169 (p : Int × Int × (List TIface)) => k169 p.1 p.2.1 p.2.2 = some r) (fun k169 h => ?_) ?_
    · refine rn 2 rfl ?_
      refine jK h (fun (p : Int) => (⟨[(0, (V.own 0 l168.length)), (1, (iV a1)), (4, (V.fn (.func 121) [] [(V.iptr [(V.fn (.func 44) [] [])] 0)])), (12, (iV p)), (13, (iV n167))], [(0, (Ob.arr 98 2 (l168.map encTIface)))], 1⟩ : St)) (fun k173 (p : Int) => k173 p = some r) (fun k173 h => ?_) ?_
      · refine rn 1 rfl ?_
        refine lC (fun (p : Int) => (⟨[(0, (V.own 0 l168.length)), (1, (iV a1)), (4, (V.fn (.func 121) [] [(V.iptr [(V.fn (.func 44) [] [])] 0)])), (12, (iV p)), (13, (iV n167))], [(0, (Ob.arr 98 2 (l168.map encTIface)))], 1⟩ : St)) (fun n (p : Int) => M216_L4 F a1 n167 l168 k173 n p = some r) (fun p h => by simp [M216_L4] at h) F n166 h (gr [0] rfl (hR rfl rfl .nil) rfl) (fun n n176 h => ?_)
        unfold M216_L4 at h
        refine rn 2 rfl ?_
        refine bs h (fun hb177 h => ?_) (fun hb177 h => ?_)
        · obtain ⟨x178, hx179, h⟩ := bind_some h
          obtain ⟨x180, hx181, h⟩ := bind_some h
          obtain ⟨y182, hx183, h⟩ := bind_some h
          refine dr mixed (vs 3 rfl (vb hb177 rfl (vs 3 rfl (oD (a := l168) hx179 rfl rfl rfl rfl (lD hx179 rfl rfl rfl rfl rfl (vs 2 rfl (oD (a := l168) hx181 rfl rfl rfl rfl (lD hx181 rfl rfl rfl rfl rfl (cD rfl rfl rfl rfl (W121 _ _ _ _ hx183) rfl (vs 2 rfl .nil)))))))))) (by kernel_rfl) ?_
          refine spC h rfl (fun hb184 h => ?_) (fun hb184 h => ?_)
          · refine rn 8 rfl ?_
            exact jX (w64 (n176 + 1)) h (gr [0] rfl (hR rfl rfl .nil) rfl)
          refine rn 1 rfl ?_
          exact jX n176 h (gr [0] rfl (hR rfl rfl .nil) rfl)
        refine dr mixed (vs 3 rfl (vb hb177 rfl (vs 12 rfl .nil))) (by kernel_rfl) ?_
        refine rn 2 rfl ?_
        exact jX n176 h (gr [0] rfl (hR rfl rfl .nil) rfl)
      intro n174 h
      refine rn 1 rfl ?_
      refine jK h (fun (p : Int) => (⟨[(0, (V.own 0 l168.length)), (1, (iV a1)), (4, (V.fn (.func 121) [] [(V.iptr [(V.fn (.func 44) [] [])] 0)])), (12, (iV n174)), (13, (iV p))], [(0, (Ob.arr 98 2 (l168.map encTIface)))], 1⟩ : St)) (fun k185 (p : Int) => k185 p = some r) (fun k185 h => ?_) ?_
      · refine rn 1 rfl ?_
        refine lC (fun (p : Int) => (⟨[(0, (V.own 0 l168.length)), (1, (iV a1)), (4, (V.fn (.func 121) [] [(V.iptr [(V.fn (.func 44) [] [])] 0)])), (12, (iV n174)), (13, (iV p))], [(0, (Ob.arr 98 2 (l168.map encTIface)))], 1⟩ : St)) (fun n (p : Int) => M216_L5 F a1 l168 n174 k185 n p = some r) (fun p h => by simp [M216_L5] at h) F n167 h (gr [0] rfl (hR rfl rfl .nil) rfl) (fun n n188 h => ?_)
        unfold M216_L5 at h
        refine rn 2 rfl ?_
        refine bs h (fun hb189 h => ?_) (fun hb189 h => ?_)
        · obtain ⟨x190, hx191, h⟩ := bind_some h
          obtain ⟨x192, hx193, h⟩ := bind_some h
          obtain ⟨y194, hx195, h⟩ := bind_some h
          refine dr mixed (vs 3 rfl (vb hb189 rfl (vs 3 rfl (oD (a := l168) hx191 rfl rfl rfl rfl (lD hx191 rfl rfl rfl rfl rfl (vs 2 rfl (oD (a := l168) hx193 rfl rfl rfl rfl (lD hx193 rfl rfl rfl rfl rfl (cD rfl rfl rfl rfl (W121 _ _ _ _ hx195) rfl (vs 3 rfl .nil)))))))))) (by kernel_rfl) ?_
          refine spC h rfl (fun hb196 h => ?_) (fun hb196 h => ?_)
          · refine rn 8 rfl ?_
            exact jX (w64 (n188 - 1)) h (gr [0] rfl (hR rfl rfl .nil) rfl)
          refine rn 1 rfl ?_
          exact jX n188 h (gr [0] rfl (hR rfl rfl .nil) rfl)
        refine dr mixed (vs 3 rfl (vb hb189 rfl (vs 13 rfl .nil))) (by kernel_rfl) ?_
        refine rn 2 rfl ?_
        exact jX n188 h (gr [0] rfl (hR rfl rfl .nil) rfl)
      intro n186 h
      refine rn 7 rfl ?_
      refine spC h rfl (fun hb197 h => ?_) (fun hb197 h => ?_)
      · refine rn 1 rfl ?_
        exact jX (n186, l168) h (gr [0] rfl (hR rfl rfl .nil) rfl)
      obtain ⟨x198, hx199, h⟩ := bind_some h
      obtain ⟨x200, hx201, h⟩ := bind_some h
      obtain ⟨x202, hx203, h⟩ := bind_some h
      obtain ⟨x204, hx205, h⟩ := bind_some h
      refine rn 2 rfl ?_
      refine dr mixed (vs 6 rfl (oD (a := l168) hx199 rfl rfl rfl rfl (lD hx199 rfl rfl rfl rfl rfl (vs 2 rfl (oD (a := l168) hx201 rfl rfl rfl rfl (lD hx201 rfl rfl rfl rfl rfl (oD (a := l168) hx203 rfl rfl rfl rfl (xD (OD.mk [(157, (V.ptr 0 2 n174.toNat 0)), (152, (V.agg (encTIface x198)))] [(0, (Ob.arr 98 2 (l168.map encTIface)))] [] [(0, (Ob.arr 98 2 ((l168.set n174.toNat x198).map encTIface)))]) ⟨⟨rfl, rfl, trivial⟩, ⟨rfl, trivial⟩⟩ (by exact fun S hn h hh => aops_store (encTIface x198) ((l168.set n174.toNat x198).map encTIface) tS98 wants_none h.1 h.2.1 rfl rfl hh.1 (idx_map encTIface hx203) rfl (map_set encTIface l168 _ x198) (aops_nil ⟨rfl, rfl⟩)) rfl (xD (OD.mk [(147, (V.own 0 l168.length)), (148, (iV n186))] [] [(158, (V.ptr 0 2 n186.toNat 0))] []) ⟨⟨rfl, rfl, trivial⟩, trivial⟩ (by exact fun S hn h hh => aops_index_own tSl22 wants_none h.1 h.2.1 (idx_some hx205).1 (by simpa using idx_lt hx205) rfl (aops_nil ⟨rfl, rfl⟩)) rfl (xD (OD.mk [(158, (V.ptr 0 2 n186.toNat 0)), (156, (V.agg (encTIface x200)))] [(0, (Ob.arr 98 2 ((l168.set n174.toNat x198).map encTIface)))] [] [(0, (Ob.arr 98 2 (((l168.set n174.toNat x198).set n186.toNat x200).map encTIface)))]) ⟨⟨rfl, rfl, trivial⟩, ⟨rfl, trivial⟩⟩ (by exact fun S hn h hh => aops_store (encTIface x200) (((l168.set n174.toNat x198).set n186.toNat x200).map encTIface) tS98 wants_none h.1 h.2.1 rfl rfl hh.1 (idx_map encTIface hx205) rfl (map_set encTIface (l168.set n174.toNat x198) _ x200) (aops_nil ⟨rfl, rfl⟩)) rfl .nil)))))))))) (by kernel_rfl) ?_
      refine rn 12 rfl ?_
      exact jX ((w64 (n174 + 1)), (w64 (n186 - 1)), ((l168.set n174.toNat x198).set n186.toNat x200)) h (ghost_ren 1 (fun i => ([0] : List Nat).getD i 0) _ _ (by decide) (EnvSub.get (.cons (Sub.ownE rfl rfl (by simp)) (.cons (Sub.imm (Imm.con _)) (.cons (Sub.imm (Imm.fn .nil (.cons (Imm.iptr _ _) .nil))) (.cons (Sub.imm (Imm.con _)) (.cons (Sub.imm (Imm.con _)) .nil)))))) (HpSub.get (.cons rfl (ObSub.rows (rows_imm imms_encTIface)) .nil)) rfl)
    rintro ⟨n170, n171, l172⟩ h
    exact jX (n170, n171, l172) h (gr [0] rfl (hR rfl rfl .nil) rfl)
  rintro ⟨n161, l162⟩ h
  obtain ⟨x206, hx207, h⟩ := bind_some h
  obtain ⟨x208, hx209, h⟩ := bind_some h
  obtain ⟨x210, hx211, h⟩ := bind_some h
  obtain ⟨x212, hx213, h⟩ := bind_some h
  refine rn 1 rfl ?_
  refine dr mixed (vs 6 rfl (oD (a := l162) hx207 rfl rfl rfl rfl (lD hx207 rfl rfl rfl rfl rfl (vs 2 rfl (oD (a := l162) hx209 rfl rfl rfl rfl (lD hx209 rfl rfl rfl rfl rfl (oD (a := l162) hx211 rfl rfl rfl rfl (xD (OD.mk [(175, (V.ptr 0 2 n161.toNat 0)), (170, (V.agg (encTIface x206)))] [(0, (Ob.arr 98 2 (l162.map encTIface)))] [] [(0, (Ob.arr 98 2 ((l162.set n161.toNat x206).map encTIface)))]) ⟨⟨rfl, rfl, trivial⟩, ⟨rfl, trivial⟩⟩ (by exact fun S hn h hh => aops_store (encTIface x206) ((l162.set n161.toNat x206).map encTIface) tS98 wants_none h.1 h.2.1 rfl rfl hh.1 (idx_map encTIface hx211) rfl (map_set encTIface l162 _ x206) (aops_nil ⟨rfl, rfl⟩)) rfl (xD (OD.mk [(165, (V.own 0 l162.length)), (166, (iV a1))] [] [(176, (V.ptr 0 2 a1.toNat 0))] []) ⟨⟨rfl, rfl, trivial⟩, trivial⟩ (by exact fun S hn h hh => aops_index_own tSl22 wants_none h.1 h.2.1 (idx_some hx213).1 (by simpa using idx_lt hx213) rfl (aops_nil ⟨rfl, rfl⟩)) rfl (xD (OD.mk [(176, (V.ptr 0 2 a1.toNat 0)), (174, (V.agg (encTIface x208)))] [(0, (Ob.arr 98 2 ((l162.set n161.toNat x206).map encTIface)))] [] [(0, (Ob.arr 98 2 (((l162.set n161.toNat x206).set a1.toNat x208).map encTIface)))]) ⟨⟨rfl, rfl, trivial⟩, ⟨rfl, trivial⟩⟩ (by exact fun S hn h hh => aops_store (encTIface x208) (((l162.set n161.toNat x206).set a1.toNat x208).map encTIface) tS98 wants_none h.1 h.2.1 rfl rfl hh.1 (idx_map encTIface hx213) rfl (map_set encTIface (l162.set n161.toNat x206) _ x208) (aops_nil ⟨rfl, rfl⟩)) rfl .nil)))))))))) (by kernel_rfl) ?_
  refine rn 6 rfl ?_
  replace h := Option.some.inj h
  subst h
  exact wR ⟨.inl rfl, [(10, (iV n161)), (11, (bV false))], (gr [0] rfl (hR rfl rfl .nil) rfl), (.cons (.tmp rfl) (.cons (.tmp rfl) .nil))⟩
theorem W234 (F : Nat) (a1 : Int) (r : Int) (h : M234 F a1 = some r) : Pure Tryz.prog 234 [(iV a1)] (V.con (.int .u64 r)) := by
  refine pin (fun r => (V.con (.int .u64 r))) r rfl Tryz.func234 rfl rfl rfl rfl rfl (fun w0 m0 hg => ?_)
  unfold M234 at h
  refine rn 8 rfl ?_
  refine cl h rfl rfl rfl (W135 _ _) rfl (fun y2 hx3 h => ?_)
  refine ck h (fun hc4 h => ?_)
  refine aops_bin (.int .u64 (IntKind.wrap .u64 (1 * 2 ^ (min (Int.toNat y2) (IntKind.bits .u64))))) wants_none rfl rfl (binS_shl hc4) rfl ?_
  refine fo (rn 2 rfl ?_)
  exact rt h rfl
theorem W235 (F : Nat) (a1 : Int) (r : Unit) (h : M235 F a1 = some r) : Mut Tryz.prog 235 [(V.ptr 0 1 0 0)] 1 [(0, (Ob.arr 332 1 [[(V.con (.int .u64 a1))]]))] (resV [(V.con (.int .u64 (IntKind.wrap .u64 ((BitVec.ofInt (IntKind.bits .u64) (IntKind.wrap .u64 ((BitVec.ofInt (IntKind.bits .u64) (IntKind.wrap .u64 ((BitVec.ofInt (IntKind.bits .u64) a1 ^^^ BitVec.ofInt (IntKind.bits .u64) (IntKind.wrap .u64 (a1 * 2 ^ (min (Int.toNat 13) (IntKind.bits .u64))))).toNat : Int)) ^^^ BitVec.ofInt (IntKind.bits .u64) (Int.fdiv (IntKind.wrap .u64 ((BitVec.ofInt (IntKind.bits .u64) a1 ^^^ BitVec.ofInt (IntKind.bits .u64) (IntKind.wrap .u64 (a1 * 2 ^ (min (Int.toNat 13) (IntKind.bits .u64))))).toNat : Int)) (2 ^ (min (Int.toNat 7) (IntKind.bits .u64))))).toNat : Int)) ^^^ BitVec.ofInt (IntKind.bits .u64) (IntKind.wrap .u64 ((IntKind.wrap .u64 ((BitVec.ofInt (IntKind.bits .u64) (IntKind.wrap .u64 ((BitVec.ofInt (IntKind.bits .u64) a1 ^^^ BitVec.ofInt (IntKind.bits .u64) (IntKind.wrap .u64 (a1 * 2 ^ (min (Int.toNat 13) (IntKind.bits .u64))))).toNat : Int)) ^^^ BitVec.ofInt (IntKind.bits .u64) (Int.fdiv (IntKind.wrap .u64 ((BitVec.ofInt (IntKind.bits .u64) a1 ^^^ BitVec.ofInt (IntKind.bits .u64) (IntKind.wrap .u64 (a1 * 2 ^ (min (Int.toNat 13) (IntKind.bits .u64))))).toNat : Int)) (2 ^ (min (Int.toNat 7) (IntKind.bits .u64))))).toNat : Int)) * 2 ^ (min (Int.toNat 17) (IntKind.bits .u64))))).toNat : Int))))]) 1 [(0, (Ob.arr 332 1 [[(V.con (.int .u64 (IntKind.wrap .u64 ((BitVec.ofInt (IntKind.bits .u64) (IntKind.wrap .u64 ((BitVec.ofInt (IntKind.bits .u64) (IntKind.wrap .u64 ((BitVec.ofInt (IntKind.bits .u64) a1 ^^^ BitVec.ofInt (IntKind.bits .u64) (IntKind.wrap .u64 (a1 * 2 ^ (min (Int.toNat 13) (IntKind.bits .u64))))).toNat : Int)) ^^^ BitVec.ofInt (IntKind.bits .u64) (Int.fdiv (IntKind.wrap .u64 ((BitVec.ofInt (IntKind.bits .u64) a1 ^^^ BitVec.ofInt (IntKind.bits .u64) (IntKind.wrap .u64 (a1 * 2 ^ (min (Int.toNat 13) (IntKind.bits .u64))))).toNat : Int)) (2 ^ (min (Int.toNat 7) (IntKind.bits .u64))))).toNat : Int)) ^^^ BitVec.ofInt (IntKind.bits .u64) (IntKind.wrap .u64 ((IntKind.wrap .u64 ((BitVec.ofInt (IntKind.bits .u64) (IntKind.wrap .u64 ((BitVec.ofInt (IntKind.bits .u64) a1 ^^^ BitVec.ofInt (IntKind.bits .u64) (IntKind.wrap .u64 (a1 * 2 ^ (min (Int.toNat 13) (IntKind.bits .u64))))).toNat : Int)) ^^^ BitVec.ofInt (IntKind.bits .u64) (Int.fdiv (IntKind.wrap .u64 ((BitVec.ofInt (IntKind.bits .u64) a1 ^^^ BitVec.ofInt (IntKind.bits .u64) (IntKind.wrap .u64 (a1 * 2 ^ (min (Int.toNat 13) (IntKind.bits .u64))))).toNat : Int)) (2 ^ (min (Int.toNat 7) (IntKind.bits .u64))))).toNat : Int)) * 2 ^ (min (Int.toNat 17) (IntKind.bits .u64))))).toNat : Int))))]]))] := by
  refine mut_enter Tryz.func235 rfl rfl (l := [.tmp 2]) rfl rfl [(0, (V.ptr 0 1 0 0))] rfl (fun w0 m0 β0 hg => en ?_)
  unfold M235 at h
  refine rn 5 rfl ?_
  refine dr mixed (vs 10 rfl .nil) (by kernel_rfl) ?_
  refine rn 1 rfl ?_
  refine dr mixed (vs 10 rfl .nil) (by kernel_rfl) ?_
  refine rn 1 rfl ?_
  refine dr mixed (vs 10 rfl .nil) (by kernel_rfl) ?_
  refine rn 7 rfl ?_
  replace h := Option.some.inj h
  subst h
  exact wR ⟨.inl rfl, [(2, (V.con (.int .u64 (IntKind.wrap .u64 ((BitVec.ofInt (IntKind.bits .u64) (IntKind.wrap .u64 ((BitVec.ofInt (IntKind.bits .u64) (IntKind.wrap .u64 ((BitVec.ofInt (IntKind.bits .u64) a1 ^^^ BitVec.ofInt (IntKind.bits .u64) (IntKind.wrap .u64 (a1 * 2 ^ (min (Int.toNat 13) (IntKind.bits .u64))))).toNat : Int)) ^^^ BitVec.ofInt (IntKind.bits .u64) (Int.fdiv (IntKind.wrap .u64 ((BitVec.ofInt (IntKind.bits .u64) a1 ^^^ BitVec.ofInt (IntKind.bits .u64) (IntKind.wrap .u64 (a1 * 2 ^ (min (Int.toNat 13) (IntKind.bits .u64))))).toNat : Int)) (2 ^ (min (Int.toNat 7) (IntKind.bits .u64))))).toNat : Int)) ^^^ BitVec.ofInt (IntKind.bits .u64) (IntKind.wrap .u64 ((IntKind.wrap .u64 ((BitVec.ofInt (IntKind.bits .u64) (IntKind.wrap .u64 ((BitVec.ofInt (IntKind.bits .u64) a1 ^^^ BitVec.ofInt (IntKind.bits .u64) (IntKind.wrap .u64 (a1 * 2 ^ (min (Int.toNat 13) (IntKind.bits .u64))))).toNat : Int)) ^^^ BitVec.ofInt (IntKind.bits .u64) (Int.fdiv (IntKind.wrap .u64 ((BitVec.ofInt (IntKind.bits .u64) a1 ^^^ BitVec.ofInt (IntKind.bits .u64) (IntKind.wrap .u64 (a1 * 2 ^ (min (Int.toNat 13) (IntKind.bits .u64))))).toNat : Int)) (2 ^ (min (Int.toNat 7) (IntKind.bits .u64))))).toNat : Int)) * 2 ^ (min (Int.toNat 17) (IntKind.bits .u64))))).toNat : Int)))))], (gr [0] rfl (hB rfl rfl rfl .nil) rfl), (.cons (.tmp rfl) .nil)⟩
theorem W211 (F : Nat) (a1 : Int) (a2 : Int) (a3 : List TIface) (r : (List TIface)) (h : M211 F a1 a2 a3 = some r) : Mut Tryz.prog 211 [(V.own 0 a3.length), (iV a1), (iV a2), (V.fn (.func 121) [] [(V.iptr [(V.fn (.func 44) [] [])] 0)])] 1 [(0, (Ob.arr 98 2 (a3.map encTIface)))] (resV []) 1 [(0, (Ob.arr 98 2 (r.map encTIface)))] := by
  refine mut_enter Tryz.func211 rfl rfl (l := []) rfl rfl [(0, (V.own 0 a3.length)), (1, (iV a1)), (2, (iV a2)), (3, (V.fn (.func 121) [] [(V.iptr [(V.fn (.func 44) [] [])] 0)]))] rfl (fun w0 m0 β0 hg => en ?_)
  unfold M211 at h
  refine rn 12 rfl ?_
  refine spC h rfl (fun hb28 h => ?_) (fun hb28 h => ?_)
  · refine rn 10 rfl ?_
    refine cl h rfl rfl rfl (W234 _ _) rfl (fun y29 hx30 h => ?_)
    refine rn 13 rfl ?_
    refine lC (fun (p : Int × (List TIface) × Int) => (⟨[(0, (V.own 0 (p.2.1).length)), (1, (iV a1)), (8, (iV (w64 (a2 - a1)))), (9, (V.ptr 1 1 0 0)), (10, (V.con (.int .u64 y29))), (11, (iV (p.1)))], [(0, (Ob.arr 98 2 ((p.2.1).map encTIface))), (1, (Ob.arr 332 1 [[(V.con (.int .u64 (p.2.2)))]]))], 2⟩ : St)) (fun n (p : Int × (List TIface) × Int) => M211_L1 F a1 a2 y29 n p.1 p.2.1 p.2.2 = some r) (fun p h => by simp [M211_L1] at h) F ((w64 ((w64 (a1 + (w64 ((w64 (Int.tdiv (w64 (a2 - a1)) 4)) * 2)))) - 1)), a3, (IntKind.wrap .u64 (w64 (a2 - a1)))) h (gr [0, 1] rfl (hR rfl rfl (hB rfl rfl rfl .nil)) rfl) (fun n p h => ?_)
    obtain ⟨n34, l35, n36⟩ := p
    unfold M211_L1 at h
    refine rn 12 rfl ?_
    refine spC h rfl (fun hb37 h => ?_) (fun hb37 h => ?_)
    · obtain ⟨y38, hx39, h⟩ := bind_some h
      refine rn 5 rfl ?_
      refine aops_mcallS (V.con (.int .u64 (IntKind.wrap .u64 ((BitVec.ofInt (IntKind.bits .u64) (IntKind.wrap .u64 ((BitVec.ofInt (IntKind.bits .u64) (IntKind.wrap .u64 ((BitVec.ofInt (IntKind.bits .u64) n36 ^^^ BitVec.ofInt (IntKind.bits .u64) (IntKind.wrap .u64 (n36 * 2 ^ (min (Int.toNat 13) (IntKind.bits .u64))))).toNat : Int)) ^^^ BitVec.ofInt (IntKind.bits .u64) (Int.fdiv (IntKind.wrap .u64 ((BitVec.ofInt (IntKind.bits .u64) n36 ^^^ BitVec.ofInt (IntKind.bits .u64) (IntKind.wrap .u64 (n36 * 2 ^ (min (Int.toNat 13) (IntKind.bits .u64))))).toNat : Int)) (2 ^ (min (Int.toNat 7) (IntKind.bits .u64))))).toNat : Int)) ^^^ BitVec.ofInt (IntKind.bits .u64) (IntKind.wrap .u64 ((IntKind.wrap .u64 ((BitVec.ofInt (IntKind.bits .u64) (IntKind.wrap .u64 ((BitVec.ofInt (IntKind.bits .u64) n36 ^^^ BitVec.ofInt (IntKind.bits .u64) (IntKind.wrap .u64 (n36 * 2 ^ (min (Int.toNat 13) (IntKind.bits .u64))))).toNat : Int)) ^^^ BitVec.ofInt (IntKind.bits .u64) (Int.fdiv (IntKind.wrap .u64 ((BitVec.ofInt (IntKind.bits .u64) n36 ^^^ BitVec.ofInt (IntKind.bits .u64) (IntKind.wrap .u64 (n36 * 2 ^ (min (Int.toNat 13) (IntKind.bits .u64))))).toNat : Int)) (2 ^ (min (Int.toNat 7) (IntKind.bits .u64))))).toNat : Int)) * 2 ^ (min (Int.toNat 17) (IntKind.bits .u64))))).toNat : Int)))) [(V.ptr 1 1 0 0)] (fun i => ([1] : List Nat).getD i 0) (fun i => ([1] : List Nat).getD i 0) 2 2 [(1, (Ob.arr 332 1 [[(V.con (.int .u64 (IntKind.wrap .u64 ((BitVec.ofInt (IntKind.bits .u64) (IntKind.wrap .u64 ((BitVec.ofInt (IntKind.bits .u64) (IntKind.wrap .u64 ((BitVec.ofInt (IntKind.bits .u64) n36 ^^^ BitVec.ofInt (IntKind.bits .u64) (IntKind.wrap .u64 (n36 * 2 ^ (min (Int.toNat 13) (IntKind.bits .u64))))).toNat : Int)) ^^^ BitVec.ofInt (IntKind.bits .u64) (Int.fdiv (IntKind.wrap .u64 ((BitVec.ofInt (IntKind.bits .u64) n36 ^^^ BitVec.ofInt (IntKind.bits .u64) (IntKind.wrap .u64 (n36 * 2 ^ (min (Int.toNat 13) (IntKind.bits .u64))))).toNat : Int)) (2 ^ (min (Int.toNat 7) (IntKind.bits .u64))))).toNat : Int)) ^^^ BitVec.ofInt (IntKind.bits .u64) (IntKind.wrap .u64 ((IntKind.wrap .u64 ((BitVec.ofInt (IntKind.bits .u64) (IntKind.wrap .u64 ((BitVec.ofInt (IntKind.bits .u64) n36 ^^^ BitVec.ofInt (IntKind.bits .u64) (IntKind.wrap .u64 (n36 * 2 ^ (min (Int.toNat 13) (IntKind.bits .u64))))).toNat : Int)) ^^^ BitVec.ofInt (IntKind.bits .u64) (Int.fdiv (IntKind.wrap .u64 ((BitVec.ofInt (IntKind.bits .u64) n36 ^^^ BitVec.ofInt (IntKind.bits .u64) (IntKind.wrap .u64 (n36 * 2 ^ (min (Int.toNat 13) (IntKind.bits .u64))))).toNat : Int)) (2 ^ (min (Int.toNat 7) (IntKind.bits .u64))))).toNat : Int)) * 2 ^ (min (Int.toNat 17) (IntKind.bits .u64))))).toNat : Int))))]]))] fOk235 wants_none rfl (evm_cons rfl evm_nil) (.cons (Sub.ptr rfl rfl) .nil) (.cons rfl (ObSub.box (.cons (Sub.imm (Imm.con _)) .nil)) .nil) (W235 F n36 y38 hx39) rfl rfl rfl rfl (Sub.immT (Imm.con _)) (.cons rfl (ObSub.box (.cons (Sub.immT (Imm.con _)) .nil)) .nil) _ rfl ?_
      refine fo (rn 13 rfl ?_)
      refine jK h (fun (p : Int) => (⟨[(0, (V.own 0 l35.length)), (1, (iV a1)), (8, (iV (w64 (a2 - a1)))), (9, (V.ptr 1 1 0 0)), (10, (V.con (.int .u64 y29))), (11, (iV n34)), (12, (iV p))], [(0, (Ob.arr 98 2 (l35.map encTIface))), (1, (Ob.arr 332 1 [[(V.con (.int .u64 (IntKind.wrap .u64 ((BitVec.ofInt (IntKind.bits .u64) (IntKind.wrap .u64 ((BitVec.ofInt (IntKind.bits .u64) (IntKind.wrap .u64 ((BitVec.ofInt (IntKind.bits .u64) n36 ^^^ BitVec.ofInt (IntKind.bits .u64) (IntKind.wrap .u64 (n36 * 2 ^ (min (Int.toNat 13) (IntKind.bits .u64))))).toNat : Int)) ^^^ BitVec.ofInt (IntKind.bits .u64) (Int.fdiv (IntKind.wrap .u64 ((BitVec.ofInt (IntKind.bits .u64) n36 ^^^ BitVec.ofInt (IntKind.bits .u64) (IntKind.wrap .u64 (n36 * 2 ^ (min (Int.toNat 13) (IntKind.bits .u64))))).toNat : Int)) (2 ^ (min (Int.toNat 7) (IntKind.bits .u64))))).toNat : Int)) ^^^ BitVec.ofInt (IntKind.bits .u64) (IntKind.wrap .u64 ((IntKind.wrap .u64 ((BitVec.ofInt (IntKind.bits .u64) (IntKind.wrap .u64 ((BitVec.ofInt (IntKind.bits .u64) n36 ^^^ BitVec.ofInt (IntKind.bits .u64) (IntKind.wrap .u64 (n36 * 2 ^ (min (Int.toNat 13) (IntKind.bits .u64))))).toNat : Int)) ^^^ BitVec.ofInt (IntKind.bits .u64) (Int.fdiv (IntKind.wrap .u64 ((BitVec.ofInt (IntKind.bits .u64) n36 ^^^ BitVec.ofInt (IntKind.bits .u64) (IntKind.wrap .u64 (n36 * 2 ^ (min (Int.toNat 13) (IntKind.bits .u64))))).toNat : Int)) (2 ^ (min (Int.toNat 7) (IntKind.bits .u64))))).toNat : Int)) * 2 ^ (min (Int.toNat 17) (IntKind.bits .u64))))).toNat : Int))))]]))], 2⟩ : St)) (fun k40 (p : Int) => k40 p = some r) (fun k40 h => ?_) ?_
      · refine spC h rfl (fun hb42 h => ?_) (fun hb42 h => ?_)
        · refine rn 6 rfl ?_
          exact jX (w64 ((w64 (IntKind.wrap .u64 ((BitVec.ofInt (IntKind.bits .u64) (IntKind.wrap .u64 ((BitVec.ofInt (IntKind.bits .u64) (IntKind.wrap .u64 ((BitVec.ofInt (IntKind.bits .u64) (IntKind.wrap .u64 ((BitVec.ofInt (IntKind.bits .u64) n36 ^^^ BitVec.ofInt (IntKind.bits .u64) (IntKind.wrap .u64 (n36 * 2 ^ (min (Int.toNat 13) (IntKind.bits .u64))))).toNat : Int)) ^^^ BitVec.ofInt (IntKind.bits .u64) (Int.fdiv (IntKind.wrap .u64 ((BitVec.ofInt (IntKind.bits .u64) n36 ^^^ BitVec.ofInt (IntKind.bits .u64) (IntKind.wrap .u64 (n36 * 2 ^ (min (Int.toNat 13) (IntKind.bits .u64))))).toNat : Int)) (2 ^ (min (Int.toNat 7) (IntKind.bits .u64))))).toNat : Int)) ^^^ BitVec.ofInt (IntKind.bits .u64) (IntKind.wrap .u64 ((IntKind.wrap .u64 ((BitVec.ofInt (IntKind.bits .u64) (IntKind.wrap .u64 ((BitVec.ofInt (IntKind.bits .u64) n36 ^^^ BitVec.ofInt (IntKind.bits .u64) (IntKind.wrap .u64 (n36 * 2 ^ (min (Int.toNat 13) (IntKind.bits .u64))))).toNat : Int)) ^^^ BitVec.ofInt (IntKind.bits .u64) (Int.fdiv (IntKind.wrap .u64 ((BitVec.ofInt (IntKind.bits .u64) n36 ^^^ BitVec.ofInt (IntKind.bits .u64) (IntKind.wrap .u64 (n36 * 2 ^ (min (Int.toNat 13) (IntKind.bits .u64))))).toNat : Int)) (2 ^ (min (Int.toNat 7) (IntKind.bits .u64))))).toNat : Int)) * 2 ^ (min (Int.toNat 17) (IntKind.bits .u64))))).toNat : Int)) &&& BitVec.ofInt (IntKind.bits .u64) (IntKind.wrap .u64 (y29 - 1))).toNat : Int))) - (w64 (a2 - a1)))) h (gr [0, 1] rfl (hR rfl rfl (hB rfl rfl rfl .nil)) rfl)
        refine rn 1 rfl ?_
        exact jX (w64 (IntKind.wrap .u64 ((BitVec.ofInt (IntKind.bits .u64) (IntKind.wrap .u64 ((BitVec.ofInt (IntKind.bits .u64) (IntKind.wrap .u64 ((BitVec.ofInt (IntKind.bits .u64) (IntKind.wrap .u64 ((BitVec.ofInt (IntKind.bits .u64) n36 ^^^ BitVec.ofInt (IntKind.bits .u64) (IntKind.wrap .u64 (n36 * 2 ^ (min (Int.toNat 13) (IntKind.bits .u64))))).toNat : Int)) ^^^ BitVec.ofInt (IntKind.bits .u64) (Int.fdiv (IntKind.wrap .u64 ((BitVec.ofInt (IntKind.bits .u64) n36 ^^^ BitVec.ofInt (IntKind.bits .u64) (IntKind.wrap .u64 (n36 * 2 ^ (min (Int.toNat 13) (IntKind.bits .u64))))).toNat : Int)) (2 ^ (min (Int.toNat 7) (IntKind.bits .u64))))).toNat : Int)) ^^^ BitVec.ofInt (IntKind.bits .u64) (IntKind.wrap .u64 ((IntKind.wrap .u64 ((BitVec.ofInt (IntKind.bits .u64) (IntKind.wrap .u64 ((BitVec.ofInt (IntKind.bits .u64) n36 ^^^ BitVec.ofInt (IntKind.bits .u64) (IntKind.wrap .u64 (n36 * 2 ^ (min (Int.toNat 13) (IntKind.bits .u64))))).toNat : Int)) ^^^ BitVec.ofInt (IntKind.bits .u64) (Int.fdiv (IntKind.wrap .u64 ((BitVec.ofInt (IntKind.bits .u64) n36 ^^^ BitVec.ofInt (IntKind.bits .u64) (IntKind.wrap .u64 (n36 * 2 ^ (min (Int.toNat 13) (IntKind.bits .u64))))).toNat : Int)) (2 ^ (min (Int.toNat 7) (IntKind.bits .u64))))).toNat : Int)) * 2 ^ (min (Int.toNat 17) (IntKind.bits .u64))))).toNat : Int)) &&& BitVec.ofInt (IntKind.bits .u64) (IntKind.wrap .u64 (y29 - 1))).toNat : Int))) h (gr [0, 1] rfl (hR rfl rfl (hB rfl rfl rfl .nil)) rfl)
      intro n41 h
      obtain ⟨x43, hx44, h⟩ := bind_some h
      obtain ⟨x45, hx46, h⟩ := bind_some h
      obtain ⟨x47, hx48, h⟩ := bind_some h
      obtain ⟨x49, hx50, h⟩ := bind_some h
      refine dr mixed (vs 10 rfl (oD (a := l35) hx44 rfl rfl rfl rfl (lD hx44 rfl rfl rfl rfl rfl (vs 2 rfl (oD (a := l35) hx46 rfl rfl rfl rfl (lD hx46 rfl rfl rfl rfl rfl (oD (a := l35) hx48 rfl rfl rfl rfl (xD (OD.mk [(65, (V.ptr 0 2 n34.toNat 0)), (60, (V.agg (encTIface x43)))] [(0, (Ob.arr 98 2 (l35.map encTIface)))] [] [(0, (Ob.arr 98 2 ((l35.set n34.toNat x43).map encTIface)))]) ⟨⟨rfl, rfl, trivial⟩, ⟨rfl, trivial⟩⟩ (by exact fun S hn h hh => aops_store (encTIface x43) ((l35.set n34.toNat x43).map encTIface) tS98 wants_none h.1 h.2.1 rfl rfl hh.1 (idx_map encTIface hx48) rfl (map_set encTIface l35 _ x43) (aops_nil ⟨rfl, rfl⟩)) rfl (xD (OD.mk [(51, (V.own 0 l35.length)), (54, (iV (w64 (a1 + n41))))] [] [(66, (V.ptr 0 2 (w64 (a1 + n41)).toNat 0))] []) ⟨⟨rfl, rfl, trivial⟩, trivial⟩ (by exact fun S hn h hh => aops_index_own tSl22 wants_none h.1 h.2.1 (idx_some hx50).1 (by simpa using idx_lt hx50) rfl (aops_nil ⟨rfl, rfl⟩)) rfl (xD (OD.mk [(66, (V.ptr 0 2 (w64 (a1 + n41)).toNat 0)), (64, (V.agg (encTIface x45)))] [(0, (Ob.arr 98 2 ((l35.set n34.toNat x43).map encTIface)))] [] [(0, (Ob.arr 98 2 (((l35.set n34.toNat x43).set (w64 (a1 + n41)).toNat x45).map encTIface)))]) ⟨⟨rfl, rfl, trivial⟩, ⟨rfl, trivial⟩⟩ (by exact fun S hn h hh => aops_store (encTIface x45) (((l35.set n34.toNat x43).set (w64 (a1 + n41)).toNat x45).map encTIface) tS98 wants_none h.1 h.2.1 rfl rfl hh.1 (idx_map encTIface hx50) rfl (map_set encTIface (l35.set n34.toNat x43) _ x45) (aops_nil ⟨rfl, rfl⟩)) rfl .nil)))))))))) (by kernel_rfl) ?_
      refine rn 6 rfl ?_
      exact jX ((w64 (n34 + 1)), ((l35.set n34.toNat x43).set (w64 (a1 + n41)).toNat x45), (IntKind.wrap .u64 ((BitVec.ofInt (IntKind.bits .u64) (IntKind.wrap .u64 ((BitVec.ofInt (IntKind.bits .u64) (IntKind.wrap .u64 ((BitVec.ofInt (IntKind.bits .u64) n36 ^^^ BitVec.ofInt (IntKind.bits .u64) (IntKind.wrap .u64 (n36 * 2 ^ (min (Int.toNat 13) (IntKind.bits .u64))))).toNat : Int)) ^^^ BitVec.ofInt (IntKind.bits .u64) (Int.fdiv (IntKind.wrap .u64 ((BitVec.ofInt (IntKind.bits .u64) n36 ^^^ BitVec.ofInt (IntKind.bits .u64) (IntKind.wrap .u64 (n36 * 2 ^ (min (Int.toNat 13) (IntKind.bits .u64))))).toNat : Int)) (2 ^ (min (Int.toNat 7) (IntKind.bits .u64))))).toNat : Int)) ^^^ BitVec.ofInt (IntKind.bits .u64) (IntKind.wrap .u64 ((IntKind.wrap .u64 ((BitVec.ofInt (IntKind.bits .u64) (IntKind.wrap .u64 ((BitVec.ofInt (IntKind.bits .u64) n36 ^^^ BitVec.ofInt (IntKind.bits .u64) (IntKind.wrap .u64 (n36 * 2 ^ (min (Int.toNat 13) (IntKind.bits .u64))))).toNat : Int)) ^^^ BitVec.ofInt (IntKind.bits .u64) (Int.fdiv (IntKind.wrap .u64 ((BitVec.ofInt (IntKind.bits .u64) n36 ^^^ BitVec.ofInt (IntKind.bits .u64) (IntKind.wrap .u64 (n36 * 2 ^ (min (Int.toNat 13) (IntKind.bits .u64))))).toNat : Int)) (2 ^ (min (Int.toNat 7) (IntKind.bits .u64))))).toNat : Int)) * 2 ^ (min (Int.toNat 17) (IntKind.bits .u64))))).toNat : Int))) h (ghost_ren 2 (fun i => ([0, 1] : List Nat).getD i 0) _ _ (by decide) (EnvSub.get (.cons (Sub.ownE rfl rfl (by simp)) (.cons (Sub.imm (Imm.con _)) (.cons (Sub.imm (Imm.con _)) (.cons (Sub.ptr rfl rfl) (.cons (Sub.imm (Imm.con _)) (.cons (Sub.imm (Imm.con _)) .nil))))))) (HpSub.get (.cons rfl (ObSub.rows (rows_imm imms_encTIface)) (.cons rfl (ObSub.box (.cons (Sub.imm (Imm.con _)) .nil)) .nil))) rfl)
    refine rn 1 rfl ?_
    replace h := Option.some.inj h
    subst h
    exact wE ⟨.inr rfl, [], (gr [0] rfl (hR rfl rfl .nil) rfl), .nil⟩
  refine rn 1 rfl ?_
  replace h := Option.some.inj h
  subst h
  exact wE ⟨.inr rfl, [], (gr [0] rfl (hR rfl rfl .nil) rfl), .nil⟩
theorem W171_B (R171 : Int → Int → Int → (List TIface) → Option (List TIface)) (hR171 : ∀ (a1 : Int) (a2 : Int) (a3 : Int) (a4 : List TIface) (r : (List TIface)), R171 a1 a2 a3 a4 = some r → Mut Tryz.prog 171 [(V.own 0 a4.length), (iV a1), (iV a2), (iV a3), (V.fn (.func 121) [] [(V.iptr [(V.fn (.func 44) [] [])] 0)])] 1 [(0, (Ob.arr 98 2 (a4.map encTIface)))] (resV []) 1 [(0, (Ob.arr 98 2 (r.map encTIface)))]) (F : Nat) (a1 : Int) (a2 : Int) (a3 : Int) (a4 : List TIface) (r : (List TIface)) (h : M171_B R171 F a1 a2 a3 a4 = some r) : Mut Tryz.prog 171 [(V.own 0 a4.length), (iV a1), (iV a2), (iV a3), (V.fn (.func 121) [] [(V.iptr [(V.fn (.func 44) [] [])] 0)])] 1 [(0, (Ob.arr 98 2 (a4.map encTIface)))] (resV []) 1 [(0, (Ob.arr 98 2 (r.map encTIface)))] := by
  refine mut_enter Tryz.func171 rfl rfl (l := []) rfl rfl [(0, (V.own 0 a4.length)), (1, (iV a1)), (2, (iV a2)), (3, (iV a3)), (4, (V.fn (.func 121) [] [(V.iptr [(V.fn (.func 44) [] [])] 0)]))] rfl (fun w0 m0 β0 hg => en ?_)
  unfold M171_B at h
  refine rn 9 rfl ?_
  refine lC (fun (p : Int × Int × Int × Bool × Bool × (List TIface)) => (⟨[(0, (V.own 0 (p.2.2.2.2.2).length)), (1, (iV (p.1))), (2, (iV (p.2.1))), (3, (iV (p.2.2.1))), (4, (V.fn (.func 121) [] [(V.iptr [(V.fn (.func 44) [] [])] 0)])), (10, (bV (p.2.2.2.1))), (11, (bV (p.2.2.2.2.1)))], [(0, (Ob.arr 98 2 ((p.2.2.2.2.2).map encTIface)))], 1⟩ : St)) (fun n (p : Int × Int × Int × Bool × Bool × (List TIface)) => M171_L1 R171 F n p.1 p.2.1 p.2.2.1 p.2.2.2.1 p.2.2.2.2.1 p.2.2.2.2.2 = some r) (fun p h => by simp [M171_L1] at h) F (a1, a2, a3, true, true, a4) h (gr [0] rfl (hR rfl rfl .nil) rfl) (fun n p h => ?_)
  obtain ⟨n191, n192, n193, b194, b195, l196⟩ := p
  unfold M171_L1 at h
  refine rn 14 rfl ?_
  refine spC h rfl (fun hb197 h => ?_) (fun hb197 h => ?_)
  · obtain ⟨y198, hx199, h⟩ := bind_some h
    refine rn 6 rfl ?_
    refine ck h (fun hc200 h => ?_)
    refine aops_mcallS (V.tup []) [(V.own 0 l196.length), (iV n191), (iV n192), (V.fn (.func 121) [] [(V.iptr [(V.fn (.func 44) [] [])] 0)])] (fun i => ([0] : List Nat).getD i 0) (fun i => ([0] : List Nat).getD i 0) 1 1 [(0, (Ob.arr 98 2 (y198.map encTIface)))] fOk209 wants_none rfl (evm_cons rfl (evm_cons rfl (evm_cons rfl (evm_cons rfl evm_nil)))) (.cons (Sub.own rfl rfl) (.cons (Sub.imm (Imm.con _)) (.cons (Sub.imm (Imm.con _)) (.cons (Sub.imm (Imm.fn .nil (.cons (Imm.iptr _ _) .nil))) .nil)))) (.cons rfl (ObSub.rows (rows_imm imms_encTIface)) .nil) (W209 F n191 n192 l196 y198 hx199) rfl rfl rfl rfl (Sub.immT (Imm.tup .nil)) (.cons rfl (ObSub.rowsT (rows_imm imms_encTIface)) .nil) _ rfl ?_
    refine aops_ghost (ghost_tell 0 (V.own 0 y198.length) rfl (Sub.ownI hc200)) ?_
    refine aops_ghost (ghost_tell 26 (V.own 0 y198.length) rfl (Sub.ownI hc200)) ?_
    refine fo (rn 1 rfl ?_)
    replace h := Option.some.inj h
    subst h
    exact wR ⟨.inl rfl, [], (gr [0] rfl (hR rfl rfl .nil) rfl), .nil⟩
  refine rn 7 rfl ?_
  refine spC h rfl (fun hb201 h => ?_) (fun hb201 h => ?_)
  · obtain ⟨y202, hx203, h⟩ := bind_some h
    refine rn 6 rfl ?_
    refine ck h (fun hc204 h => ?_)
    refine aops_mcallS (V.tup []) [(V.own 0 l196.length), (iV n191), (iV n192), (V.fn (.func 121) [] [(V.iptr [(V.fn (.func 44) [] [])] 0)])] (fun i => ([0] : List Nat).getD i 0) (fun i => ([0] : List Nat).getD i 0) 1 1 [(0, (Ob.arr 98 2 (y202.map encTIface)))] fOk210 wants_none rfl (evm_cons rfl (evm_cons rfl (evm_cons rfl (evm_cons rfl evm_nil)))) (.cons (Sub.own rfl rfl) (.cons (Sub.imm (Imm.con _)) (.cons (Sub.imm (Imm.con _)) (.cons (Sub.imm (Imm.fn .nil (.cons (Imm.iptr _ _) .nil))) .nil)))) (.cons rfl (ObSub.rows (rows_imm imms_encTIface)) .nil) (W210 F n191 n192 l196 y202 hx203) rfl rfl rfl rfl (Sub.immT (Imm.tup .nil)) (.cons rfl (ObSub.rowsT (rows_imm imms_encTIface)) .nil) _ rfl ?_
    refine aops_ghost (ghost_tell 0 (V.own 0 y202.length) rfl (Sub.ownI hc204)) ?_
    refine aops_ghost (ghost_tell 33 (V.own 0 y202.length) rfl (Sub.ownI hc204)) ?_
    refine fo (rn 1 rfl ?_)
    replace h := Option.some.inj h
    subst h
    exact wR ⟨.inl rfl, [], (gr [0] rfl (hR rfl rfl .nil) rfl), .nil⟩
  refine rn 7 rfl ?_
  refine jK h (fun (p : Int × (List TIface)) => (⟨[(0, (V.own 0 (p.2).length)), (1, (iV n191)), (2, (iV n192)), (3, (iV (p.1))), (4, (V.fn (.func 121) [] [(V.iptr [(V.fn (.func 44) [] [])] 0)])), (10, (bV b194)), (11, (bV b195)), (12, (iV (w64 (n192 - n191))))], [(0, (Ob.arr 98 2 ((p.2).map encTIface)))], 1⟩ : St)) (fun k205 (p : Int × (List TIface)) => k205 p.1 p.2 = some r) (fun k205 h => ?_) ?_
  · refine spC h rfl (fun hb208 h => ?_) (fun hb208 h => ?_)
    · obtain ⟨y209, hx210, h⟩ := bind_some h
      refine rn 6 rfl ?_
      refine ck h (fun hc211 h => ?_)
      refine aops_mcallS (V.tup []) [(V.own 0 l196.length), (iV n191), (iV n192), (V.fn (.func 121) [] [(V.iptr [(V.fn (.func 44) [] [])] 0)])] (fun i => ([0] : List Nat).getD i 0) (fun i => ([0] : List Nat).getD i 0) 1 1 [(0, (Ob.arr 98 2 (y209.map encTIface)))] fOk211 wants_none rfl (evm_cons rfl (evm_cons rfl (evm_cons rfl (evm_cons rfl evm_nil)))) (.cons (Sub.own rfl rfl) (.cons (Sub.imm (Imm.con _)) (.cons (Sub.imm (Imm.con _)) (.cons (Sub.imm (Imm.fn .nil (.cons (Imm.iptr _ _) .nil))) .nil)))) (.cons rfl (ObSub.rows (rows_imm imms_encTIface)) .nil) (W211 F n191 n192 l196 y209 hx210) rfl rfl rfl rfl (Sub.immT (Imm.tup .nil)) (.cons rfl (ObSub.rowsT (rows_imm imms_encTIface)) .nil) _ rfl ?_
      refine aops_ghost (ghost_tell 0 (V.own 0 y209.length) rfl (Sub.ownI hc211)) ?_
      refine aops_ghost (ghost_tell 40 (V.own 0 y209.length) rfl (Sub.ownI hc211)) ?_
      refine fo (rn 6 rfl ?_)
      exact jX ((w64 (n193 - 1)), y209) h (gr [0] rfl (hR rfl rfl .nil) rfl)
    refine rn 1 rfl ?_
    exact jX (n193, l196) h (gr [0] rfl (hR rfl rfl .nil) rfl)
  rintro ⟨n206, l207⟩ h
  obtain ⟨y212, hx213, h⟩ := bind_some h
  refine rn 6 rfl ?_
  refine aops_mcallS (V.tup [(iV (y212.1)), (iV (y212.2))]) [(V.own 0 l207.length), (iV n191), (iV n192), (V.fn (.func 121) [] [(V.iptr [(V.fn (.func 44) [] [])] 0)])] (fun i => ([0] : List Nat).getD i 0) (fun i => ([0] : List Nat).getD i 0) 1 1 [(0, (Ob.arr 98 2 (l207.map encTIface)))] fOk212 wants_none rfl (evm_cons rfl (evm_cons rfl (evm_cons rfl (evm_cons rfl evm_nil)))) (.cons (Sub.own rfl rfl) (.cons (Sub.imm (Imm.con _)) (.cons (Sub.imm (Imm.con _)) (.cons (Sub.imm (Imm.fn .nil (.cons (Imm.iptr _ _) .nil))) .nil)))) (.cons rfl (ObSub.rows (rows_imm imms_encTIface)) .nil) (W212 F n191 n192 l207 y212 hx213) rfl rfl rfl rfl (Sub.immT (Imm.tup (.cons (Imm.con _) (.cons (Imm.con _) .nil)))) (.cons rfl (ObSub.rowsT (rows_imm imms_encTIface)) .nil) _ rfl ?_
  refine fo (rn 12 rfl ?_)
  refine jK h (fun (p : Int × Int × (List TIface)) => (⟨[(0, (V.own 0 (p.2.2).length)), (1, (iV n191)), (2, (iV n192)), (3, (iV n206)), (4, (V.fn (.func 121) [] [(V.iptr [(V.fn (.func 44) [] [])] 0)])), (10, (bV b194)), (11, (bV b195)), (12, (iV (w64 (n192 - n191)))), (13, (iV (p.1))), (14, (iV (p.2.1)))], [(0, (Ob.arr 98 2 ((p.2.2).map encTIface)))], 1⟩ : St)) (fun k214 (p : Int × Int × (List TIface)) => k214 p.1 p.2.1 p.2.2 = some r) (fun k214 h => ?_) ?_
  · refine spC h rfl (fun hb218 h => ?_) (fun hb218 h => ?_)
    · obtain ⟨y219, hx220, h⟩ := bind_some h
      refine rn 6 rfl ?_
      refine ck h (fun hc221 h => ?_)
      refine aops_mcallS (V.tup []) [(V.own 0 l207.length), (iV n191), (iV n192), (V.fn (.func 121) [] [(V.iptr [(V.fn (.func 44) [] [])] 0)])] (fun i => ([0] : List Nat).getD i 0) (fun i => ([0] : List Nat).getD i 0) 1 1 [(0, (Ob.arr 98 2 (y219.map encTIface)))] fOk213 wants_none rfl (evm_cons rfl (evm_cons rfl (evm_cons rfl (evm_cons rfl evm_nil)))) (.cons (Sub.own rfl rfl) (.cons (Sub.imm (Imm.con _)) (.cons (Sub.imm (Imm.con _)) (.cons (Sub.imm (Imm.fn .nil (.cons (Imm.iptr _ _) .nil))) .nil)))) (.cons rfl (ObSub.rows (rows_imm imms_encTIface)) .nil) (W213 F n191 n192 l207 y219 hx220) rfl rfl rfl rfl (Sub.immT (Imm.tup .nil)) (.cons rfl (ObSub.rowsT (rows_imm imms_encTIface)) .nil) _ rfl ?_
      refine aops_ghost (ghost_tell 0 (V.own 0 y219.length) rfl (Sub.ownI hc221)) ?_
      refine aops_ghost (ghost_tell 48 (V.own 0 y219.length) rfl (Sub.ownI hc221)) ?_
      refine aops_ghost (ghost_tell 57 (V.own 0 y219.length) rfl (Sub.ownI hc221)) ?_
      refine fo (rn 14 rfl ?_)
      exact jX ((w64 ((w64 (n192 - 1)) - (w64 ((y212.1) - n191)))), 1, y219) h (gr [0] rfl (hR rfl rfl .nil) rfl)
    refine rn 1 rfl ?_
    exact jX ((y212.1), (y212.2), l207) h (gr [0] rfl (hR rfl rfl .nil) rfl)
  rintro ⟨n215, n216, l217⟩ h
  refine rn 5 rfl ?_
  refine spO 69 h rfl (fun hb222 h => ?_) (fun hb222 h => ?_)
  · refine rn 3 rfl ?_
    refine spO 72 h rfl (fun hb223 h => ?_) (fun hb223 h => ?_)
    · refine rn 4 rfl ?_
      refine jK h (fun (p : (List TIface)) => (⟨[(0, (V.own 0 p.length)), (1, (iV n191)), (2, (iV n192)), (3, (iV n206)), (4, (V.fn (.func 121) [] [(V.iptr [(V.fn (.func 44) [] [])] 0)])), (10, (bV b194)), (11, (bV b195)), (12, (iV (w64 (n192 - n191)))), (13, (iV n215)), (70, (bV b195)), (73, (iV n216)), (74, (bV (n216 == 1)))], [(0, (Ob.arr 98 2 (p.map encTIface)))], 1⟩ : St)) (fun k224 (p : (List TIface)) => k224 p = some r) (fun k224 h => ?_) ?_
      · refine spC h rfl (fun hb226 h => ?_) (fun hb226 h => ?_)
        · obtain ⟨y227, hx228, h⟩ := bind_some h
          refine rn 6 rfl ?_
          refine ck h (fun hc229 h => ?_)
          refine aops_mcallS (bV (y227.1)) [(V.own 0 l217.length), (iV n191), (iV n192), (V.fn (.func 121) [] [(V.iptr [(V.fn (.func 44) [] [])] 0)])] (fun i => ([0] : List Nat).getD i 0) (fun i => ([0] : List Nat).getD i 0) 1 1 [(0, (Ob.arr 98 2 ((y227.2).map encTIface)))] fOk214 wants_none rfl (evm_cons rfl (evm_cons rfl (evm_cons rfl (evm_cons rfl evm_nil)))) (.cons (Sub.own rfl rfl) (.cons (Sub.imm (Imm.con _)) (.cons (Sub.imm (Imm.con _)) (.cons (Sub.imm (Imm.fn .nil (.cons (Imm.iptr _ _) .nil))) .nil)))) (.cons rfl (ObSub.rows (rows_imm imms_encTIface)) .nil) (W214 F n191 n192 l217 y227 hx228) rfl rfl rfl rfl (Sub.immT (Imm.con _)) (.cons rfl (ObSub.rowsT (rows_imm imms_encTIface)) .nil) _ rfl ?_
          refine aops_ghost (ghost_tell 0 (V.own 0 (y227.2).length) rfl (Sub.ownI hc229)) ?_
          refine aops_ghost (ghost_tell 76 (V.own 0 (y227.2).length) rfl (Sub.ownI hc229)) ?_
          refine fo (rn 1 rfl ?_)
          refine spC h rfl (fun hb230 h => ?_) (fun hb230 h => ?_)
          · replace h := Option.some.inj h
            subst h
            exact wR ⟨.inl rfl, [], (gr [0] rfl (hR rfl rfl .nil) rfl), .nil⟩
          refine rn 1 rfl ?_
          exact jX (y227.2) h (gr [0] rfl (hR rfl rfl .nil) rfl)
        refine rn 1 rfl ?_
        exact jX l217 h (gr [0] rfl (hR rfl rfl .nil) rfl)
      intro l225 h
      refine rn 2 rfl ?_
      refine bs h (fun hb231 h => ?_) (fun hb231 h => ?_)
      · obtain ⟨x232, hx233, h⟩ := bind_some h
        obtain ⟨x234, hx235, h⟩ := bind_some h
        obtain ⟨y236, hx237, h⟩ := bind_some h
        refine dr mixed (vs 2 rfl (vb hb231 rfl (vs 4 rfl (oD (a := l225) hx233 rfl rfl rfl rfl (lD hx233 rfl rfl rfl rfl rfl (vs 2 rfl (oD (a := l225) hx235 rfl rfl rfl rfl (lD hx235 rfl rfl rfl rfl rfl (cD rfl rfl rfl rfl (W121 _ _ _ _ hx237) rfl (vs 3 rfl .nil)))))))))) (by kernel_rfl) ?_
        refine spC h rfl (fun hb238 h => ?_) (fun hb238 h => ?_)
        · obtain ⟨y239, hx240, h⟩ := bind_some h
          refine rn 7 rfl ?_
          refine ck h (fun hc241 h => ?_)
          refine aops_mcallS (iV (y239.1)) [(V.own 0 l225.length), (iV n191), (iV n192), (iV n215), (V.fn (.func 121) [] [(V.iptr [(V.fn (.func 44) [] [])] 0)])] (fun i => ([0] : List Nat).getD i 0) (fun i => ([0] : List Nat).getD i 0) 1 1 [(0, (Ob.arr 98 2 ((y239.2).map encTIface)))] fOk215 wants_none rfl (evm_cons rfl (evm_cons rfl (evm_cons rfl (evm_cons rfl (evm_cons rfl evm_nil))))) (.cons (Sub.own rfl rfl) (.cons (Sub.imm (Imm.con _)) (.cons (Sub.imm (Imm.con _)) (.cons (Sub.imm (Imm.con _)) (.cons (Sub.imm (Imm.fn .nil (.cons (Imm.iptr _ _) .nil))) .nil))))) (.cons rfl (ObSub.rows (rows_imm imms_encTIface)) .nil) (W215 F n191 n192 n215 l225 y239 hx240) rfl rfl rfl rfl (Sub.immT (Imm.con _)) (.cons rfl (ObSub.rowsT (rows_imm imms_encTIface)) .nil) _ rfl ?_
          refine aops_ghost (ghost_tell 0 (V.own 0 (y239.2).length) rfl (Sub.ownI hc241)) ?_
          refine aops_ghost (ghost_tell 85 (V.own 0 (y239.2).length) rfl (Sub.ownI hc241)) ?_
          refine aops_ghost (ghost_tell 90 (V.own 0 (y239.2).length) rfl (Sub.ownI hc241)) ?_
          refine aops_ghost (ghost_tell 98 (V.own 0 (y239.2).length) rfl (Sub.ownI hc241)) ?_
          refine fo (rn 8 rfl ?_)
          exact jX ((y239.1), n192, n206, b194, b195, (y239.2)) h (gr [0] rfl (hR rfl rfl .nil) rfl)
        obtain ⟨y242, hx243, h⟩ := bind_some h
        refine rn 8 rfl ?_
        refine ck h (fun hc244 h => ?_)
        refine aops_mcallS (V.tup [(iV (y242.1)), (bV (y242.2.1))]) [(V.own 0 l225.length), (iV n191), (iV n192), (iV n215), (V.fn (.func 121) [] [(V.iptr [(V.fn (.func 44) [] [])] 0)])] (fun i => ([0] : List Nat).getD i 0) (fun i => ([0] : List Nat).getD i 0) 1 1 [(0, (Ob.arr 98 2 ((y242.2.2).map encTIface)))] fOk216 wants_none rfl (evm_cons rfl (evm_cons rfl (evm_cons rfl (evm_cons rfl (evm_cons rfl evm_nil))))) (.cons (Sub.own rfl rfl) (.cons (Sub.imm (Imm.con _)) (.cons (Sub.imm (Imm.con _)) (.cons (Sub.imm (Imm.con _)) (.cons (Sub.imm (Imm.fn .nil (.cons (Imm.iptr _ _) .nil))) .nil))))) (.cons rfl (ObSub.rows (rows_imm imms_encTIface)) .nil) (W216 F n191 n192 n215 l225 y242 hx243) rfl rfl rfl rfl (Sub.immT (Imm.tup (.cons (Imm.con _) (.cons (Imm.con _) .nil)))) (.cons rfl (ObSub.rowsT (rows_imm imms_encTIface)) .nil) _ rfl ?_
        refine aops_ghost (ghost_tell 0 (V.own 0 (y242.2.2).length) rfl (Sub.ownI hc244)) ?_
        refine aops_ghost (ghost_tell 85 (V.own 0 (y242.2.2).length) rfl (Sub.ownI hc244)) ?_
        refine aops_ghost (ghost_tell 90 (V.own 0 (y242.2.2).length) rfl (Sub.ownI hc244)) ?_
        refine aops_ghost (ghost_tell 106 (V.own 0 (y242.2.2).length) rfl (Sub.ownI hc244)) ?_
        refine fo (rn 34 rfl ?_)
        refine jK h (fun (p : Int × Int × Bool × (List TIface)) => (⟨[(0, (V.own 0 (p.2.2.2).length)), (1, (iV (p.1))), (2, (iV (p.2.1))), (3, (iV n206)), (4, (V.fn (.func 121) [] [(V.iptr [(V.fn (.func 44) [] [])] 0)])), (10, (bV (p.2.2.1))), (11, (bV (y242.2.1))), (70, (bV b195)), (73, (iV n216)), (74, (bV (n216 == 1))), (84, (V.fn (.func 121) [] [(V.iptr [(V.fn (.func 44) [] [])] 0)])), (85, (V.own 0 (p.2.2.2).length)), (86, (iV n191)), (87, (iV (w64 (n191 - 1)))), (88, (V.ptr 0 2 (w64 (n191 - 1)).toNat 0)), (89, (V.agg (encTIface x232))), (90, (V.own 0 (p.2.2.2).length)), (91, (iV n215)), (92, (V.ptr 0 2 n215.toNat 0)), (93, (V.agg (encTIface x234))), (94, (iV y236)), (95, (bV (decide (y236 < 0)))), (96, (bV (!(decide (y236 < 0)))))], [(0, (Ob.arr 98 2 ((p.2.2.2).map encTIface)))], 1⟩ : St)) (fun k245 (p : Int × Int × Bool × (List TIface)) => k245 p.1 p.2.1 p.2.2.1 p.2.2.2 = some r) (fun k245 h => ?_) ?_
        · refine spC h rfl (fun hb250 h => ?_) (fun hb250 h => ?_)
          · obtain ⟨y251, hx252, h⟩ := bind_some h
            refine rn 14 rfl ?_
            refine ck h (fun hc253 h => ?_)
            refine aops_mcallS (V.tup []) [(V.own 0 (y242.2.2).length), (iV n191), (iV (y242.1)), (iV n206), (V.fn (.func 121) [] [(V.iptr [(V.fn (.func 44) [] [])] 0)])] (fun i => ([0] : List Nat).getD i 0) (fun i => ([0] : List Nat).getD i 0) 1 1 [(0, (Ob.arr 98 2 (y251.map encTIface)))] fOk171 wants_none rfl (evm_cons rfl (evm_cons rfl (evm_cons rfl (evm_cons rfl (evm_cons rfl evm_nil))))) (.cons (Sub.own rfl rfl) (.cons (Sub.imm (Imm.con _)) (.cons (Sub.imm (Imm.con _)) (.cons (Sub.imm (Imm.con _)) (.cons (Sub.imm (Imm.fn .nil (.cons (Imm.iptr _ _) .nil))) .nil))))) (.cons rfl (ObSub.rows (rows_imm imms_encTIface)) .nil) (hR171 n191 (y242.1) n206 (y242.2.2) _ hx252) rfl rfl rfl rfl (Sub.immT (Imm.tup .nil)) (.cons rfl (ObSub.rowsT (rows_imm imms_encTIface)) .nil) _ rfl ?_
            refine aops_ghost (ghost_tell 0 (V.own 0 y251.length) rfl (Sub.ownI hc253)) ?_
            refine aops_ghost (ghost_tell 85 (V.own 0 y251.length) rfl (Sub.ownI hc253)) ?_
            refine aops_ghost (ghost_tell 90 (V.own 0 y251.length) rfl (Sub.ownI hc253)) ?_
            refine aops_ghost (ghost_tell 106 (V.own 0 y251.length) rfl (Sub.ownI hc253)) ?_
            refine aops_ghost (ghost_tell 129 (V.own 0 y251.length) rfl (Sub.ownI hc253)) ?_
            refine fo (rn 6 rfl ?_)
            exact jX ((w64 ((y242.1) + 1)), n192, (decide ((w64 ((y242.1) - n191)) ≥ (w64 (Int.tdiv (w64 (n192 - n191)) 8)))), y251) h (gr [0] rfl (hR rfl rfl .nil) rfl)
          obtain ⟨y254, hx255, h⟩ := bind_some h
          refine rn 15 rfl ?_
          refine ck h (fun hc256 h => ?_)
          refine aops_mcallS (V.tup []) [(V.own 0 (y242.2.2).length), (iV (w64 ((y242.1) + 1))), (iV n192), (iV n206), (V.fn (.func 121) [] [(V.iptr [(V.fn (.func 44) [] [])] 0)])] (fun i => ([0] : List Nat).getD i 0) (fun i => ([0] : List Nat).getD i 0) 1 1 [(0, (Ob.arr 98 2 (y254.map encTIface)))] fOk171 wants_none rfl (evm_cons rfl (evm_cons rfl (evm_cons rfl (evm_cons rfl (evm_cons rfl evm_nil))))) (.cons (Sub.own rfl rfl) (.cons (Sub.imm (Imm.con _)) (.cons (Sub.imm (Imm.con _)) (.cons (Sub.imm (Imm.con _)) (.cons (Sub.imm (Imm.fn .nil (.cons (Imm.iptr _ _) .nil))) .nil))))) (.cons rfl (ObSub.rows (rows_imm imms_encTIface)) .nil) (hR171 (w64 ((y242.1) + 1)) n192 n206 (y242.2.2) _ hx255) rfl rfl rfl rfl (Sub.immT (Imm.tup .nil)) (.cons rfl (ObSub.rowsT (rows_imm imms_encTIface)) .nil) _ rfl ?_
          refine aops_ghost (ghost_tell 0 (V.own 0 y254.length) rfl (Sub.ownI hc256)) ?_
          refine aops_ghost (ghost_tell 85 (V.own 0 y254.length) rfl (Sub.ownI hc256)) ?_
          refine aops_ghost (ghost_tell 90 (V.own 0 y254.length) rfl (Sub.ownI hc256)) ?_
          refine aops_ghost (ghost_tell 106 (V.own 0 y254.length) rfl (Sub.ownI hc256)) ?_
          refine aops_ghost (ghost_tell 140 (V.own 0 y254.length) rfl (Sub.ownI hc256)) ?_
          refine fo (rn 5 rfl ?_)
          exact jX (n191, (y242.1), (decide ((w64 (n192 - (y242.1))) ≥ (w64 (Int.tdiv (w64 (n192 - n191)) 8)))), y254) h (gr [0] rfl (hR rfl rfl .nil) rfl)
        rintro ⟨n246, n247, b248, l249⟩ h
        refine rn 1 rfl ?_
        exact jX (n246, n247, n206, b248, (y242.2.1), l249) h (gr [0] rfl (hR rfl rfl .nil) rfl)
      refine dr mixed (vs 2 rfl (vb hb231 rfl (vs 14 rfl .nil))) (by kernel_rfl) ?_
      obtain ⟨y257, hx258, h⟩ := bind_some h
      refine rn 9 rfl ?_
      refine ck h (fun hc259 h => ?_)
      refine aops_mcallS (V.tup [(iV (y257.1)), (bV (y257.2.1))]) [(V.own 0 l225.length), (iV n191), (iV n192), (iV n215), (V.fn (.func 121) [] [(V.iptr [(V.fn (.func 44) [] [])] 0)])] (fun i => ([0] : List Nat).getD i 0) (fun i => ([0] : List Nat).getD i 0) 1 1 [(0, (Ob.arr 98 2 ((y257.2.2).map encTIface)))] fOk216 wants_none rfl (evm_cons rfl (evm_cons rfl (evm_cons rfl (evm_cons rfl (evm_cons rfl evm_nil))))) (.cons (Sub.own rfl rfl) (.cons (Sub.imm (Imm.con _)) (.cons (Sub.imm (Imm.con _)) (.cons (Sub.imm (Imm.con _)) (.cons (Sub.imm (Imm.fn .nil (.cons (Imm.iptr _ _) .nil))) .nil))))) (.cons rfl (ObSub.rows (rows_imm imms_encTIface)) .nil) (W216 F n191 n192 n215 l225 y257 hx258) rfl rfl rfl rfl (Sub.immT (Imm.tup (.cons (Imm.con _) (.cons (Imm.con _) .nil)))) (.cons rfl (ObSub.rowsT (rows_imm imms_encTIface)) .nil) _ rfl ?_
      refine aops_ghost (ghost_tell 0 (V.own 0 (y257.2.2).length) rfl (Sub.ownI hc259)) ?_
      refine aops_ghost (ghost_tell 106 (V.own 0 (y257.2.2).length) rfl (Sub.ownI hc259)) ?_
      refine fo (rn 34 rfl ?_)
      refine jK h (fun (p : Int × Int × Bool × (List TIface)) => (⟨[(0, (V.own 0 (p.2.2.2).length)), (1, (iV (p.1))), (2, (iV (p.2.1))), (3, (iV n206)), (4, (V.fn (.func 121) [] [(V.iptr [(V.fn (.func 44) [] [])] 0)])), (10, (bV (p.2.2.1))), (11, (bV (y257.2.1))), (70, (bV b195)), (73, (iV n216)), (74, (bV (n216 == 1))), (84, (V.con undef)), (85, (V.con undef)), (86, (V.con undef)), (87, (V.con undef)), (88, (V.con undef)), (89, (V.con undef)), (90, (V.con undef)), (91, (V.con undef)), (92, (V.con undef)), (93, (V.con undef)), (94, (V.con undef)), (95, (V.con undef)), (96, (V.con undef))], [(0, (Ob.arr 98 2 ((p.2.2.2).map encTIface)))], 1⟩ : St)) (fun k260 (p : Int × Int × Bool × (List TIface)) => k260 p.1 p.2.1 p.2.2.1 p.2.2.2 = some r) (fun k260 h => ?_) ?_
      · refine spC h rfl (fun hb265 h => ?_) (fun hb265 h => ?_)
        · obtain ⟨y266, hx267, h⟩ := bind_some h
          refine rn 14 rfl ?_
          refine ck h (fun hc268 h => ?_)
          refine aops_mcallS (V.tup []) [(V.own 0 (y257.2.2).length), (iV n191), (iV (y257.1)), (iV n206), (V.fn (.func 121) [] [(V.iptr [(V.fn (.func 44) [] [])] 0)])] (fun i => ([0] : List Nat).getD i 0) (fun i => ([0] : List Nat).getD i 0) 1 1 [(0, (Ob.arr 98 2 (y266.map encTIface)))] fOk171 wants_none rfl (evm_cons rfl (evm_cons rfl (evm_cons rfl (evm_cons rfl (evm_cons rfl evm_nil))))) (.cons (Sub.own rfl rfl) (.cons (Sub.imm (Imm.con _)) (.cons (Sub.imm (Imm.con _)) (.cons (Sub.imm (Imm.con _)) (.cons (Sub.imm (Imm.fn .nil (.cons (Imm.iptr _ _) .nil))) .nil))))) (.cons rfl (ObSub.rows (rows_imm imms_encTIface)) .nil) (hR171 n191 (y257.1) n206 (y257.2.2) _ hx267) rfl rfl rfl rfl (Sub.immT (Imm.tup .nil)) (.cons rfl (ObSub.rowsT (rows_imm imms_encTIface)) .nil) _ rfl ?_
          refine aops_ghost (ghost_tell 0 (V.own 0 y266.length) rfl (Sub.ownI hc268)) ?_
          refine aops_ghost (ghost_tell 106 (V.own 0 y266.length) rfl (Sub.ownI hc268)) ?_
          refine aops_ghost (ghost_tell 129 (V.own 0 y266.length) rfl (Sub.ownI hc268)) ?_
          refine fo (rn 6 rfl ?_)
          exact jX ((w64 ((y257.1) + 1)), n192, (decide ((w64 ((y257.1) - n191)) ≥ (w64 (Int.tdiv (w64 (n192 - n191)) 8)))), y266) h (gr [0] rfl (hR rfl rfl .nil) rfl)
        obtain ⟨y269, hx270, h⟩ := bind_some h
        refine rn 15 rfl ?_
        refine ck h (fun hc271 h => ?_)
        refine aops_mcallS (V.tup []) [(V.own 0 (y257.2.2).length), (iV (w64 ((y257.1) + 1))), (iV n192), (iV n206), (V.fn (.func 121) [] [(V.iptr [(V.fn (.func 44) [] [])] 0)])] (fun i => ([0] : List Nat).getD i 0) (fun i => ([0] : List Nat).getD i 0) 1 1 [(0, (Ob.arr 98 2 (y269.map encTIface)))] fOk171 wants_none rfl (evm_cons rfl (evm_cons rfl (evm_cons rfl (evm_cons rfl (evm_cons rfl evm_nil))))) (.cons (Sub.own rfl rfl) (.cons (Sub.imm (Imm.con _)) (.cons (Sub.imm (Imm.con _)) (.cons (Sub.imm (Imm.con _)) (.cons (Sub.imm (Imm.fn .nil (.cons (Imm.iptr _ _) .nil))) .nil))))) (.cons rfl (ObSub.rows (rows_imm imms_encTIface)) .nil) (hR171 (w64 ((y257.1) + 1)) n192 n206 (y257.2.2) _ hx270) rfl rfl rfl rfl (Sub.immT (Imm.tup .nil)) (.cons rfl (ObSub.rowsT (rows_imm imms_encTIface)) .nil) _ rfl ?_
        refine aops_ghost (ghost_tell 0 (V.own 0 y269.length) rfl (Sub.ownI hc271)) ?_
        refine aops_ghost (ghost_tell 106 (V.own 0 y269.length) rfl (Sub.ownI hc271)) ?_
        refine aops_ghost (ghost_tell 140 (V.own 0 y269.length) rfl (Sub.ownI hc271)) ?_
        refine fo (rn 5 rfl ?_)
        exact jX (n191, (y257.1), (decide ((w64 (n192 - (y257.1))) ≥ (w64 (Int.tdiv (w64 (n192 - n191)) 8)))), y269) h (gr [0] rfl (hR rfl rfl .nil) rfl)
      rintro ⟨n261, n262, b263, l264⟩ h
      refine rn 1 rfl ?_
      exact jX (n261, n262, n206, b263, (y257.2.1), l264) h (gr [0] rfl (hR rfl rfl .nil) rfl)
    refine rn 8 rfl ?_
    refine bs h (fun hb272 h => ?_) (fun hb272 h => ?_)
    · obtain ⟨x273, hx274, h⟩ := bind_some h
      obtain ⟨x275, hx276, h⟩ := bind_some h
      obtain ⟨y277, hx278, h⟩ := bind_some h
      refine dr mixed (vs 2 rfl (vb hb272 rfl (vs 4 rfl (oD (a := l217) hx274 rfl rfl rfl rfl (lD hx274 rfl rfl rfl rfl rfl (vs 2 rfl (oD (a := l217) hx276 rfl rfl rfl rfl (lD hx276 rfl rfl rfl rfl rfl (cD rfl rfl rfl rfl (W121 _ _ _ _ hx278) rfl (vs 3 rfl .nil)))))))))) (by kernel_rfl) ?_
      refine spC h rfl (fun hb279 h => ?_) (fun hb279 h => ?_)
      · obtain ⟨y280, hx281, h⟩ := bind_some h
        refine rn 7 rfl ?_
        refine ck h (fun hc282 h => ?_)
        refine aops_mcallS (iV (y280.1)) [(V.own 0 l217.length), (iV n191), (iV n192), (iV n215), (V.fn (.func 121) [] [(V.iptr [(V.fn (.func 44) [] [])] 0)])] (fun i => ([0] : List Nat).getD i 0) (fun i => ([0] : List Nat).getD i 0) 1 1 [(0, (Ob.arr 98 2 ((y280.2).map encTIface)))] fOk215 wants_none rfl (evm_cons rfl (evm_cons rfl (evm_cons rfl (evm_cons rfl (evm_cons rfl evm_nil))))) (.cons (Sub.own rfl rfl) (.cons (Sub.imm (Imm.con _)) (.cons (Sub.imm (Imm.con _)) (.cons (Sub.imm (Imm.con _)) (.cons (Sub.imm (Imm.fn .nil (.cons (Imm.iptr _ _) .nil))) .nil))))) (.cons rfl (ObSub.rows (rows_imm imms_encTIface)) .nil) (W215 F n191 n192 n215 l217 y280 hx281) rfl rfl rfl rfl (Sub.immT (Imm.con _)) (.cons rfl (ObSub.rowsT (rows_imm imms_encTIface)) .nil) _ rfl ?_
        refine aops_ghost (ghost_tell 0 (V.own 0 (y280.2).length) rfl (Sub.ownI hc282)) ?_
        refine aops_ghost (ghost_tell 85 (V.own 0 (y280.2).length) rfl (Sub.ownI hc282)) ?_
        refine aops_ghost (ghost_tell 90 (V.own 0 (y280.2).length) rfl (Sub.ownI hc282)) ?_
        refine aops_ghost (ghost_tell 98 (V.own 0 (y280.2).length) rfl (Sub.ownI hc282)) ?_
        refine fo (rn 8 rfl ?_)
        exact jX ((y280.1), n192, n206, b194, b195, (y280.2)) h (gr [0] rfl (hR rfl rfl .nil) rfl)
      obtain ⟨y283, hx284, h⟩ := bind_some h
      refine rn 8 rfl ?_
      refine ck h (fun hc285 h => ?_)
      refine aops_mcallS (V.tup [(iV (y283.1)), (bV (y283.2.1))]) [(V.own 0 l217.length), (iV n191), (iV n192), (iV n215), (V.fn (.func 121) [] [(V.iptr [(V.fn (.func 44) [] [])] 0)])] (fun i => ([0] : List Nat).getD i 0) (fun i => ([0] : List Nat).getD i 0) 1 1 [(0, (Ob.arr 98 2 ((y283.2.2).map encTIface)))] fOk216 wants_none rfl (evm_cons rfl (evm_cons rfl (evm_cons rfl (evm_cons rfl (evm_cons rfl evm_nil))))) (.cons (Sub.own rfl rfl) (.cons (Sub.imm (Imm.con _)) (.cons (Sub.imm (Imm.con _)) (.cons (Sub.imm (Imm.con _)) (.cons (Sub.imm (Imm.fn .nil (.cons (Imm.iptr _ _) .nil))) .nil))))) (.cons rfl (ObSub.rows (rows_imm imms_encTIface)) .nil) (W216 F n191 n192 n215 l217 y283 hx284) rfl rfl rfl rfl (Sub.immT (Imm.tup (.cons (Imm.con _) (.cons (Imm.con _) .nil)))) (.cons rfl (ObSub.rowsT (rows_imm imms_encTIface)) .nil) _ rfl ?_
      refine aops_ghost (ghost_tell 0 (V.own 0 (y283.2.2).length) rfl (Sub.ownI hc285)) ?_
      refine aops_ghost (ghost_tell 85 (V.own 0 (y283.2.2).length) rfl (Sub.ownI hc285)) ?_
      refine aops_ghost (ghost_tell 90 (V.own 0 (y283.2.2).length) rfl (Sub.ownI hc285)) ?_
      refine aops_ghost (ghost_tell 106 (V.own 0 (y283.2.2).length) rfl (Sub.ownI hc285)) ?_
      refine fo (rn 34 rfl ?_)
      refine jK h (fun (p : Int × Int × Bool × (List TIface)) => (⟨[(0, (V.own 0 (p.2.2.2).length)), (1, (iV (p.1))), (2, (iV (p.2.1))), (3, (iV n206)), (4, (V.fn (.func 121) [] [(V.iptr [(V.fn (.func 44) [] [])] 0)])), (10, (bV (p.2.2.1))), (11, (bV (y283.2.1))), (70, (bV b195)), (73, (V.con undef)), (74, (V.con undef)), (84, (V.fn (.func 121) [] [(V.iptr [(V.fn (.func 44) [] [])] 0)])), (85, (V.own 0 (p.2.2.2).length)), (86, (iV n191)), (87, (iV (w64 (n191 - 1)))), (88, (V.ptr 0 2 (w64 (n191 - 1)).toNat 0)), (89, (V.agg (encTIface x273))), (90, (V.own 0 (p.2.2.2).length)), (91, (iV n215)), (92, (V.ptr 0 2 n215.toNat 0)), (93, (V.agg (encTIface x275))), (94, (iV y277)), (95, (bV (decide (y277 < 0)))), (96, (bV (!(decide (y277 < 0)))))], [(0, (Ob.arr 98 2 ((p.2.2.2).map encTIface)))], 1⟩ : St)) (fun k286 (p : Int × Int × Bool × (List TIface)) => k286 p.1 p.2.1 p.2.2.1 p.2.2.2 = some r) (fun k286 h => ?_) ?_
      · refine spC h rfl (fun hb291 h => ?_) (fun hb291 h => ?_)
        · obtain ⟨y292, hx293, h⟩ := bind_some h
          refine rn 14 rfl ?_
          refine ck h (fun hc294 h => ?_)
          refine aops_mcallS (V.tup []) [(V.own 0 (y283.2.2).length), (iV n191), (iV (y283.1)), (iV n206), (V.fn (.func 121) [] [(V.iptr [(V.fn (.func 44) [] [])] 0)])] (fun i => ([0] : List Nat).getD i 0) (fun i => ([0] : List Nat).getD i 0) 1 1 [(0, (Ob.arr 98 2 (y292.map encTIface)))] fOk171 wants_none rfl (evm_cons rfl (evm_cons rfl (evm_cons rfl (evm_cons rfl (evm_cons rfl evm_nil))))) (.cons (Sub.own rfl rfl) (.cons (Sub.imm (Imm.con _)) (.cons (Sub.imm (Imm.con _)) (.cons (Sub.imm (Imm.con _)) (.cons (Sub.imm (Imm.fn .nil (.cons (Imm.iptr _ _) .nil))) .nil))))) (.cons rfl (ObSub.rows (rows_imm imms_encTIface)) .nil) (hR171 n191 (y283.1) n206 (y283.2.2) _ hx293) rfl rfl rfl rfl (Sub.immT (Imm.tup .nil)) (.cons rfl (ObSub.rowsT (rows_imm imms_encTIface)) .nil) _ rfl ?_
          refine aops_ghost (ghost_tell 0 (V.own 0 y292.length) rfl (Sub.ownI hc294)) ?_
          refine aops_ghost (ghost_tell 85 (V.own 0 y292.length) rfl (Sub.ownI hc294)) ?_
          refine aops_ghost (ghost_tell 90 (V.own 0 y292.length) rfl (Sub.ownI hc294)) ?_
          refine aops_ghost (ghost_tell 106 (V.own 0 y292.length) rfl (Sub.ownI hc294)) ?_
          refine aops_ghost (ghost_tell 129 (V.own 0 y292.length) rfl (Sub.ownI hc294)) ?_
          refine fo (rn 6 rfl ?_)
          exact jX ((w64 ((y283.1) + 1)), n192, (decide ((w64 ((y283.1) - n191)) ≥ (w64 (Int.tdiv (w64 (n192 - n191)) 8)))), y292) h (gr [0] rfl (hR rfl rfl .nil) rfl)
        obtain ⟨y295, hx296, h⟩ := bind_some h
        refine rn 15 rfl ?_
        refine ck h (fun hc297 h => ?_)
        refine aops_mcallS (V.tup []) [(V.own 0 (y283.2.2).length), (iV (w64 ((y283.1) + 1))), (iV n192), (iV n206), (V.fn (.func 121) [] [(V.iptr [(V.fn (.func 44) [] [])] 0)])] (fun i => ([0] : List Nat).getD i 0) (fun i => ([0] : List Nat).getD i 0) 1 1 [(0, (Ob.arr 98 2 (y295.map encTIface)))] fOk171 wants_none rfl (evm_cons rfl (evm_cons rfl (evm_cons rfl (evm_cons rfl (evm_cons rfl evm_nil))))) (.cons (Sub.own rfl rfl) (.cons (Sub.imm (Imm.con _)) (.cons (Sub.imm (Imm.con _)) (.cons (Sub.imm (Imm.con _)) (.cons (Sub.imm (Imm.fn .nil (.cons (Imm.iptr _ _) .nil))) .nil))))) (.cons rfl (ObSub.rows (rows_imm imms_encTIface)) .nil) (hR171 (w64 ((y283.1) + 1)) n192 n206 (y283.2.2) _ hx296) rfl rfl rfl rfl (Sub.immT (Imm.tup .nil)) (.cons rfl (ObSub.rowsT (rows_imm imms_encTIface)) .nil) _ rfl ?_
        refine aops_ghost (ghost_tell 0 (V.own 0 y295.length) rfl (Sub.ownI hc297)) ?_
        refine aops_ghost (ghost_tell 85 (V.own 0 y295.length) rfl (Sub.ownI hc297)) ?_
        refine aops_ghost (ghost_tell 90 (V.own 0 y295.length) rfl (Sub.ownI hc297)) ?_
        refine aops_ghost (ghost_tell 106 (V.own 0 y295.length) rfl (Sub.ownI hc297)) ?_
        refine aops_ghost (ghost_tell 140 (V.own 0 y295.length) rfl (Sub.ownI hc297)) ?_
        refine fo (rn 5 rfl ?_)
        exact jX (n191, (y283.1), (decide ((w64 (n192 - (y283.1))) ≥ (w64 (Int.tdiv (w64 (n192 - n191)) 8)))), y295) h (gr [0] rfl (hR rfl rfl .nil) rfl)
      rintro ⟨n287, n288, b289, l290⟩ h
      refine rn 1 rfl ?_
      exact jX (n287, n288, n206, b289, (y283.2.1), l290) h (gr [0] rfl (hR rfl rfl .nil) rfl)
    refine dr mixed (vs 2 rfl (vb hb272 rfl (vs 14 rfl .nil))) (by kernel_rfl) ?_
    obtain ⟨y298, hx299, h⟩ := bind_some h
    refine rn 9 rfl ?_
    refine ck h (fun hc300 h => ?_)
    refine aops_mcallS (V.tup [(iV (y298.1)), (bV (y298.2.1))]) [(V.own 0 l217.length), (iV n191), (iV n192), (iV n215), (V.fn (.func 121) [] [(V.iptr [(V.fn (.func 44) [] [])] 0)])] (fun i => ([0] : List Nat).getD i 0) (fun i => ([0] : List Nat).getD i 0) 1 1 [(0, (Ob.arr 98 2 ((y298.2.2).map encTIface)))] fOk216 wants_none rfl (evm_cons rfl (evm_cons rfl (evm_cons rfl (evm_cons rfl (evm_cons rfl evm_nil))))) (.cons (Sub.own rfl rfl) (.cons (Sub.imm (Imm.con _)) (.cons (Sub.imm (Imm.con _)) (.cons (Sub.imm (Imm.con _)) (.cons (Sub.imm (Imm.fn .nil (.cons (Imm.iptr _ _) .nil))) .nil))))) (.cons rfl (ObSub.rows (rows_imm imms_encTIface)) .nil) (W216 F n191 n192 n215 l217 y298 hx299) rfl rfl rfl rfl (Sub.immT (Imm.tup (.cons (Imm.con _) (.cons (Imm.con _) .nil)))) (.cons rfl (ObSub.rowsT (rows_imm imms_encTIface)) .nil) _ rfl ?_
    refine aops_ghost (ghost_tell 0 (V.own 0 (y298.2.2).length) rfl (Sub.ownI hc300)) ?_
    refine aops_ghost (ghost_tell 106 (V.own 0 (y298.2.2).length) rfl (Sub.ownI hc300)) ?_
    refine fo (rn 34 rfl ?_)
    refine jK h (fun (p : Int × Int × Bool × (List TIface)) => (⟨[(0, (V.own 0 (p.2.2.2).length)), (1, (iV (p.1))), (2, (iV (p.2.1))), (3, (iV n206)), (4, (V.fn (.func 121) [] [(V.iptr [(V.fn (.func 44) [] [])] 0)])), (10, (bV (p.2.2.1))), (11, (bV (y298.2.1))), (70, (bV b195)), (73, (V.con undef)), (74, (V.con undef)), (84, (V.con undef)), (85, (V.con undef)), (86, (V.con undef)), (87, (V.con undef)), (88, (V.con undef)), (89, (V.con undef)), (90, (V.con undef)), (91, (V.con undef)), (92, (V.con undef)), (93, (V.con undef)), (94, (V.con undef)), (95, (V.con undef)), (96, (V.con undef))], [(0, (Ob.arr 98 2 ((p.2.2.2).map encTIface)))], 1⟩ : St)) (fun k301 (p : Int × Int × Bool × (List TIface)) => k301 p.1 p.2.1 p.2.2.1 p.2.2.2 = some r) (fun k301 h => ?_) ?_
    · refine spC h rfl (fun hb306 h => ?_) (fun hb306 h => ?_)
      · obtain ⟨y307, hx308, h⟩ := bind_some h
        refine rn 14 rfl ?_
        refine ck h (fun hc309 h => ?_)
        refine aops_mcallS (V.tup []) [(V.own 0 (y298.2.2).length), (iV n191), (iV (y298.1)), (iV n206), (V.fn (.func 121) [] [(V.iptr [(V.fn (.func 44) [] [])] 0)])] (fun i => ([0] : List Nat).getD i 0) (fun i => ([0] : List Nat).getD i 0) 1 1 [(0, (Ob.arr 98 2 (y307.map encTIface)))] fOk171 wants_none rfl (evm_cons rfl (evm_cons rfl (evm_cons rfl (evm_cons rfl (evm_cons rfl evm_nil))))) (.cons (Sub.own rfl rfl) (.cons (Sub.imm (Imm.con _)) (.cons (Sub.imm (Imm.con _)) (.cons (Sub.imm (Imm.con _)) (.cons (Sub.imm (Imm.fn .nil (.cons (Imm.iptr _ _) .nil))) .nil))))) (.cons rfl (ObSub.rows (rows_imm imms_encTIface)) .nil) (hR171 n191 (y298.1) n206 (y298.2.2) _ hx308) rfl rfl rfl rfl (Sub.immT (Imm.tup .nil)) (.cons rfl (ObSub.rowsT (rows_imm imms_encTIface)) .nil) _ rfl ?_
        refine aops_ghost (ghost_tell 0 (V.own 0 y307.length) rfl (Sub.ownI hc309)) ?_
        refine aops_ghost (ghost_tell 106 (V.own 0 y307.length) rfl (Sub.ownI hc309)) ?_
        refine aops_ghost (ghost_tell 129 (V.own 0 y307.length) rfl (Sub.ownI hc309)) ?_
        refine fo (rn 6 rfl ?_)
        exact jX ((w64 ((y298.1) + 1)), n192, (decide ((w64 ((y298.1) - n191)) ≥ (w64 (Int.tdiv (w64 (n192 - n191)) 8)))), y307) h (gr [0] rfl (hR rfl rfl .nil) rfl)
      obtain ⟨y310, hx311, h⟩ := bind_some h
      refine rn 15 rfl ?_
      refine ck h (fun hc312 h => ?_)
      refine aops_mcallS (V.tup []) [(V.own 0 (y298.2.2).length), (iV (w64 ((y298.1) + 1))), (iV n192), (iV n206), (V.fn (.func 121) [] [(V.iptr [(V.fn (.func 44) [] [])] 0)])] (fun i => ([0] : List Nat).getD i 0) (fun i => ([0] : List Nat).getD i 0) 1 1 [(0, (Ob.arr 98 2 (y310.map encTIface)))] fOk171 wants_none rfl (evm_cons rfl (evm_cons rfl (evm_cons rfl (evm_cons rfl (evm_cons rfl evm_nil))))) (.cons (Sub.own rfl rfl) (.cons (Sub.imm (Imm.con _)) (.cons (Sub.imm (Imm.con _)) (.cons (Sub.imm (Imm.con _)) (.cons (Sub.imm (Imm.fn .nil (.cons (Imm.iptr _ _) .nil))) .nil))))) (.cons rfl (ObSub.rows (rows_imm imms_encTIface)) .nil) (hR171 (w64 ((y298.1) + 1)) n192 n206 (y298.2.2) _ hx311) rfl rfl rfl rfl (Sub.immT (Imm.tup .nil)) (.cons rfl (ObSub.rowsT (rows_imm imms_encTIface)) .nil) _ rfl ?_
      refine aops_ghost (ghost_tell 0 (V.own 0 y310.length) rfl (Sub.ownI hc312)) ?_
      refine aops_ghost (ghost_tell 106 (V.own 0 y310.length) rfl (Sub.ownI hc312)) ?_
      refine aops_ghost (ghost_tell 140 (V.own 0 y310.length) rfl (Sub.ownI hc312)) ?_
      refine fo (rn 5 rfl ?_)
      exact jX (n191, (y298.1), (decide ((w64 (n192 - (y298.1))) ≥ (w64 (Int.tdiv (w64 (n192 - n191)) 8)))), y310) h (gr [0] rfl (hR rfl rfl .nil) rfl)
    rintro ⟨n302, n303, b304, l305⟩ h
    refine rn 1 rfl ?_
    exact jX (n302, n303, n206, b304, (y298.2.1), l305) h (gr [0] rfl (hR rfl rfl .nil) rfl)
  refine rn 11 rfl ?_
  refine bs h (fun hb313 h => ?_) (fun hb313 h => ?_)
  · obtain ⟨x314, hx315, h⟩ := bind_some h
    obtain ⟨x316, hx317, h⟩ := bind_some h
    obtain ⟨y318, hx319, h⟩ := bind_some h
    refine dr mixed (vs 2 rfl (vb hb313 rfl (vs 4 rfl (oD (a := l217) hx315 rfl rfl rfl rfl (lD hx315 rfl rfl rfl rfl rfl (vs 2 rfl (oD (a := l217) hx317 rfl rfl rfl rfl (lD hx317 rfl rfl rfl rfl rfl (cD rfl rfl rfl rfl (W121 _ _ _ _ hx319) rfl (vs 3 rfl .nil)))))))))) (by kernel_rfl) ?_
    refine spC h rfl (fun hb320 h => ?_) (fun hb320 h => ?_)
    · obtain ⟨y321, hx322, h⟩ := bind_some h
      refine rn 7 rfl ?_
      refine ck h (fun hc323 h => ?_)
      refine aops_mcallS (iV (y321.1)) [(V.own 0 l217.length), (iV n191), (iV n192), (iV n215), (V.fn (.func 121) [] [(V.iptr [(V.fn (.func 44) [] [])] 0)])] (fun i => ([0] : List Nat).getD i 0) (fun i => ([0] : List Nat).getD i 0) 1 1 [(0, (Ob.arr 98 2 ((y321.2).map encTIface)))] fOk215 wants_none rfl (evm_cons rfl (evm_cons rfl (evm_cons rfl (evm_cons rfl (evm_cons rfl evm_nil))))) (.cons (Sub.own rfl rfl) (.cons (Sub.imm (Imm.con _)) (.cons (Sub.imm (Imm.con _)) (.cons (Sub.imm (Imm.con _)) (.cons (Sub.imm (Imm.fn .nil (.cons (Imm.iptr _ _) .nil))) .nil))))) (.cons rfl (ObSub.rows (rows_imm imms_encTIface)) .nil) (W215 F n191 n192 n215 l217 y321 hx322) rfl rfl rfl rfl (Sub.immT (Imm.con _)) (.cons rfl (ObSub.rowsT (rows_imm imms_encTIface)) .nil) _ rfl ?_
      refine aops_ghost (ghost_tell 0 (V.own 0 (y321.2).length) rfl (Sub.ownI hc323)) ?_
      refine aops_ghost (ghost_tell 85 (V.own 0 (y321.2).length) rfl (Sub.ownI hc323)) ?_
      refine aops_ghost (ghost_tell 90 (V.own 0 (y321.2).length) rfl (Sub.ownI hc323)) ?_
      refine aops_ghost (ghost_tell 98 (V.own 0 (y321.2).length) rfl (Sub.ownI hc323)) ?_
      refine fo (rn 8 rfl ?_)
      exact jX ((y321.1), n192, n206, b194, b195, (y321.2)) h (gr [0] rfl (hR rfl rfl .nil) rfl)
    obtain ⟨y324, hx325, h⟩ := bind_some h
    refine rn 8 rfl ?_
    refine ck h (fun hc326 h => ?_)
    refine aops_mcallS (V.tup [(iV (y324.1)), (bV (y324.2.1))]) [(V.own 0 l217.length), (iV n191), (iV n192), (iV n215), (V.fn (.func 121) [] [(V.iptr [(V.fn (.func 44) [] [])] 0)])] (fun i => ([0] : List Nat).getD i 0) (fun i => ([0] : List Nat).getD i 0) 1 1 [(0, (Ob.arr 98 2 ((y324.2.2).map encTIface)))] fOk216 wants_none rfl (evm_cons rfl (evm_cons rfl (evm_cons rfl (evm_cons rfl (evm_cons rfl evm_nil))))) (.cons (Sub.own rfl rfl) (.cons (Sub.imm (Imm.con _)) (.cons (Sub.imm (Imm.con _)) (.cons (Sub.imm (Imm.con _)) (.cons (Sub.imm (Imm.fn .nil (.cons (Imm.iptr _ _) .nil))) .nil))))) (.cons rfl (ObSub.rows (rows_imm imms_encTIface)) .nil) (W216 F n191 n192 n215 l217 y324 hx325) rfl rfl rfl rfl (Sub.immT (Imm.tup (.cons (Imm.con _) (.cons (Imm.con _) .nil)))) (.cons rfl (ObSub.rowsT (rows_imm imms_encTIface)) .nil) _ rfl ?_
    refine aops_ghost (ghost_tell 0 (V.own 0 (y324.2.2).length) rfl (Sub.ownI hc326)) ?_
    refine aops_ghost (ghost_tell 85 (V.own 0 (y324.2.2).length) rfl (Sub.ownI hc326)) ?_
    refine aops_ghost (ghost_tell 90 (V.own 0 (y324.2.2).length) rfl (Sub.ownI hc326)) ?_
    refine aops_ghost (ghost_tell 106 (V.own 0 (y324.2.2).length) rfl (Sub.ownI hc326)) ?_
    refine fo (rn 34 rfl ?_)
    refine jK h (fun (p : Int × Int × Bool × (List TIface)) => (⟨[(0, (V.own 0 (p.2.2.2).length)), (1, (iV (p.1))), (2, (iV (p.2.1))), (3, (iV n206)), (4, (V.fn (.func 121) [] [(V.iptr [(V.fn (.func 44) [] [])] 0)])), (10, (bV (p.2.2.1))), (11, (bV (y324.2.1))), (70, (V.con undef)), (73, (V.con undef)), (74, (V.con undef)), (84, (V.fn (.func 121) [] [(V.iptr [(V.fn (.func 44) [] [])] 0)])), (85, (V.own 0 (p.2.2.2).length)), (86, (iV n191)), (87, (iV (w64 (n191 - 1)))), (88, (V.ptr 0 2 (w64 (n191 - 1)).toNat 0)), (89, (V.agg (encTIface x314))), (90, (V.own 0 (p.2.2.2).length)), (91, (iV n215)), (92, (V.ptr 0 2 n215.toNat 0)), (93, (V.agg (encTIface x316))), (94, (iV y318)), (95, (bV (decide (y318 < 0)))), (96, (bV (!(decide (y318 < 0)))))], [(0, (Ob.arr 98 2 ((p.2.2.2).map encTIface)))], 1⟩ : St)) (fun k327 (p : Int × Int × Bool × (List TIface)) => k327 p.1 p.2.1 p.2.2.1 p.2.2.2 = some r) (fun k327 h => ?_) ?_
    · refine spC h rfl (fun hb332 h => ?_) (fun hb332 h => ?_)
      · obtain ⟨y333, hx334, h⟩ := bind_some h
        refine rn 14 rfl ?_
        refine ck h (fun hc335 h => ?_)
        refine aops_mcallS (V.tup []) [(V.own 0 (y324.2.2).length), (iV n191), (iV (y324.1)), (iV n206), (V.fn (.func 121) [] [(V.iptr [(V.fn (.func 44) [] [])] 0)])] (fun i => ([0] : List Nat).getD i 0) (fun i => ([0] : List Nat).getD i 0) 1 1 [(0, (Ob.arr 98 2 (y333.map encTIface)))] fOk171 wants_none rfl (evm_cons rfl (evm_cons rfl (evm_cons rfl (evm_cons rfl (evm_cons rfl evm_nil))))) (.cons (Sub.own rfl rfl) (.cons (Sub.imm (Imm.con _)) (.cons (Sub.imm (Imm.con _)) (.cons (Sub.imm (Imm.con _)) (.cons (Sub.imm (Imm.fn .nil (.cons (Imm.iptr _ _) .nil))) .nil))))) (.cons rfl (ObSub.rows (rows_imm imms_encTIface)) .nil) (hR171 n191 (y324.1) n206 (y324.2.2) _ hx334) rfl rfl rfl rfl (Sub.immT (Imm.tup .nil)) (.cons rfl (ObSub.rowsT (rows_imm imms_encTIface)) .nil) _ rfl ?_
        refine aops_ghost (ghost_tell 0 (V.own 0 y333.length) rfl (Sub.ownI hc335)) ?_
        refine aops_ghost (ghost_tell 85 (V.own 0 y333.length) rfl (Sub.ownI hc335)) ?_
        refine aops_ghost (ghost_tell 90 (V.own 0 y333.length) rfl (Sub.ownI hc335)) ?_
        refine aops_ghost (ghost_tell 106 (V.own 0 y333.length) rfl (Sub.ownI hc335)) ?_
        refine aops_ghost (ghost_tell 129 (V.own 0 y333.length) rfl (Sub.ownI hc335)) ?_
        refine fo (rn 6 rfl ?_)
        exact jX ((w64 ((y324.1) + 1)), n192, (decide ((w64 ((y324.1) - n191)) ≥ (w64 (Int.tdiv (w64 (n192 - n191)) 8)))), y333) h (gr [0] rfl (hR rfl rfl .nil) rfl)
      obtain ⟨y336, hx337, h⟩ := bind_some h
      refine rn 15 rfl ?_
      refine ck h (fun hc338 h => ?_)
      refine aops_mcallS (V.tup []) [(V.own 0 (y324.2.2).length), (iV (w64 ((y324.1) + 1))), (iV n192), (iV n206), (V.fn (.func 121) [] [(V.iptr [(V.fn (.func 44) [] [])] 0)])] (fun i => ([0] : List Nat).getD i 0) (fun i => ([0] : List Nat).getD i 0) 1 1 [(0, (Ob.arr 98 2 (y336.map encTIface)))] fOk171 wants_none rfl (evm_cons rfl (evm_cons rfl (evm_cons rfl (evm_cons rfl (evm_cons rfl evm_nil))))) (.cons (Sub.own rfl rfl) (.cons (Sub.imm (Imm.con _)) (.cons (Sub.imm (Imm.con _)) (.cons (Sub.imm (Imm.con _)) (.cons (Sub.imm (Imm.fn .nil (.cons (Imm.iptr _ _) .nil))) .nil))))) (.cons rfl (ObSub.rows (rows_imm imms_encTIface)) .nil) (hR171 (w64 ((y324.1) + 1)) n192 n206 (y324.2.2) _ hx337) rfl rfl rfl rfl (Sub.immT (Imm.tup .nil)) (.cons rfl (ObSub.rowsT (rows_imm imms_encTIface)) .nil) _ rfl ?_
      refine aops_ghost (ghost_tell 0 (V.own 0 y336.length) rfl (Sub.ownI hc338)) ?_
      refine aops_ghost (ghost_tell 85 (V.own 0 y336.length) rfl (Sub.ownI hc338)) ?_
      refine aops_ghost (ghost_tell 90 (V.own 0 y336.length) rfl (Sub.ownI hc338)) ?_
      refine aops_ghost (ghost_tell 106 (V.own 0 y336.length) rfl (Sub.ownI hc338)) ?_
      refine aops_ghost (ghost_tell 140 (V.own 0 y336.length) rfl (Sub.ownI hc338)) ?_
      refine fo (rn 5 rfl ?_)
      exact jX (n191, (y324.1), (decide ((w64 (n192 - (y324.1))) ≥ (w64 (Int.tdiv (w64 (n192 - n191)) 8)))), y336) h (gr [0] rfl (hR rfl rfl .nil) rfl)
    rintro ⟨n328, n329, b330, l331⟩ h
    refine rn 1 rfl ?_
    exact jX (n328, n329, n206, b330, (y324.2.1), l331) h (gr [0] rfl (hR rfl rfl .nil) rfl)
  refine dr mixed (vs 2 rfl (vb hb313 rfl (vs 14 rfl .nil))) (by kernel_rfl) ?_
  obtain ⟨y339, hx340, h⟩ := bind_some h
  refine rn 9 rfl ?_
  refine ck h (fun hc341 h => ?_)
  refine aops_mcallS (V.tup [(iV (y339.1)), (bV (y339.2.1))]) [(V.own 0 l217.length), (iV n191), (iV n192), (iV n215), (V.fn (.func 121) [] [(V.iptr [(V.fn (.func 44) [] [])] 0)])] (fun i => ([0] : List Nat).getD i 0) (fun i => ([0] : List Nat).getD i 0) 1 1 [(0, (Ob.arr 98 2 ((y339.2.2).map encTIface)))] fOk216 wants_none rfl (evm_cons rfl (evm_cons rfl (evm_cons rfl (evm_cons rfl (evm_cons rfl evm_nil))))) (.cons (Sub.own rfl rfl) (.cons (Sub.imm (Imm.con _)) (.cons (Sub.imm (Imm.con _)) (.cons (Sub.imm (Imm.con _)) (.cons (Sub.imm (Imm.fn .nil (.cons (Imm.iptr _ _) .nil))) .nil))))) (.cons rfl (ObSub.rows (rows_imm imms_encTIface)) .nil) (W216 F n191 n192 n215 l217 y339 hx340) rfl rfl rfl rfl (Sub.immT (Imm.tup (.cons (Imm.con _) (.cons (Imm.con _) .nil)))) (.cons rfl (ObSub.rowsT (rows_imm imms_encTIface)) .nil) _ rfl ?_
  refine aops_ghost (ghost_tell 0 (V.own 0 (y339.2.2).length) rfl (Sub.ownI hc341)) ?_
  refine aops_ghost (ghost_tell 106 (V.own 0 (y339.2.2).length) rfl (Sub.ownI hc341)) ?_
  refine fo (rn 34 rfl ?_)
  refine jK h (fun (p : Int × Int × Bool × (List TIface)) => (⟨[(0, (V.own 0 (p.2.2.2).length)), (1, (iV (p.1))), (2, (iV (p.2.1))), (3, (iV n206)), (4, (V.fn (.func 121) [] [(V.iptr [(V.fn (.func 44) [] [])] 0)])), (10, (bV (p.2.2.1))), (11, (bV (y339.2.1))), (70, (V.con undef)), (73, (V.con undef)), (74, (V.con undef)), (84, (V.con undef)), (85, (V.con undef)), (86, (V.con undef)), (87, (V.con undef)), (88, (V.con undef)), (89, (V.con undef)), (90, (V.con undef)), (91, (V.con undef)), (92, (V.con undef)), (93, (V.con undef)), (94, (V.con undef)), (95, (V.con undef)), (96, (V.con undef))], [(0, (Ob.arr 98 2 ((p.2.2.2).map encTIface)))], 1⟩ : St)) (fun k342 (p : Int × Int × Bool × (List TIface)) => k342 p.1 p.2.1 p.2.2.1 p.2.2.2 = some r) (fun k342 h => ?_) ?_
  · refine spC h rfl (fun hb347 h => ?_) (fun hb347 h => ?_)
    · obtain ⟨y348, hx349, h⟩ := bind_some h
      refine rn 14 rfl ?_
      refine ck h (fun hc350 h => ?_)
      refine aops_mcallS (V.tup []) [(V.own 0 (y339.2.2).length), (iV n191), (iV (y339.1)), (iV n206), (V.fn (.func 121) [] [(V.iptr [(V.fn (.func 44) [] [])] 0)])] (fun i => ([0] : List Nat).getD i 0) (fun i => ([0] : List Nat).getD i 0) 1 1 [(0, (Ob.arr 98 2 (y348.map encTIface)))] fOk171 wants_none rfl (evm_cons rfl (evm_cons rfl (evm_cons rfl (evm_cons rfl (evm_cons rfl evm_nil))))) (.cons (Sub.own rfl rfl) (.cons (Sub.imm (Imm.con _)) (.cons (Sub.imm (Imm.con _)) (.cons (Sub.imm (Imm.con _)) (.cons (Sub.imm (Imm.fn .nil (.cons (Imm.iptr _ _) .nil))) .nil))))) (.cons rfl (ObSub.rows (rows_imm imms_encTIface)) .nil) (hR171 n191 (y339.1) n206 (y339.2.2) _ hx349) rfl rfl rfl rfl (Sub.immT (Imm.tup .nil)) (.cons rfl (ObSub.rowsT (rows_imm imms_encTIface)) .nil) _ rfl ?_
      refine aops_ghost (ghost_tell 0 (V.own 0 y348.length) rfl (Sub.ownI hc350)) ?_
      refine aops_ghost (ghost_tell 106 (V.own 0 y348.length) rfl (Sub.ownI hc350)) ?_
      refine aops_ghost (ghost_tell 129 (V.own 0 y348.length) rfl (Sub.ownI hc350)) ?_
      refine fo (rn 6 rfl ?_)
      exact jX ((w64 ((y339.1) + 1)), n192, (decide ((w64 ((y339.1) - n191)) ≥ (w64 (Int.tdiv (w64 (n192 - n191)) 8)))), y348) h (gr [0] rfl (hR rfl rfl .nil) rfl)
    obtain ⟨y351, hx352, h⟩ := bind_some h
    refine rn 15 rfl ?_
    refine ck h (fun hc353 h => ?_)
    refine aops_mcallS (V.tup []) [(V.own 0 (y339.2.2).length), (iV (w64 ((y339.1) + 1))), (iV n192), (iV n206), (V.fn (.func 121) [] [(V.iptr [(V.fn (.func 44) [] [])] 0)])] (fun i => ([0] : List Nat).getD i 0) (fun i => ([0] : List Nat).getD i 0) 1 1 [(0, (Ob.arr 98 2 (y351.map encTIface)))] fOk171 wants_none rfl (evm_cons rfl (evm_cons rfl (evm_cons rfl (evm_cons rfl (evm_cons rfl evm_nil))))) (.cons (Sub.own rfl rfl) (.cons (Sub.imm (Imm.con _)) (.cons (Sub.imm (Imm.con _)) (.cons (Sub.imm (Imm.con _)) (.cons (Sub.imm (Imm.fn .nil (.cons (Imm.iptr _ _) .nil))) .nil))))) (.cons rfl (ObSub.rows (rows_imm imms_encTIface)) .nil) (hR171 (w64 ((y339.1) + 1)) n192 n206 (y339.2.2) _ hx352) rfl rfl rfl rfl (Sub.immT (Imm.tup .nil)) (.cons rfl (ObSub.rowsT (rows_imm imms_encTIface)) .nil) _ rfl ?_
    refine aops_ghost (ghost_tell 0 (V.own 0 y351.length) rfl (Sub.ownI hc353)) ?_
    refine aops_ghost (ghost_tell 106 (V.own 0 y351.length) rfl (Sub.ownI hc353)) ?_
    refine aops_ghost (ghost_tell 140 (V.own 0 y351.length) rfl (Sub.ownI hc353)) ?_
    refine fo (rn 5 rfl ?_)
    exact jX (n191, (y339.1), (decide ((w64 (n192 - (y339.1))) ≥ (w64 (Int.tdiv (w64 (n192 - n191)) 8)))), y351) h (gr [0] rfl (hR rfl rfl .nil) rfl)
  rintro ⟨n343, n344, b345, l346⟩ h
  refine rn 1 rfl ?_
  exact jX (n343, n344, n206, b345, (y339.2.1), l346) h (gr [0] rfl (hR rfl rfl .nil) rfl)
theorem W171 : ∀ (F : Nat) (a1 : Int) (a2 : Int) (a3 : Int) (a4 : List TIface) (r : (List TIface)) (h : M171 F a1 a2 a3 a4 = some r), Mut Tryz.prog 171 [(V.own 0 a4.length), (iV a1), (iV a2), (iV a3), (V.fn (.func 121) [] [(V.iptr [(V.fn (.func 44) [] [])] 0)])] 1 [(0, (Ob.arr 98 2 (a4.map encTIface)))] (resV []) 1 [(0, (Ob.arr 98 2 (r.map encTIface)))] := by
  intro F
  induction F with
  | zero => intros; simp [M171] at *
  | succ F ih => exact fun a1 a2 a3 a4 r h => W171_B (M171 F) ih F a1 a2 a3 a4 r h
theorem W120 (F : Nat) (a1 : List TIface) (r : (List TIface)) (h : M120 F a1 = some r) : Mut Tryz.prog 120 [(V.own 0 a1.length), (V.fn (.func 121) [] [(V.iptr [(V.fn (.func 44) [] [])] 0)])] 1 [(0, (Ob.arr 98 2 (a1.map encTIface)))] (resV []) 1 [(0, (Ob.arr 98 2 (r.map encTIface)))] := by
  refine mut_enter Tryz.func120 rfl rfl (l := []) rfl rfl [(0, (V.own 0 a1.length)), (1, (V.fn (.func 121) [] [(V.iptr [(V.fn (.func 44) [] [])] 0)]))] rfl (fun w0 m0 β0 hg => en ?_)
  unfold M120 at h
  refine rn 11 rfl ?_
  refine cl h rfl rfl rfl (W135 _ _) rfl (fun y8 hx9 h => ?_)
  obtain ⟨y10, hx11, h⟩ := bind_some h
  refine rn 1 rfl ?_
  refine ck h (fun hc12 h => ?_)
  refine aops_mcallS (V.tup []) [(V.own 0 a1.length), (iV 0), (iV ((a1.length : Nat) : Int)), (iV y8), (V.fn (.func 121) [] [(V.iptr [(V.fn (.func 44) [] [])] 0)])] (fun i => ([0] : List Nat).getD i 0) (fun i => ([0] : List Nat).getD i 0) 1 1 [(0, (Ob.arr 98 2 (y10.map encTIface)))] fOk171 wants_none rfl (evm_cons rfl (evm_cons rfl (evm_cons rfl (evm_cons rfl (evm_cons rfl evm_nil))))) (.cons (Sub.own rfl rfl) (.cons (Sub.imm (Imm.con _)) (.cons (Sub.imm (Imm.con _)) (.cons (Sub.imm (Imm.con _)) (.cons (Sub.imm (Imm.fn .nil (.cons (Imm.iptr _ _) .nil))) .nil))))) (.cons rfl (ObSub.rows (rows_imm imms_encTIface)) .nil) (W171 F 0 ((a1.length : Nat) : Int) y8 a1 y10 hx11) rfl rfl rfl rfl (Sub.immT (Imm.tup .nil)) (.cons rfl (ObSub.rowsT (rows_imm imms_encTIface)) .nil) _ rfl ?_
  refine aops_ghost (ghost_tell 0 (V.own 0 y10.length) rfl (Sub.ownI hc12)) ?_
  refine aops_ghost (ghost_tell 5 (V.own 0 y10.length) rfl (Sub.ownI hc12)) ?_
  refine aops_ghost (ghost_tell 7 (V.own 0 y10.length) rfl (Sub.ownI hc12)) ?_
  refine fo (rn 1 rfl ?_)
  replace h := Option.some.inj h
  subst h
  exact wE ⟨.inr rfl, [], (gr [0] rfl (hR rfl rfl .nil) rfl), .nil⟩
theorem W43 (F : Nat) (a1 : (List TIface)) (r : (List TIface)) (h : M43 F a1 = some r) : Pure Tryz.prog 43 [(V.lst 2 (a1.map encTIface)), (V.fn (.func 44) [] []), (V.fn (.func 45) [] [])] (V.lst 2 (r.map encTIface)) := by
  refine pin (fun r => (V.lst 2 (r.map encTIface))) r rfl Tryz.func43 rfl rfl rfl rfl rfl (fun w0 m0 hg => ?_)
  unfold M43 at h
  refine rn 13 rfl ?_
  refine ln rfl rfl ?_
  refine rn 2 rfl ?_
  refine jK h (fun (p : (List TIface)) => (⟨[(4, (V.ptr 0 1 0 0)), (7, (V.own 1 p.length))], [(0, (Ob.arr 99 1 [[(V.fn (.func 44) [] [])]])), (1, (Ob.arr 98 2 (p.map encTIface)))], 2⟩ : St)) (fun k2 (p : (List TIface)) => k2 p = some r) (fun k2 h => ?_) ?_
  · refine rn 1 rfl ?_
    refine wl (A := a1) 0 rfl (fun hA14 => ?_)
    refine lC (fun (p : Int × (List TIface)) => (⟨[(2, (V.fn (.func 45) [] [])), (4, (V.ptr 0 1 0 0)), (7, (V.own 1 (p.2).length)), (10, (V.lst 2 (a1.map encTIface))), (11, (iV ((a1.length : Nat) : Int))), (12, (iV (p.1)))], [(0, (Ob.arr 99 1 [[(V.fn (.func 44) [] [])]])), (1, (Ob.arr 98 2 ((p.2).map encTIface)))], 2⟩ : St)) (fun n (p : Int × (List TIface)) => RG a1 (fun tl nn => M43_L1 F k2 tl p.2 = some r) n p.1) (fun p h => RG.zero h) (a1.length + 1) (0, ([] : List TIface)) (RG.start h) (Ghost.trans (ghost_nilE 7 98 2 rfl) (ghost_ren 2 (fun i => ([0, 1] : List Nat).getD i 0) _ _ (by decide) (EnvSub.get (.cons (Sub.imm (Imm.fn .nil .nil)) (.cons (Sub.ptr rfl rfl) (.cons (Sub.ownE rfl rfl (by simp)) (.cons (Sub.imm (Imm.lst _ _)) (.cons (Sub.imm (Imm.con _)) (.cons (Sub.imm (Imm.con _)) .nil))))))) (HpSub.get (.cons rfl (ObSub.box (.cons (Sub.imm (Imm.fn .nil .nil)) .nil)) (.cons rfl (ObSub.rows (rows_imm imms_encTIface)) .nil))) rfl)) (fun n p h => ?_)
    obtain ⟨n6, l7⟩ := p
    refine rn 5 rfl ?_
    refine spL rfl (fun hb8 => ?_) (fun hb8 => ?_)
    · obtain ⟨x9, tl, hx10, h, hk1⟩ := RG.t hA14 h hb8
      unfold M43_L1 at h
      refine rn 5 rfl ?_
      refine ixh hx10 rfl rfl ?_
      refine rn 8 rfl ?_
      refine cl h rfl rfl rfl (W45 _ _) rfl (fun y11 hx12 h => ?_)
      refine aops_buildSlice [(0, (V.agg (encTIface y11)))] [(encTIface y11)] tEl22 tZ98 rfl rfl rfl rfl wants_none (evp_cons rfl evp_nil) rfl rfl (by simp) rfl ?_
      refine fo ?_
      refine apO encTIface h rfl rfl rfl rfl rfl rfl rfl rfl (fun h => ?_)
      refine rn 7 rfl ?_
      exact jX ((w64 (n6 + 1)), (l7 ++ ([y11] : List TIface))) (hk1 _ h) (gr [0, 4] rfl (hB rfl rfl rfl (hR rfl rfl .nil)) rfl)
    replace h := RG.f h hb8
    unfold M43_L1 at h
    refine rn 1 rfl ?_
    exact jX l7 h (gr [0, 1] rfl (hB rfl rfl rfl (hR rfl rfl .nil)) rfl)
  intro l3 h
  obtain ⟨y15, hx16, h⟩ := bind_some h
  refine rn 4 rfl ?_
  refine ck h (fun hc17 h => ?_)
  refine aops_ghost (ghost_frzV 0 24 (V.fn (.func 121) [] [(V.iptr [(V.fn (.func 44) [] [])] 0)]) rfl (imms_rows (.cons (.cons (Imm.fn .nil .nil) .nil) .nil)) rfl (Sub.fnc (.cons (Sub.frzptr rfl) .nil))) ?_
  refine aops_mcallS (V.tup []) [(V.own 1 l3.length), (V.fn (.func 121) [] [(V.iptr [(V.fn (.func 44) [] [])] 0)])] (fun i => ([1] : List Nat).getD i 0) (fun i => ([1] : List Nat).getD i 0) 2 2 [(1, (Ob.arr 98 2 (y15.map encTIface)))] fOk120 wants_none rfl (evm_cons rfl (evm_cons rfl evm_nil)) (.cons (Sub.own rfl rfl) (.cons (Sub.imm (Imm.fn .nil (.cons (Imm.iptr _ _) .nil))) .nil)) (.cons rfl (ObSub.rows (rows_imm imms_encTIface)) .nil) (W120 F l3 y15 hx16) rfl rfl rfl rfl (Sub.immT (Imm.tup .nil)) (.cons rfl (ObSub.rowsT (rows_imm imms_encTIface)) .nil) _ rfl ?_
  refine aops_ghost (ghost_tell 7 (V.own 1 y15.length) rfl (Sub.ownI hc17)) ?_
  refine aops_ghost (ghost_tell 23 (V.own 1 y15.length) rfl (Sub.ownI hc17)) ?_
  refine fo (rn 6 rfl ?_)
  refine awp_ghost (ghost_frzEs 1 [6, 7, 23, 26] rfl (rows_imm imms_encTIface) (List.forall_mem_cons.2 ⟨rfl, (List.forall_mem_cons.2 ⟨rfl, (List.forall_mem_cons.2 ⟨rfl, (List.forall_mem_cons.2 ⟨rfl, (fun _ hx => nomatch hx)⟩)⟩)⟩)⟩) (List.length_map ..).symm) ?_
  refine fa ?_
  exact rt h rfl
theorem W124 (F : Nat) (a1 : (List TMethod)) (r : (List TMethod)) (h : M124 F a1 = some r) : Pure Tryz.prog 124 [(V.lst 2 (a1.map encTMethod))] (V.lst 2 (r.map encTMethod)) := by
  refine pin (fun r => (V.lst 2 (r.map encTMethod))) r rfl Tryz.func124 rfl rfl rfl rfl rfl (fun w0 m0 hg => ?_)
  unfold M124 at h
  refine rn 8 rfl ?_
  refine aops_isNil (n := a1.length) false tIsSl102 wants_none rfl rfl (congrArg some (List.length_map ..)) rfl (fun b2 hn3 => ?_)
  replace h := nilq_elim h hn3
  refine fo (rn 1 rfl ?_)
  refine spC h rfl (fun hb4 h => ?_) (fun hb4 h => ?_)
  · refine rn 4 rfl ?_
    exact rt h rfl
  refine rn 3 rfl ?_
  refine aops_emptySlice tEl102 wants_none rfl ?_
  refine fo (rn 1 rfl ?_)
  refine apL encTMethod h rfl rfl rfl (by simp) rfl (fun h => ?_)
  refine rn 2 rfl ?_
  refine awp_ghost (ghost_frzEs 1 [2, 7] rfl (rows_imm imms_encTMethod) (List.forall_mem_cons.2 ⟨rfl, (List.forall_mem_cons.2 ⟨rfl, (fun _ hx => nomatch hx)⟩)⟩) (List.length_map ..).symm) ?_
  refine fa ?_
  exact rt h rfl
theorem W48 (F : Nat) (a1 : TType) (r : TType) (h : M48 F a1 = some r) : Pure Tryz.prog 48 [(V.agg (encTType a1))] (V.agg (encTType r)) := by
  refine pin (fun r => (V.agg (encTType r))) r rfl Tryz.func48 rfl rfl rfl rfl rfl (fun w0 m0 hg => ?_)
  unfold M48 at h
  refine rn 9 rfl ?_
  refine cl h rfl rfl rfl (W124 _ _) rfl (fun y2 hx3 h => ?_)
  refine rn 8 rfl ?_
  exact rt h rfl
theorem W47 (F : Nat) (a1 : TType) (r : (List UInt8)) (h : M47 F a1 = some r) : Pure Tryz.prog 47 [(V.agg (encTType a1))] (sV r) := by
  refine pin (fun r => (sV r)) r rfl Tryz.func47 rfl rfl rfl rfl rfl (fun w0 m0 hg => ?_)
  unfold M47 at h
  refine rn 11 rfl ?_
  exact rt h rfl
end Go.Proofs.YtpbkggamiipdmaaGreat
