/- Part of the proof: E3W3b. -/
import Derived.Test.YtcbkgdagiccfmaaEPvX
import Derived.Test.YtcbkgdagiccfmaaEEI
import Derived.Test.YtcbkgdagiccfmaaEREe
import Derived.Test.YtcbkgdagiccfmaaEQB
import Derived.Test.YtcbkgdagiccfmaaEE3W3a
import Derived.KernelRfl
namespace Go.Proofs.Ytcbkgdagiccfmaa
open Go Go.Pv
set_option linter.unusedVariables false
set_option maxRecDepth 100000
theorem W27 (F : Nat) (a1 : TGraph) (a2 : (List (List UInt8))) (r : Tprovenderref6_net) (h : M27 F a1 a2 = some r) : Pure Try.prog 27 [(V.agg (encTGraph a1)), (V.lst 1 (a2.map encS))] (V.agg (encTprovenderref6_net r)) := by
 refine pin (fun r => (V.agg (encTprovenderref6_net r))) r rfl Try.func27 rfl rfl rfl rfl rfl (fun w0 m0 hg => ?_)
 unfold M27 at h
 refine rn 17 rfl ?_
 refine aops_insert (es := ([] : List ((List UInt8) × Bool)).map encM9_4) ((mput ([] : List ((List UInt8) × Bool)) ([] : List UInt8) true).map encM9_4) tMap52 tKey9 wants_none rfl rfl (.con rfl) ⟨_, rfl⟩ encM9_4_good rfl (encM9_4_puts ([] : List ((List UInt8) × Bool)) ([] : List UInt8) true) ?_
 refine fo (rn 7 rfl ?_)
 refine ln rfl rfl ?_
 refine rn 2 rfl ?_
 refine jK h (fun (p : (List ((List UInt8) × Bool))) => (⟨[(2, (V.ptr 0 4 0 0)), (4, (V.ptr 1 6 0 0)), (5, (V.ptr 2 6 0 0)), (6, (V.map 3))], [(0, (Ob.arr 27 4 [(encTGraph a1)])), (1, (Ob.arr 79 6 [[nV, nV, nV, nV, (V.con (.map none)), (V.con (.map none))]])), (2, (Ob.arr 79 6 [[(V.lst 2 (a1.Ifaces.map encTIface)), (V.lst 2 (a1.Types.map encTType)), (V.lst 4 (a1.Funcs.map encTFunc)), (V.lst 1 (a1.Entries.map encS)), (V.map 4), (V.map 5)]])), (3, (Ob.map (p.map encM9_4))), (4, (Ob.map (([] : List ((List UInt8) × (List Tprovenderref6_link))).map encM9_155))), (5, (Ob.map (([] : List ((List UInt8) × TFunc)).map encM9_62)))], 6⟩ : St)) (fun k3 p => k3 p = some r) (fun k3 h => ?_) ?_
 ·refine rn 1 rfl ?_
  refine wl (A := a2) 1 rfl (fun hA12 => ?_)
  refine lC (fun (p : Int × (List ((List UInt8) × Bool))) => (⟨[(2, (V.ptr 0 4 0 0)), (4, (V.ptr 1 6 0 0)), (5, (V.ptr 2 6 0 0)), (6, (V.map 3)), (23, (V.lst 1 (a2.map encS))), (24, (iV ((a2.length : Nat) : Int))), (25, (iV (p.1)))], [(0, (Ob.arr 27 4 [(encTGraph a1)])), (1, (Ob.arr 79 6 [[nV, nV, nV, nV, (V.con (.map none)), (V.con (.map none))]])), (2, (Ob.arr 79 6 [[(V.lst 2 (a1.Ifaces.map encTIface)), (V.lst 2 (a1.Types.map encTType)), (V.lst 4 (a1.Funcs.map encTFunc)), (V.lst 1 (a1.Entries.map encS)), (V.map 4), (V.map 5)]])), (3, (Ob.map ((p.2).map encM9_4))), (4, (Ob.map (([] : List ((List UInt8) × (List Tprovenderref6_link))).map encM9_155))), (5, (Ob.map (([] : List ((List UInt8) × TFunc)).map encM9_62)))], 6⟩ : St)) (fun n p => RG a2 (fun tl nn => M27_L1 F k3 tl p.2 = some r) n p.1) (fun p h => RG.zero h) (a2.length + 1) (0, (mput ([] : List ((List UInt8) × Bool)) ([] : List UInt8) true)) (RG.start h) (gr [0, 1, 4, 5, 2, 3] rfl (hB rfl rfl rfl (hB rfl rfl rfl (hB rfl rfl rfl (hM rfl rfl (hM rfl rfl (hM rfl rfl .nil)))))) rfl) (fun n p h => ?_)
  obtain ⟨n7, m8⟩ := p
  refine rn 5 rfl ?_
  refine spL rfl (fun hb9 => ?_) (fun hb9 => ?_)
  ·obtain ⟨x10, tl, hx11, h, hk1⟩ := RG.t hA12 h hb9
   unfold M27_L1 at h
   refine rn 5 rfl ?_
   refine ixh hx11 rfl rfl ?_
   refine rn 6 rfl ?_
   refine aops_mapUpdate (es := m8.map encM9_4) ((mput m8 x10 true).map encM9_4) tMap52 tKey9 wants_none rfl rfl (.con rfl) ⟨_, rfl⟩ encM9_4_good rfl (encM9_4_puts m8 x10 true) ?_
   refine fo (rn 6 rfl ?_)
   exact jX ((w64 (n7 + 1)), (mput m8 x10 true)) (hk1 _ h) (gr [0, 1, 2, 3, 4, 5] rfl (hB rfl rfl rfl (hB rfl rfl rfl (hB rfl rfl rfl (hM rfl rfl (hM rfl rfl (hM rfl rfl .nil)))))) rfl)
  replace h := RG.f h hb9
  unfold M27_L1 at h
  refine rn 1 rfl ?_
  exact jX m8 h (gr [0, 1, 2, 3, 4, 5] rfl (hB rfl rfl rfl (hB rfl rfl rfl (hB rfl rfl rfl (hM rfl rfl (hM rfl rfl (hM rfl rfl .nil)))))) rfl)
 intro m4 h
 refine rn 10 rfl ?_
 refine ln rfl rfl ?_
 refine rn 2 rfl ?_
 refine jK h (fun (p : (List ((List UInt8) × (List Tprovenderref6_link))) × (List ((List UInt8) × TFunc))) => (⟨[(4, (V.ptr 0 6 0 0)), (5, (V.ptr 1 6 0 0))], [(0, (Ob.arr 79 6 [[nV, nV, nV, nV, (V.con (.map none)), (V.con (.map none))]])), (1, (Ob.arr 79 6 [[(V.lst 2 (a1.Ifaces.map encTIface)), (V.lst 2 (a1.Types.map encTType)), (V.lst 4 (a1.Funcs.map encTFunc)), (V.lst 1 (a1.Entries.map encS)), (V.map 2), (V.map 3)]])), (2, (Ob.map ((p.1).map encM9_155))), (3, (Ob.map ((p.2).map encM9_62)))], 4⟩ : St)) (fun k13 p => k13 p.1 p.2 = some r) (fun k13 h => ?_) ?_
 ·refine rn 1 rfl ?_
  refine wl (A := a1.Funcs) 34 rfl (fun hA55 => ?_)
  refine lC (fun (p : Int × (List (TCall × (List Tprovenderref6_aim))) × (List ((List UInt8) × (List Tprovenderref6_link))) × (List ((List UInt8) × TFunc))) => (⟨[(2, (V.ptr 0 4 0 0)), (4, (V.ptr 1 6 0 0)), (5, (V.ptr 2 6 0 0)), (6, (V.map 3)), (9, (V.map 4)), (34, (V.lst 4 (a1.Funcs.map encTFunc))), (35, (iV ((a1.Funcs.length : Nat) : Int))), (36, (iV (p.1)))], [(0, (Ob.arr 27 4 [(encTGraph a1)])), (1, (Ob.arr 79 6 [[nV, nV, nV, nV, (V.con (.map none)), (V.con (.map none))]])), (2, (Ob.arr 79 6 [[(V.lst 2 (a1.Ifaces.map encTIface)), (V.lst 2 (a1.Types.map encTType)), (V.lst 4 (a1.Funcs.map encTFunc)), (V.lst 1 (a1.Entries.map encS)), (V.map 5), (V.map 6)]])), (3, (Ob.map (m4.map encM9_4))), (4, (Ob.map ((p.2.1).map encM59_96))), (5, (Ob.map ((p.2.2.1).map encM9_155))), (6, (Ob.map ((p.2.2.2).map encM9_62)))], 7⟩ : St)) (fun n p => RG a1.Funcs (fun tl nn => M27_L2 F a1 m4 k13 tl p.2.1 p.2.2.1 p.2.2.2 = some r) n p.1) (fun p h => RG.zero h) (a1.Funcs.length + 1) (0, ([] : List (TCall × (List Tprovenderref6_aim))), ([] : List ((List UInt8) × (List Tprovenderref6_link))), ([] : List ((List UInt8) × TFunc))) (RG.start h) (gr [0, 1, 2, 3, 6, 4, 5] rfl (hB rfl rfl rfl (hB rfl rfl rfl (hB rfl rfl rfl (hM rfl rfl (hM rfl rfl (hM rfl rfl (hM rfl rfl .nil))))))) rfl) (fun n p h => ?_)
  obtain ⟨n20, m21, m22, m23⟩ := p
  refine rn 5 rfl ?_
  refine spL rfl (fun hb24 => ?_) (fun hb24 => ?_)
  ·obtain ⟨x29, tl, hx30, h, hk2⟩ := RG.t hA55 h hb24
   unfold M27_L2 at h
   refine rn 2 rfl ?_
   refine jK h (fun (p : (List (TCall × (List Tprovenderref6_aim))) × (List ((List UInt8) × (List Tprovenderref6_link))) × (List ((List UInt8) × TFunc))) => (⟨[(2, (V.ptr 0 4 0 0)), (4, (V.ptr 1 6 0 0)), (5, (V.ptr 2 6 0 0)), (6, (V.map 3)), (9, (V.map 4)), (34, (V.lst 4 (a1.Funcs.map encTFunc))), (35, (iV ((a1.Funcs.length : Nat) : Int))), (36, (iV n20))], [(0, (Ob.arr 27 4 [(encTGraph a1)])), (1, (Ob.arr 79 6 [[nV, nV, nV, nV, (V.con (.map none)), (V.con (.map none))]])), (2, (Ob.arr 79 6 [[(V.lst 2 (a1.Ifaces.map encTIface)), (V.lst 2 (a1.Types.map encTType)), (V.lst 4 (a1.Funcs.map encTFunc)), (V.lst 1 (a1.Entries.map encS)), (V.map 5), (V.map 6)]])), (3, (Ob.map (m4.map encM9_4))), (4, (Ob.map ((p.1).map encM59_96))), (5, (Ob.map ((p.2.1).map encM9_155))), (6, (Ob.map ((p.2.2).map encM9_62)))], 7⟩ : St)) (fun k25 p => k25 p.1 p.2.1 p.2.2 = some r) (fun k25 h => ?_) ?_
   ·refine rn 3 rfl ?_
    refine ixh hx30 rfl rfl ?_
    refine rn 11 rfl ?_
    refine aops_mapUpdate (es := m23.map encM9_62) ((mput m23 x29.Name x29).map encM9_62) tMap77 tKey9 wants_none rfl rfl (.con rfl) ⟨_, rfl⟩ encM9_62_good rfl (encM9_62_puts m23 x29.Name x29) ?_
    refine fo (rn 5 rfl ?_)
    refine ln rfl rfl ?_
    refine rn 2 rfl ?_
    refine jK h (fun (p : (List (TCall × (List Tprovenderref6_aim))) × (List ((List UInt8) × (List Tprovenderref6_link)))) => (⟨[(2, (V.ptr 0 4 0 0)), (4, (V.ptr 1 6 0 0)), (5, (V.ptr 2 6 0 0)), (6, (V.map 3)), (9, (V.map 4)), (34, (V.lst 4 (a1.Funcs.map encTFunc))), (35, (iV ((a1.Funcs.length : Nat) : Int))), (36, (iV n20))], [(0, (Ob.arr 27 4 [(encTGraph a1)])), (1, (Ob.arr 79 6 [[nV, nV, nV, nV, (V.con (.map none)), (V.con (.map none))]])), (2, (Ob.arr 79 6 [[(V.lst 2 (a1.Ifaces.map encTIface)), (V.lst 2 (a1.Types.map encTType)), (V.lst 4 (a1.Funcs.map encTFunc)), (V.lst 1 (a1.Entries.map encS)), (V.map 5), (V.map 6)]])), (3, (Ob.map (m4.map encM9_4))), (4, (Ob.map ((p.1).map encM59_96))), (5, (Ob.map ((p.2).map encM9_155))), (6, (Ob.map ((mput m23 x29.Name x29).map encM9_62)))], 7⟩ : St)) (fun k31 p => k31 p.1 p.2 = some r) (fun k31 h => ?_) ?_
    ·refine rn 1 rfl ?_
     refine wl (A := x29.Calls) 46 rfl (fun hA54 => ?_)
     refine lC (fun (p : Int × (List (TCall × (List Tprovenderref6_aim))) × (List ((List UInt8) × (List Tprovenderref6_link)))) => (⟨[(2, (V.ptr 0 4 0 0)), (4, (V.ptr 1 6 0 0)), (5, (V.ptr 2 6 0 0)), (6, (V.map 3)), (9, (V.map 4)), (11, (V.ptr 5 4 0 0)), (34, (V.lst 4 (a1.Funcs.map encTFunc))), (35, (iV ((a1.Funcs.length : Nat) : Int))), (36, (iV n20)), (46, (V.lst 4 (x29.Calls.map encTCall))), (47, (iV ((x29.Calls.length : Nat) : Int))), (48, (iV (p.1)))], [(0, (Ob.arr 27 4 [(encTGraph a1)])), (1, (Ob.arr 79 6 [[nV, nV, nV, nV, (V.con (.map none)), (V.con (.map none))]])), (2, (Ob.arr 79 6 [[(V.lst 2 (a1.Ifaces.map encTIface)), (V.lst 2 (a1.Types.map encTType)), (V.lst 4 (a1.Funcs.map encTFunc)), (V.lst 1 (a1.Entries.map encS)), (V.map 6), (V.map 7)]])), (3, (Ob.map (m4.map encM9_4))), (4, (Ob.map ((p.2.1).map encM59_96))), (5, (Ob.arr 62 4 [(encTFunc x29)])), (6, (Ob.map ((p.2.2).map encM9_155))), (7, (Ob.map ((mput m23 x29.Name x29).map encM9_62)))], 8⟩ : St)) (fun n p => RG x29.Calls (fun tl nn => M27_L3 F a1 m4 x29 k31 tl nn p.2.1 p.2.2 = some r) n p.1) (fun p h => RG.zero h) (x29.Calls.length + 1) (0, m21, m22) (RG.start h) (gr [0, 1, 2, 3, 4, 7, 5, 6] rfl (hB rfl rfl rfl (hB rfl rfl rfl (hB rfl rfl rfl (hM rfl rfl (hM rfl rfl (hB rfl rfl rfl (hM rfl rfl (hM rfl rfl .nil)))))))) rfl) (fun n p h => ?_)
     obtain ⟨n37, m38, m39⟩ := p
     refine rn 5 rfl ?_
     refine spL rfl (fun hb40 => ?_) (fun hb40 => ?_)
     ·obtain ⟨x44, tl, hx45, h, hk3⟩ := RG.t hA54 h hb40
      unfold M27_L3 at h
      refine rn 2 rfl ?_
      refine jK h (fun (p : (List (TCall × (List Tprovenderref6_aim))) × (List ((List UInt8) × (List Tprovenderref6_link)))) => (⟨[(2, (V.ptr 0 4 0 0)), (4, (V.ptr 1 6 0 0)), (5, (V.ptr 2 6 0 0)), (6, (V.map 3)), (9, (V.map 4)), (11, (V.ptr 5 4 0 0)), (34, (V.lst 4 (a1.Funcs.map encTFunc))), (35, (iV ((a1.Funcs.length : Nat) : Int))), (36, (iV n20)), (46, (V.lst 4 (x29.Calls.map encTCall))), (47, (iV ((x29.Calls.length : Nat) : Int))), (48, (iV n37))], [(0, (Ob.arr 27 4 [(encTGraph a1)])), (1, (Ob.arr 79 6 [[nV, nV, nV, nV, (V.con (.map none)), (V.con (.map none))]])), (2, (Ob.arr 79 6 [[(V.lst 2 (a1.Ifaces.map encTIface)), (V.lst 2 (a1.Types.map encTType)), (V.lst 4 (a1.Funcs.map encTFunc)), (V.lst 1 (a1.Entries.map encS)), (V.map 6), (V.map 7)]])), (3, (Ob.map (m4.map encM9_4))), (4, (Ob.map ((p.1).map encM59_96))), (5, (Ob.arr 62 4 [(encTFunc x29)])), (6, (Ob.map ((p.2).map encM9_155))), (7, (Ob.map ((mput m23 x29.Name x29).map encM9_62)))], 8⟩ : St)) (fun k41 p => k41 p.1 p.2 = some r) (fun k41 h => ?_) ?_
      ·refine rn 4 rfl ?_
       refine ixh hx45 rfl rfl ?_
       refine rn 11 rfl ?_
       refine aops_lookup _ (bV false) (bV ((mget m4 x44.Feature).getD false)) tMap52 tKey9 tZo4 (irel_con _) wants_none rfl (.own rfl) (.con rfl) ⟨_, rfl⟩ encM9_4_good (encM9_4_look m4 x44.Feature) (getD_map (encM9_4_val) (mget m4 x44.Feature) false) rfl ?_
       refine fo (rn 2 rfl ?_)
       refine spC h rfl (fun hb46 h => ?_) (fun hb46 h => ?_)
       ·refine rn 1 rfl ?_
        exact jX (m38, m39) h (gr [0, 1, 2, 3, 4, 5, 6, 7] rfl (hB rfl rfl rfl (hB rfl rfl rfl (hB rfl rfl rfl (hM rfl rfl (hM rfl rfl (hB rfl rfl rfl (hM rfl rfl (hM rfl rfl .nil)))))))) rfl)
       refine rn 17 rfl ?_
       refine aops_lookup_okB _ (V.lst 2 (([] : (List Tprovenderref6_aim)).map encTprovenderref6_aim)) (V.lst 2 (((mget m38 (TCall.mk x44.Kind x44.Target x44.Method ([] : List UInt8))).getD ([] : (List Tprovenderref6_aim))).map encTprovenderref6_aim)) tMap95 tKey59 tZo96 (fun _ => .nil _ _ _) wants_none rfl (.own rfl) (.agg (cv59 (TCall.mk x44.Kind x44.Target x44.Method ([] : List UInt8))) rfl) ⟨_, rfl⟩ encM59_96_good (encM59_96_look m38 (TCall.mk x44.Kind x44.Target x44.Method ([] : List UInt8))) (getD_map (encM59_96_val) (mget m38 (TCall.mk x44.Kind x44.Target x44.Method ([] : List UInt8))) ([] : (List Tprovenderref6_aim))) (isSome_map ..) rfl ?_
       refine fo (rn 12 rfl ?_)
       refine jK h (fun (p : (List Tprovenderref6_aim) × (List (TCall × (List Tprovenderref6_aim)))) => (⟨[(2, (V.ptr 0 4 0 0)), (4, (V.ptr 1 6 0 0)), (5, (V.ptr 2 6 0 0)), (6, (V.map 3)), (9, (V.map 4)), (11, (V.ptr 5 4 0 0)), (12, (iV n37)), (15, (V.lst 2 ((p.1).map encTprovenderref6_aim))), (34, (V.lst 4 (a1.Funcs.map encTFunc))), (35, (iV ((a1.Funcs.length : Nat) : Int))), (36, (iV n20)), (46, (V.lst 4 (x29.Calls.map encTCall))), (47, (iV ((x29.Calls.length : Nat) : Int))), (48, (iV n37))], [(0, (Ob.arr 27 4 [(encTGraph a1)])), (1, (Ob.arr 79 6 [[nV, nV, nV, nV, (V.con (.map none)), (V.con (.map none))]])), (2, (Ob.arr 79 6 [[(V.lst 2 (a1.Ifaces.map encTIface)), (V.lst 2 (a1.Types.map encTType)), (V.lst 4 (a1.Funcs.map encTFunc)), (V.lst 1 (a1.Entries.map encS)), (V.map 6), (V.map 7)]])), (3, (Ob.map (m4.map encM9_4))), (4, (Ob.map ((p.2).map encM59_96))), (5, (Ob.arr 62 4 [(encTFunc x29)])), (6, (Ob.map (m39.map encM9_155))), (7, (Ob.map ((mput m23 x29.Name x29).map encM9_62)))], 8⟩ : St)) (fun k47 p => k47 p.1 p.2 = some r) (fun k47 h => ?_) ?_
       ·refine spC h rfl (fun hb50 h => ?_) (fun hb50 h => ?_)
        ·refine rn 4 rfl ?_
         refine cl h rfl rfl rfl (W38 _ _ _) rfl (fun y51 hx52 h => ?_)
         refine rn 6 rfl ?_
         refine aops_mapUpdate (es := m38.map encM59_96) ((mput m38 (TCall.mk x44.Kind x44.Target x44.Method ([] : List UInt8)) y51).map encM59_96) tMap95 tKey59 wants_none rfl rfl (.agg (cv59 (TCall.mk x44.Kind x44.Target x44.Method ([] : List UInt8))) rfl) ⟨_, rfl⟩ encM59_96_good rfl (encM59_96_puts m38 (TCall.mk x44.Kind x44.Target x44.Method ([] : List UInt8)) y51) ?_
         refine fo (rn 1 rfl ?_)
         exact jX (y51, (mput m38 (TCall.mk x44.Kind x44.Target x44.Method ([] : List UInt8)) y51)) h (gr [0, 1, 2, 3, 4, 5, 6, 7] rfl (hB rfl rfl rfl (hB rfl rfl rfl (hB rfl rfl rfl (hM rfl rfl (hM rfl rfl (hB rfl rfl rfl (hM rfl rfl (hM rfl rfl .nil)))))))) rfl)
        refine rn 1 rfl ?_
        exact jX (((mget m38 (TCall.mk x44.Kind x44.Target x44.Method ([] : List UInt8))).getD ([] : (List Tprovenderref6_aim))), m38) h (gr [0, 1, 2, 3, 4, 5, 6, 7] rfl (hB rfl rfl rfl (hB rfl rfl rfl (hB rfl rfl rfl (hM rfl rfl (hM rfl rfl (hB rfl rfl rfl (hM rfl rfl (hM rfl rfl .nil)))))))) rfl)
       rintro ⟨l48, m49⟩ h
       refine ck h (fun hc53 h => ?_)
       refine awp_ghost ghost_res ?_
       refine awp_ghost ghost_res ?_
       refine fa ?_
       refine dr mixed (vs 8 rfl (xD (OD.mk [(84, (V.map 6)), (86, (sV x29.Name))] [(6, (Ob.map (m39.map encM9_155))), (8, Ob.res)] [(87, (V.own 8 ((mget m39 x29.Name).getD []).length))] [(6, (Ob.map (holeM encM9_155 8 x29.Name m39))), (8, (Ob.arr 103 3 (((mget m39 x29.Name).getD []).map encTprovenderref6_link)))]) ⟨⟨rfl, rfl, trivial⟩, ⟨rfl, rfl, trivial⟩⟩ (by exact fun S hn h hh => aops_lookup_tk_at 8 rfl hn hh.2.1 (n := ((mget m39 x29.Name).getD []).length) tMap76 tKey9 tZo99 wants_none h.1 hh.1 (.con h.2.1) ⟨_, rfl⟩ encM9_155_good (lookT_enc encM9_155 (fun k => str k) encTprovenderref6_link 103 3 8 (fun _ => rfl) inj_str x29.Name m39) (by simp) rfl (aops_nil ⟨rfl, rfl⟩)) rfl (vs 6 rfl (xD (OD.mk [(93, (V.agg [(sV x29.Name), (iV n37), (V.lst 2 (l48.map encTprovenderref6_aim))]))] [] [(94, (V.lst 3 (([(Tprovenderref6_link.mk (TSite.mk x29.Name n37) l48)] : List Tprovenderref6_link).map encTprovenderref6_link)))] []) ⟨⟨rfl, trivial⟩, trivial⟩ (by exact fun S hn h hh => aops_buildSlice_imm [(0, (V.agg [(sV x29.Name), (iV n37), (V.lst 2 (l48.map encTprovenderref6_aim))]))] [[(sV x29.Name), (iV n37), (V.lst 2 (l48.map encTprovenderref6_aim))]] tEl99 tZ103 wants_none rfl rfl rfl rfl (evp_cons h.1 evp_nil) rfl rfl (by simp) (imms_rows (.cons (.cons (Imm.con _) (.cons (Imm.con _) (.cons (Imm.lst _ _) .nil))) .nil)) rfl (aops_nil ⟨rfl, rfl⟩)) rfl (xD (OD.mk [(87, (V.own 8 ((mget m39 x29.Name).getD []).length)), (94, (V.lst 3 (([(Tprovenderref6_link.mk (TSite.mk x29.Name n37) l48)] : List Tprovenderref6_link).map encTprovenderref6_link)))] [(8, (Ob.arr 103 3 (((mget m39 x29.Name).getD []).map encTprovenderref6_link))), (9, Ob.res)] [(95, (V.own 9 (((mget m39 x29.Name).getD []) ++ ([(Tprovenderref6_link.mk (TSite.mk x29.Name n37) l48)] : List Tprovenderref6_link)).length))] [(9, (Ob.arr 103 3 ((((mget m39 x29.Name).getD []) ++ ([(Tprovenderref6_link.mk (TSite.mk x29.Name n37) l48)] : List Tprovenderref6_link)).map encTprovenderref6_link))), (8, Ob.dead)]) ⟨⟨rfl, rfl, trivial⟩, ⟨rfl, rfl, trivial⟩⟩ (by exact fun S hn h hh => aops_append_at 9 rfl hn hh.2.1 (([(Tprovenderref6_link.mk (TSite.mk x29.Name n37) l48)] : List Tprovenderref6_link).map encTprovenderref6_link) ((((mget m39 x29.Name).getD []) ++ ([(Tprovenderref6_link.mk (TSite.mk x29.Name n37) l48)] : List Tprovenderref6_link)).map encTprovenderref6_link) tEl99 tIsSl99 rfl rfl wants_none h.1 hh.1 (by simp) h.2.1 (.lst (rows_one one_encTprovenderref6_link)) (map_snoc encTprovenderref6_link ((mget m39 x29.Name).getD []) ([(Tprovenderref6_link.mk (TSite.mk x29.Name n37) l48)] : List Tprovenderref6_link)) (List.length_map ..) hc53 rfl (aops_nil ⟨rfl, rfl⟩)) rfl (xD (OD.mk [(80, (V.map 6)), (82, (sV x29.Name)), (95, (V.own 9 (((mget m39 x29.Name).getD []) ++ ([(Tprovenderref6_link.mk (TSite.mk x29.Name n37) l48)] : List Tprovenderref6_link)).length))] [(6, (Ob.map (holeM encM9_155 8 x29.Name m39))), (9, (Ob.arr 103 3 ((((mget m39 x29.Name).getD []) ++ ([(Tprovenderref6_link.mk (TSite.mk x29.Name n37) l48)] : List Tprovenderref6_link)).map encTprovenderref6_link)))] [] [(6, (Ob.map ((mput m39 x29.Name (((mget m39 x29.Name).getD []) ++ ([(Tprovenderref6_link.mk (TSite.mk x29.Name n37) l48)] : List Tprovenderref6_link))).map encM9_155))), (9, Ob.dead)]) ⟨⟨rfl, rfl, rfl, trivial⟩, ⟨rfl, rfl, trivial⟩⟩ (by exact fun S hn h hh => aops_mapUpdate_deepG (id2 := 9) (o := (V.own 9 (((mget m39 x29.Name).getD []) ++ ([(Tprovenderref6_link.mk (TSite.mk x29.Name n37) l48)] : List Tprovenderref6_link)).length)) (dv := (.dsl 103 3 ((((mget m39 x29.Name).getD []) ++ ([(Tprovenderref6_link.mk (TSite.mk x29.Name n37) l48)] : List Tprovenderref6_link)).map encTprovenderref6_link))) (ob := (.arr 103 3 ((((mget m39 x29.Name).getD []) ++ ([(Tprovenderref6_link.mk (TSite.mk x29.Name n37) l48)] : List Tprovenderref6_link)).map encTprovenderref6_link))) ((mput m39 x29.Name (((mget m39 x29.Name).getD []) ++ ([(Tprovenderref6_link.mk (TSite.mk x29.Name n37) l48)] : List Tprovenderref6_link))).map encM9_155) tMap76 tKey9 wants_none h.1 hh.1 (.con h.2.1) ⟨_, rfl⟩ (good_holeM (fun _ => ⟨_, rfl⟩)) h.2.2.1 (by simp [ovl]) hh.2.1 rfl (okeep_rows imms_encTprovenderref6_link (((mget m39 x29.Name).getD []) ++ ([(Tprovenderref6_link.mk (TSite.mk x29.Name n37) l48)] : List Tprovenderref6_link))) (puts_hole encM9_155 (fun k => str k) encTprovenderref6_link 103 3 8 (fun _ => rfl) inj_str x29.Name (((mget m39 x29.Name).getD []) ++ ([(Tprovenderref6_link.mk (TSite.mk x29.Name n37) l48)] : List Tprovenderref6_link)) m39) (aops_nil ⟨rfl, rfl⟩)) rfl .nil)))))) (by kernel_rfl) ?_
       refine rn 1 rfl ?_
       exact jX (m49, (mput m39 x29.Name (((mget m39 x29.Name).getD []) ++ ([(Tprovenderref6_link.mk (TSite.mk x29.Name n37) l48)] : List Tprovenderref6_link)))) h (gr [0, 1, 2, 3, 4, 5, 6, 7] rfl (hB rfl rfl rfl (hB rfl rfl rfl (hB rfl rfl rfl (hM rfl rfl (hM rfl rfl (hB rfl rfl rfl (hM rfl rfl (hM rfl rfl .nil)))))))) rfl)
      rintro ⟨m42, m43⟩ h
      refine rn 4 rfl ?_
      exact jX ((w64 (n37 + 1)), m42, m43) (hk3 _ h) (gr [0, 1, 2, 3, 4, 5, 6, 7] rfl (hB rfl rfl rfl (hB rfl rfl rfl (hB rfl rfl rfl (hM rfl rfl (hM rfl rfl (hB rfl rfl rfl (hM rfl rfl (hM rfl rfl .nil)))))))) rfl)
     replace h := RG.f h hb40
     unfold M27_L3 at h
     refine rn 1 rfl ?_
     exact jX (m38, m39) h (gr [0, 1, 2, 3, 4, 6, 7] rfl (hB rfl rfl rfl (hB rfl rfl rfl (hB rfl rfl rfl (hM rfl rfl (hM rfl rfl (hM rfl rfl (hM rfl rfl .nil))))))) rfl)
    rintro ⟨m32, m33⟩ h
    refine rn 1 rfl ?_
    exact jX (m32, m33, (mput m23 x29.Name x29)) h (gr [0, 1, 2, 3, 4, 5, 6] rfl (hB rfl rfl rfl (hB rfl rfl rfl (hB rfl rfl rfl (hM rfl rfl (hM rfl rfl (hM rfl rfl (hM rfl rfl .nil))))))) rfl)
   rintro ⟨m26, m27, m28⟩ h
   refine rn 4 rfl ?_
   exact jX ((w64 (n20 + 1)), m26, m27, m28) (hk2 _ h) (gr [0, 1, 2, 3, 4, 5, 6] rfl (hB rfl rfl rfl (hB rfl rfl rfl (hB rfl rfl rfl (hM rfl rfl (hM rfl rfl (hM rfl rfl (hM rfl rfl .nil))))))) rfl)
  replace h := RG.f h hb24
  unfold M27_L2 at h
  refine rn 1 rfl ?_
  exact jX (m22, m23) h (gr [1, 2, 5, 6] rfl (hB rfl rfl rfl (hB rfl rfl rfl (hM rfl rfl (hM rfl rfl .nil)))) rfl)
 rintro ⟨m14, m15⟩ h
 refine rn 5 rfl ?_
 refine awp_ghost (ghost_frzDMC 2 0 (m14.map encM9_99) (Ob.arr 79 6 [[(V.lst 2 (a1.Ifaces.map encTIface)), (V.lst 2 (a1.Types.map encTType)), (V.lst 4 (a1.Funcs.map encTFunc)), (V.lst 1 (a1.Entries.map encS)), (V.imap (m14.map encM9_99)), (V.map 3)]]) rfl (by simp) (und_map encM9_155_und _) (ObSub.box (.cons Sub.keepM (.cons Sub.keepM (.cons Sub.keepM (.cons Sub.keepM (.cons Sub.frzM (.cons Sub.keepM .nil)))))))) ?_
 refine awp_ghost (ghost_frzMC 3 0 (Ob.arr 79 6 [[(V.lst 2 (a1.Ifaces.map encTIface)), (V.lst 2 (a1.Types.map encTType)), (V.lst 4 (a1.Funcs.map encTFunc)), (V.lst 1 (a1.Entries.map encS)), (V.imap (m14.map encM9_99)), (V.imap (m15.map encM9_62))]]) rfl encM9_62_imm (ObSub.box (.cons Sub.keepM (.cons Sub.keepM (.cons Sub.keepM (.cons Sub.keepM (.cons Sub.keepM (.cons Sub.frzM .nil)))))))) ?_
 refine fa ?_
 exact rt h rfl
theorem W39 (F : Nat) (a1 : Tprovenderref6_net) (a2 : Int) (a3 : Tprovenderref6_sets) (r : Tprovenderref6_sets) (h : M39 F a1 a2 a3 = some r) : Pure Try.prog 39 [(V.agg (encTprovenderref6_net a1)), (iV a2), (V.agg (encTprovenderref6_sets a3))] (V.agg (encTprovenderref6_sets r)) := by
 refine pin (fun r => (V.agg (encTprovenderref6_sets r))) r rfl Try.func39 rfl rfl rfl rfl rfl (fun w0 m0 hg => ?_)
 unfold M39 at h
 refine rn 20 rfl ?_
 refine ln rfl rfl ?_
 refine rn 2 rfl ?_
 refine jK h (fun (p : (List ((List UInt8) × Bool))) => (⟨[(1, (iV a2)), (3, (V.ptr 0 6 0 0)), (5, (V.ptr 1 2 0 0)), (6, (V.ptr 2 2 0 0)), (7, (V.ptr 3 2 0 0))], [(0, (Ob.arr 79 6 [(encTprovenderref6_net a1)])), (1, (Ob.arr 75 2 [(encTprovenderref6_sets a3)])), (2, (Ob.arr 75 2 [[(V.con (.map none)), (V.con (.map none))]])), (3, (Ob.arr 75 2 [[(V.map 4), (V.map 5)]])), (4, (Ob.map (p.map encM9_4))), (5, (Ob.map (([] : List ((List UInt8) × Bool)).map encM9_4)))], 6⟩ : St)) (fun k4 p => k4 p = some r) (fun k4 h => ?_) ?_
 ·refine rn 1 rfl ?_
  refine wl (A := a1.g.Entries) 22 rfl (fun hA13 => ?_)
  refine lC (fun (p : Int × (List ((List UInt8) × Bool))) => (⟨[(1, (iV a2)), (3, (V.ptr 0 6 0 0)), (5, (V.ptr 1 2 0 0)), (6, (V.ptr 2 2 0 0)), (7, (V.ptr 3 2 0 0)), (22, (V.lst 1 (a1.g.Entries.map encS))), (23, (iV ((a1.g.Entries.length : Nat) : Int))), (24, (iV (p.1)))], [(0, (Ob.arr 79 6 [(encTprovenderref6_net a1)])), (1, (Ob.arr 75 2 [(encTprovenderref6_sets a3)])), (2, (Ob.arr 75 2 [[(V.con (.map none)), (V.con (.map none))]])), (3, (Ob.arr 75 2 [[(V.map 4), (V.map 5)]])), (4, (Ob.map ((p.2).map encM9_4))), (5, (Ob.map (([] : List ((List UInt8) × Bool)).map encM9_4)))], 6⟩ : St)) (fun n p => RG a1.g.Entries (fun tl nn => M39_L1 F k4 tl p.2 = some r) n p.1) (fun p h => RG.zero h) (a1.g.Entries.length + 1) (0, ([] : List ((List UInt8) × Bool))) (RG.start h) (gr [0, 1, 2, 5, 3, 4] rfl (hB rfl rfl rfl (hB rfl rfl rfl (hB rfl rfl rfl (hB rfl rfl rfl (hM rfl rfl (hM rfl rfl .nil)))))) rfl) (fun n p h => ?_)
  obtain ⟨n8, m9⟩ := p
  refine rn 5 rfl ?_
  refine spL rfl (fun hb10 => ?_) (fun hb10 => ?_)
  ·obtain ⟨x11, tl, hx12, h, hk1⟩ := RG.t hA13 h hb10
   unfold M39_L1 at h
   refine rn 5 rfl ?_
   refine ixh hx12 rfl rfl ?_
   refine rn 7 rfl ?_
   refine aops_mapUpdate (es := m9.map encM9_4) ((mput m9 x11 true).map encM9_4) tMap52 tKey9 wants_none rfl rfl (.con rfl) ⟨_, rfl⟩ encM9_4_good rfl (encM9_4_puts m9 x11 true) ?_
   refine aops_ghost (ghost_permM 4 rfl (canonM_map encM9_4 (mput m9 x11 true))) ?_
   refine fo (rn 6 rfl ?_)
   exact jX ((w64 (n8 + 1)), (canonM (mput m9 x11 true))) (hk1 _ h) (gr [0, 1, 2, 3, 4, 5] rfl (hB rfl rfl rfl (hB rfl rfl rfl (hB rfl rfl rfl (hB rfl rfl rfl (hM rfl rfl (hM rfl rfl .nil)))))) rfl)
  replace h := RG.f h hb10
  unfold M39_L1 at h
  refine rn 1 rfl ?_
  exact jX m9 h (gr [0, 1, 2, 3, 4, 5] rfl (hB rfl rfl rfl (hB rfl rfl rfl (hB rfl rfl rfl (hB rfl rfl rfl (hM rfl rfl (hM rfl rfl .nil)))))) rfl)
 intro m5 h
 refine rn 5 rfl ?_
 refine aops_range tMap52 wants_none rfl rfl ?_
 refine fo (rn 2 rfl ?_)
 refine lC (fun (p : (List ((List UInt8) × Bool)) × (List ((List UInt8) × Bool)) × (List ((List UInt8) × Bool))) => (⟨[(1, (iV a2)), (3, (V.ptr 0 6 0 0)), (5, (V.ptr 1 2 0 0)), (6, (V.ptr 2 2 0 0)), (7, (V.ptr 3 2 0 0)), (34, (V.ptr 4 1 0 0))], [(0, (Ob.arr 79 6 [(encTprovenderref6_net a1)])), (1, (Ob.arr 75 2 [(encTprovenderref6_sets a3)])), (2, (Ob.arr 75 2 [[(V.con (.map none)), (V.con (.map none))]])), (3, (Ob.arr 75 2 [[(V.map 5), (V.map 6)]])), (4, (Ob.iter [] ((p.1).map encM9_4))), (5, (Ob.map ((p.2.1).map encM9_4))), (6, (Ob.map ((p.2.2).map encM9_4)))], 7⟩ : St)) (fun n p => RM n p.1 (M39_L2 F a1 a2 a3 p.1 p.2.1 p.2.2 = some r)) (fun p h => RM.zero h) (a3.reached.length + 1) (a3.reached, m5, ([] : List ((List UInt8) × Bool))) (RM.start h) (gr [0, 1, 2, 3, 6, 4, 5] rfl (hB rfl rfl rfl (hB rfl rfl rfl (hB rfl rfl rfl (hB rfl rfl rfl (hI rfl rfl (hM rfl rfl (hM rfl rfl .nil))))))) rfl) (fun n p h => ?_)
 obtain ⟨l17, m18, m19⟩ := p
 refine rn 2 rfl ?_
 refine nxt rfl rfl wants_none rfl (fun hl2 => ?_) (fun e20 l21 hq2 hp2 => ?_)
 ·replace h := h.2
  subst hl2
  unfold M39_L2 at h
  refine rn 10 rfl ?_
  refine awp_ghost (ghost_frzMC 5 2 (Ob.arr 75 2 [[(V.imap (m18.map encM9_4)), (V.map 6)]]) rfl encM9_4_imm (ObSub.box (.cons Sub.frzM (.cons Sub.keepM .nil)))) ?_
  refine awp_ghost (ghost_frzMC 6 2 (Ob.arr 75 2 [[(V.imap (m18.map encM9_4)), (V.imap (m19.map encM9_4))]]) rfl encM9_4_imm (ObSub.box (.cons Sub.keepM (.cons Sub.frzM .nil)))) ?_
  refine fa ?_
  exact rt h rfl
 have hm2 := h
 replace h := ord_M39_L2 hp2 h.2
 unfold M39_L2 at h
 refine rn 5 rfl ?_
 refine jK h (fun (p : (List ((List UInt8) × Bool)) × (List ((List UInt8) × Bool))) => (⟨[(1, (iV a2)), (3, (V.ptr 0 6 0 0)), (5, (V.ptr 1 2 0 0)), (6, (V.ptr 2 2 0 0)), (7, (V.ptr 3 2 0 0)), (34, (V.ptr 4 1 0 0))], [(0, (Ob.arr 79 6 [(encTprovenderref6_net a1)])), (1, (Ob.arr 75 2 [(encTprovenderref6_sets a3)])), (2, (Ob.arr 75 2 [[(V.con (.map none)), (V.con (.map none))]])), (3, (Ob.arr 75 2 [[(V.map 5), (V.map 6)]])), (4, (Ob.iter [] (l21.map encM9_4))), (5, (Ob.map ((p.1).map encM9_4))), (6, (Ob.map ((p.2).map encM9_4)))], 7⟩ : St)) (fun k22 p => k22 p.1 p.2 = some r) (fun k22 h => ?_) ?_
 ·refine rn 3 rfl ?_
  refine aops_entry wants_none rfl rfl rfl ?_
  refine fo (rn 8 rfl ?_)
  refine aops_mapUpdate (es := m18.map encM9_4) ((mput m18 e20.1 true).map encM9_4) tMap52 tKey9 wants_none rfl rfl (.con rfl) ⟨_, rfl⟩ encM9_4_good rfl (encM9_4_puts m18 e20.1 true) ?_
  refine aops_ghost (ghost_permM 5 rfl (canonM_map encM9_4 (mput m18 e20.1 true))) ?_
  refine fo (rn 7 rfl ?_)
  refine aops_lookup _ (V.agg [(sV ([] : List UInt8)), (sV ([] : List UInt8)), (V.lst 4 (([] : List TCall).map encTCall)), (V.lst 1 (([] : List (List UInt8)).map encS))]) (V.agg (encTFunc ((mget a1.funcs e20.1).getD (TFunc.mk ([] : List UInt8) ([] : List UInt8) ([] : (List TCall)) ([] : (List (List UInt8))))))) tMap77 tKey9 tZo62 (irel_aggZ (.con (.con (.sl (.sl .nil))))) wants_none rfl .imm (.con rfl) ⟨_, rfl⟩ encM9_62_good (encM9_62_look a1.funcs e20.1) (getD_map (encM9_62_val) (mget a1.funcs e20.1) (TFunc.mk ([] : List UInt8) ([] : List UInt8) ([] : (List TCall)) ([] : (List (List UInt8))))) rfl ?_
  refine fo (rn 1 rfl ?_)
  refine ln rfl rfl ?_
  refine rn 2 rfl ?_
  refine jK h (fun (p : (List ((List UInt8) × Bool))) => (⟨[(1, (iV a2)), (3, (V.ptr 0 6 0 0)), (5, (V.ptr 1 2 0 0)), (6, (V.ptr 2 2 0 0)), (7, (V.ptr 3 2 0 0)), (10, (sV e20.1)), (34, (V.ptr 4 1 0 0))], [(0, (Ob.arr 79 6 [(encTprovenderref6_net a1)])), (1, (Ob.arr 75 2 [(encTprovenderref6_sets a3)])), (2, (Ob.arr 75 2 [[(V.con (.map none)), (V.con (.map none))]])), (3, (Ob.arr 75 2 [[(V.map 5), (V.map 6)]])), (4, (Ob.iter [] (l21.map encM9_4))), (5, (Ob.map ((canonM (mput m18 e20.1 true)).map encM9_4))), (6, (Ob.map (p.map encM9_4)))], 7⟩ : St)) (fun k25 p => k25 p = some r) (fun k25 h => ?_) ?_
  ·refine rn 1 rfl ?_
   refine wl (A := ((mget a1.funcs e20.1).getD (TFunc.mk ([] : List UInt8) ([] : List UInt8) ([] : (List TCall)) ([] : (List (List UInt8))))).Makes) 46 rfl (fun hA34 => ?_)
   refine lC (fun (p : Int × (List ((List UInt8) × Bool))) => (⟨[(1, (iV a2)), (3, (V.ptr 0 6 0 0)), (5, (V.ptr 1 2 0 0)), (6, (V.ptr 2 2 0 0)), (7, (V.ptr 3 2 0 0)), (10, (sV e20.1)), (34, (V.ptr 4 1 0 0)), (46, (V.lst 1 (((mget a1.funcs e20.1).getD (TFunc.mk ([] : List UInt8) ([] : List UInt8) ([] : (List TCall)) ([] : (List (List UInt8))))).Makes.map encS))), (47, (iV ((((mget a1.funcs e20.1).getD (TFunc.mk ([] : List UInt8) ([] : List UInt8) ([] : (List TCall)) ([] : (List (List UInt8))))).Makes.length : Nat) : Int))), (48, (iV (p.1)))], [(0, (Ob.arr 79 6 [(encTprovenderref6_net a1)])), (1, (Ob.arr 75 2 [(encTprovenderref6_sets a3)])), (2, (Ob.arr 75 2 [[(V.con (.map none)), (V.con (.map none))]])), (3, (Ob.arr 75 2 [[(V.map 5), (V.map 6)]])), (4, (Ob.iter [] (l21.map encM9_4))), (5, (Ob.map ((canonM (mput m18 e20.1 true)).map encM9_4))), (6, (Ob.map ((p.2).map encM9_4)))], 7⟩ : St)) (fun n p => RG (((mget a1.funcs e20.1).getD (TFunc.mk ([] : List UInt8) ([] : List UInt8) ([] : (List TCall)) ([] : (List (List UInt8))))).Makes) (fun tl nn => M39_L3 F k25 tl p.2 = some r) n p.1) (fun p h => RG.zero h) ((((mget a1.funcs e20.1).getD (TFunc.mk ([] : List UInt8) ([] : List UInt8) ([] : (List TCall)) ([] : (List (List UInt8))))).Makes).length + 1) (0, m19) (RG.start h) (gr [0, 1, 2, 3, 4, 5, 6] rfl (hB rfl rfl rfl (hB rfl rfl rfl (hB rfl rfl rfl (hB rfl rfl rfl (hI rfl rfl (hM rfl rfl (hM rfl rfl .nil))))))) rfl) (fun n p h => ?_)
   obtain ⟨n29, m30⟩ := p
   refine rn 5 rfl ?_
   refine spL rfl (fun hb31 => ?_) (fun hb31 => ?_)
   ·obtain ⟨x32, tl, hx33, h, hk3⟩ := RG.t hA34 h hb31
    unfold M39_L3 at h
    refine rn 5 rfl ?_
    refine ixh hx33 rfl rfl ?_
    refine rn 7 rfl ?_
    refine aops_mapUpdate (es := m30.map encM9_4) ((mput m30 x32 true).map encM9_4) tMap52 tKey9 wants_none rfl rfl (.con rfl) ⟨_, rfl⟩ encM9_4_good rfl (encM9_4_puts m30 x32 true) ?_
    refine aops_ghost (ghost_permM 6 rfl (canonM_map encM9_4 (mput m30 x32 true))) ?_
    refine fo (rn 6 rfl ?_)
    exact jX ((w64 (n29 + 1)), (canonM (mput m30 x32 true))) (hk3 _ h) (gr [0, 1, 2, 3, 4, 5, 6] rfl (hB rfl rfl rfl (hB rfl rfl rfl (hB rfl rfl rfl (hB rfl rfl rfl (hI rfl rfl (hM rfl rfl (hM rfl rfl .nil))))))) rfl)
   replace h := RG.f h hb31
   unfold M39_L3 at h
   refine rn 1 rfl ?_
   exact jX m30 h (gr [0, 1, 2, 3, 4, 5, 6] rfl (hB rfl rfl rfl (hB rfl rfl rfl (hB rfl rfl rfl (hB rfl rfl rfl (hI rfl rfl (hM rfl rfl (hM rfl rfl .nil))))))) rfl)
  intro m26 h
  refine rn 5 rfl ?_
  refine aops_lookup _ (V.lst 3 (([] : (List Tprovenderref6_link)).map encTprovenderref6_link)) (V.lst 3 (((mget a1.links e20.1).getD ([] : (List Tprovenderref6_link))).map encTprovenderref6_link)) tMap76 tKey9 tZo99 (fun _ => .nil _ _ _) wants_none rfl .imm (.con rfl) ⟨_, rfl⟩ encM9_99_good (encM9_99_look a1.links e20.1) (getD_map (encM9_99_val) (mget a1.links e20.1) ([] : (List Tprovenderref6_link))) rfl ?_
  refine fo ?_
  refine ln rfl rfl ?_
  refine rn 2 rfl ?_
  refine jK h (fun (p : (List ((List UInt8) × Bool))) => (⟨[(1, (iV a2)), (3, (V.ptr 0 6 0 0)), (5, (V.ptr 1 2 0 0)), (6, (V.ptr 2 2 0 0)), (7, (V.ptr 3 2 0 0)), (34, (V.ptr 4 1 0 0))], [(0, (Ob.arr 79 6 [(encTprovenderref6_net a1)])), (1, (Ob.arr 75 2 [(encTprovenderref6_sets a3)])), (2, (Ob.arr 75 2 [[(V.con (.map none)), (V.con (.map none))]])), (3, (Ob.arr 75 2 [[(V.map 5), (V.map 6)]])), (4, (Ob.iter [] (l21.map encM9_4))), (5, (Ob.map (p.map encM9_4))), (6, (Ob.map (m26.map encM9_4)))], 7⟩ : St)) (fun k35 p => k35 p = some r) (fun k35 h => ?_) ?_
  ·refine rn 1 rfl ?_
   refine wl (A := ((mget a1.links e20.1).getD ([] : (List Tprovenderref6_link)))) 59 rfl (fun hA63 => ?_)
   refine lC (fun (p : Int × (List ((List UInt8) × Bool))) => (⟨[(1, (iV a2)), (3, (V.ptr 0 6 0 0)), (5, (V.ptr 1 2 0 0)), (6, (V.ptr 2 2 0 0)), (7, (V.ptr 3 2 0 0)), (34, (V.ptr 4 1 0 0)), (59, (V.lst 3 (((mget a1.links e20.1).getD ([] : (List Tprovenderref6_link))).map encTprovenderref6_link))), (60, (iV ((((mget a1.links e20.1).getD ([] : (List Tprovenderref6_link))).length : Nat) : Int))), (61, (iV (p.1)))], [(0, (Ob.arr 79 6 [(encTprovenderref6_net a1)])), (1, (Ob.arr 75 2 [(encTprovenderref6_sets a3)])), (2, (Ob.arr 75 2 [[(V.con (.map none)), (V.con (.map none))]])), (3, (Ob.arr 75 2 [[(V.map 5), (V.map 6)]])), (4, (Ob.iter [] (l21.map encM9_4))), (5, (Ob.map ((p.2).map encM9_4))), (6, (Ob.map (m26.map encM9_4)))], 7⟩ : St)) (fun n p => RG ((mget a1.links e20.1).getD ([] : (List Tprovenderref6_link))) (fun tl nn => M39_L4 F a2 a3 k35 tl p.2 = some r) n p.1) (fun p h => RG.zero h) (((mget a1.links e20.1).getD ([] : (List Tprovenderref6_link))).length + 1) (0, (canonM (mput m18 e20.1 true))) (RG.start h) (gr [0, 1, 2, 3, 4, 5, 6] rfl (hB rfl rfl rfl (hB rfl rfl rfl (hB rfl rfl rfl (hB rfl rfl rfl (hI rfl rfl (hM rfl rfl (hM rfl rfl .nil))))))) rfl) (fun n p h => ?_)
   obtain ⟨n39, m40⟩ := p
   refine rn 5 rfl ?_
   refine spL rfl (fun hb41 => ?_) (fun hb41 => ?_)
   ·obtain ⟨x44, tl, hx45, h, hk4⟩ := RG.t hA63 h hb41
    unfold M39_L4 at h
    refine rn 2 rfl ?_
    refine jK h (fun (p : (List ((List UInt8) × Bool))) => (⟨[(1, (iV a2)), (3, (V.ptr 0 6 0 0)), (5, (V.ptr 1 2 0 0)), (6, (V.ptr 2 2 0 0)), (7, (V.ptr 3 2 0 0)), (34, (V.ptr 4 1 0 0)), (59, (V.lst 3 (((mget a1.links e20.1).getD ([] : (List Tprovenderref6_link))).map encTprovenderref6_link))), (60, (iV ((((mget a1.links e20.1).getD ([] : (List Tprovenderref6_link))).length : Nat) : Int))), (61, (iV n39))], [(0, (Ob.arr 79 6 [(encTprovenderref6_net a1)])), (1, (Ob.arr 75 2 [(encTprovenderref6_sets a3)])), (2, (Ob.arr 75 2 [[(V.con (.map none)), (V.con (.map none))]])), (3, (Ob.arr 75 2 [[(V.map 5), (V.map 6)]])), (4, (Ob.iter [] (l21.map encM9_4))), (5, (Ob.map (p.map encM9_4))), (6, (Ob.map (m26.map encM9_4)))], 7⟩ : St)) (fun k42 p => k42 p = some r) (fun k42 h => ?_) ?_
    ·refine rn 3 rfl ?_
     refine ixh hx45 rfl rfl ?_
     refine rn 8 rfl ?_
     refine ln rfl rfl ?_
     refine rn 2 rfl ?_
     refine jK h (fun (p : (List ((List UInt8) × Bool))) => (⟨[(1, (iV a2)), (3, (V.ptr 0 6 0 0)), (5, (V.ptr 1 2 0 0)), (6, (V.ptr 2 2 0 0)), (7, (V.ptr 3 2 0 0)), (34, (V.ptr 4 1 0 0)), (59, (V.lst 3 (((mget a1.links e20.1).getD ([] : (List Tprovenderref6_link))).map encTprovenderref6_link))), (60, (iV ((((mget a1.links e20.1).getD ([] : (List Tprovenderref6_link))).length : Nat) : Int))), (61, (iV n39))], [(0, (Ob.arr 79 6 [(encTprovenderref6_net a1)])), (1, (Ob.arr 75 2 [(encTprovenderref6_sets a3)])), (2, (Ob.arr 75 2 [[(V.con (.map none)), (V.con (.map none))]])), (3, (Ob.arr 75 2 [[(V.map 5), (V.map 6)]])), (4, (Ob.iter [] (l21.map encM9_4))), (5, (Ob.map (p.map encM9_4))), (6, (Ob.map (m26.map encM9_4)))], 7⟩ : St)) (fun k46 p => k46 p = some r) (fun k46 h => ?_) ?_
     ·refine rn 1 rfl ?_
      refine wl (A := x44.aims) 66 rfl (fun hA62 => ?_)
      refine lC (fun (p : Int × (List ((List UInt8) × Bool))) => (⟨[(1, (iV a2)), (3, (V.ptr 0 6 0 0)), (5, (V.ptr 1 2 0 0)), (6, (V.ptr 2 2 0 0)), (7, (V.ptr 3 2 0 0)), (34, (V.ptr 4 1 0 0)), (59, (V.lst 3 (((mget a1.links e20.1).getD ([] : (List Tprovenderref6_link))).map encTprovenderref6_link))), (60, (iV ((((mget a1.links e20.1).getD ([] : (List Tprovenderref6_link))).length : Nat) : Int))), (61, (iV n39)), (66, (V.lst 2 (x44.aims.map encTprovenderref6_aim))), (67, (iV ((x44.aims.length : Nat) : Int))), (68, (iV (p.1)))], [(0, (Ob.arr 79 6 [(encTprovenderref6_net a1)])), (1, (Ob.arr 75 2 [(encTprovenderref6_sets a3)])), (2, (Ob.arr 75 2 [[(V.con (.map none)), (V.con (.map none))]])), (3, (Ob.arr 75 2 [[(V.map 5), (V.map 6)]])), (4, (Ob.iter [] (l21.map encM9_4))), (5, (Ob.map ((p.2).map encM9_4))), (6, (Ob.map (m26.map encM9_4)))], 7⟩ : St)) (fun n p => RG x44.aims (fun tl nn => M39_L5 F a2 a3 k46 tl p.2 = some r) n p.1) (fun p h => RG.zero h) (x44.aims.length + 1) (0, m40) (RG.start h) (gr [0, 1, 2, 3, 4, 5, 6] rfl (hB rfl rfl rfl (hB rfl rfl rfl (hB rfl rfl rfl (hB rfl rfl rfl (hI rfl rfl (hM rfl rfl (hM rfl rfl .nil))))))) rfl) (fun n p h => ?_)
      obtain ⟨n50, m51⟩ := p
      refine rn 5 rfl ?_
      refine spL rfl (fun hb52 => ?_) (fun hb52 => ?_)
      ·obtain ⟨x55, tl, hx56, h, hk5⟩ := RG.t hA62 h hb52
       unfold M39_L5 at h
       refine rn 2 rfl ?_
       refine jK h (fun (p : (List ((List UInt8) × Bool))) => (⟨[(1, (iV a2)), (3, (V.ptr 0 6 0 0)), (5, (V.ptr 1 2 0 0)), (6, (V.ptr 2 2 0 0)), (7, (V.ptr 3 2 0 0)), (34, (V.ptr 4 1 0 0)), (59, (V.lst 3 (((mget a1.links e20.1).getD ([] : (List Tprovenderref6_link))).map encTprovenderref6_link))), (60, (iV ((((mget a1.links e20.1).getD ([] : (List Tprovenderref6_link))).length : Nat) : Int))), (61, (iV n39)), (66, (V.lst 2 (x44.aims.map encTprovenderref6_aim))), (67, (iV ((x44.aims.length : Nat) : Int))), (68, (iV n50))], [(0, (Ob.arr 79 6 [(encTprovenderref6_net a1)])), (1, (Ob.arr 75 2 [(encTprovenderref6_sets a3)])), (2, (Ob.arr 75 2 [[(V.con (.map none)), (V.con (.map none))]])), (3, (Ob.arr 75 2 [[(V.map 5), (V.map 6)]])), (4, (Ob.iter [] (l21.map encM9_4))), (5, (Ob.map (p.map encM9_4))), (6, (Ob.map (m26.map encM9_4)))], 7⟩ : St)) (fun k53 p => k53 p = some r) (fun k53 h => ?_) ?_
       ·refine rn 3 rfl ?_
        refine ixh hx56 rfl rfl ?_
        refine rn 9 rfl ?_
        refine spO 74 h rfl (fun hb57 h => ?_) (fun hb57 h => ?_)
        ·refine rn 18 rfl ?_
         refine aops_mapUpdate (es := m51.map encM9_4) ((mput m51 x55.to true).map encM9_4) tMap52 tKey9 wants_none rfl rfl (.con rfl) ⟨_, rfl⟩ encM9_4_good rfl (encM9_4_puts m51 x55.to true) ?_
         refine aops_ghost (ghost_permM 5 rfl (canonM_map encM9_4 (mput m51 x55.to true))) ?_
         refine fo (rn 2 rfl ?_)
         exact jX (canonM (mput m51 x55.to true)) h (gr [0, 1, 2, 3, 4, 5, 6] rfl (hB rfl rfl rfl (hB rfl rfl rfl (hB rfl rfl rfl (hB rfl rfl rfl (hI rfl rfl (hM rfl rfl (hM rfl rfl .nil))))))) rfl)
        refine rn 5 rfl ?_
        refine spO 79 h rfl (fun hb58 h => ?_) (fun hb58 h => ?_)
        ·refine rn 13 rfl ?_
         refine aops_mapUpdate (es := m51.map encM9_4) ((mput m51 x55.to true).map encM9_4) tMap52 tKey9 wants_none rfl rfl (.con rfl) ⟨_, rfl⟩ encM9_4_good rfl (encM9_4_puts m51 x55.to true) ?_
         refine aops_ghost (ghost_permM 5 rfl (canonM_map encM9_4 (mput m51 x55.to true))) ?_
         refine fo (rn 2 rfl ?_)
         exact jX (canonM (mput m51 x55.to true)) h (gr [0, 1, 2, 3, 4, 5, 6] rfl (hB rfl rfl rfl (hB rfl rfl rfl (hB rfl rfl rfl (hB rfl rfl rfl (hI rfl rfl (hM rfl rfl (hM rfl rfl .nil))))))) rfl)
        refine rn 4 rfl ?_
        refine aops_lookup _ (bV false) (bV ((mget a3.made x55.typ).getD false)) tMap52 tKey9 tZo4 (irel_con _) (wants_some (c := false) (b := false) 79 rfl rfl rfl) rfl .imm (.con rfl) ⟨_, rfl⟩ encM9_4_good (encM9_4_look a3.made x55.typ) (getD_map (encM9_4_val) (mget a3.made x55.typ) false) rfl ?_
        refine fo (rn 2 rfl ?_)
        refine jK h (fun (p : (List ((List UInt8) × Bool))) => (⟨[(1, (iV a2)), (3, (V.ptr 0 6 0 0)), (5, (V.ptr 1 2 0 0)), (6, (V.ptr 2 2 0 0)), (7, (V.ptr 3 2 0 0)), (34, (V.ptr 4 1 0 0)), (59, (V.lst 3 (((mget a1.links e20.1).getD ([] : (List Tprovenderref6_link))).map encTprovenderref6_link))), (60, (iV ((((mget a1.links e20.1).getD ([] : (List Tprovenderref6_link))).length : Nat) : Int))), (61, (iV n39)), (66, (V.lst 2 (x44.aims.map encTprovenderref6_aim))), (67, (iV ((x44.aims.length : Nat) : Int))), (68, (iV n50)), (77, (bV (x55.typ == ([] : List UInt8)))), (84, (bV ((mget a3.made x55.typ).getD false)))], [(0, (Ob.arr 79 6 [(encTprovenderref6_net a1)])), (1, (Ob.arr 75 2 [(encTprovenderref6_sets a3)])), (2, (Ob.arr 75 2 [[(V.con (.map none)), (V.con (.map none))]])), (3, (Ob.arr 75 2 [[(V.map 5), (V.map 6)]])), (4, (Ob.iter [] (l21.map encM9_4))), (5, (Ob.map (p.map encM9_4))), (6, (Ob.map (m26.map encM9_4)))], 7⟩ : St)) (fun k59 p => k59 p = some r) (fun k59 h => ?_) ?_
        ·refine spC h rfl (fun hb61 h => ?_) (fun hb61 h => ?_)
         ·refine rn 5 rfl ?_
          refine aops_mapUpdate (es := m51.map encM9_4) ((mput m51 x55.to true).map encM9_4) tMap52 tKey9 wants_none rfl rfl (.con rfl) ⟨_, rfl⟩ encM9_4_good rfl (encM9_4_puts m51 x55.to true) ?_
          refine aops_ghost (ghost_permM 5 rfl (canonM_map encM9_4 (mput m51 x55.to true))) ?_
          refine fo (rn 1 rfl ?_)
          exact jX (canonM (mput m51 x55.to true)) h (gr [0, 1, 2, 3, 4, 5, 6] rfl (hB rfl rfl rfl (hB rfl rfl rfl (hB rfl rfl rfl (hB rfl rfl rfl (hI rfl rfl (hM rfl rfl (hM rfl rfl .nil))))))) rfl)
         refine rn 1 rfl ?_
         exact jX m51 h (gr [0, 1, 2, 3, 4, 5, 6] rfl (hB rfl rfl rfl (hB rfl rfl rfl (hB rfl rfl rfl (hB rfl rfl rfl (hI rfl rfl (hM rfl rfl (hM rfl rfl .nil))))))) rfl)
        intro m60 h
        refine rn 1 rfl ?_
        exact jX m60 h (gr [0, 1, 2, 3, 4, 5, 6] rfl (hB rfl rfl rfl (hB rfl rfl rfl (hB rfl rfl rfl (hB rfl rfl rfl (hI rfl rfl (hM rfl rfl (hM rfl rfl .nil))))))) rfl)
       intro m54 h
       refine rn 4 rfl ?_
       exact jX ((w64 (n50 + 1)), m54) (hk5 _ h) (gr [0, 1, 2, 3, 4, 5, 6] rfl (hB rfl rfl rfl (hB rfl rfl rfl (hB rfl rfl rfl (hB rfl rfl rfl (hI rfl rfl (hM rfl rfl (hM rfl rfl .nil))))))) rfl)
      replace h := RG.f h hb52
      unfold M39_L5 at h
      refine rn 1 rfl ?_
      exact jX m51 h (gr [0, 1, 2, 3, 4, 5, 6] rfl (hB rfl rfl rfl (hB rfl rfl rfl (hB rfl rfl rfl (hB rfl rfl rfl (hI rfl rfl (hM rfl rfl (hM rfl rfl .nil))))))) rfl)
     intro m47 h
     refine rn 1 rfl ?_
     exact jX m47 h (gr [0, 1, 2, 3, 4, 5, 6] rfl (hB rfl rfl rfl (hB rfl rfl rfl (hB rfl rfl rfl (hB rfl rfl rfl (hI rfl rfl (hM rfl rfl (hM rfl rfl .nil))))))) rfl)
    intro m43 h
    refine rn 4 rfl ?_
    exact jX ((w64 (n39 + 1)), m43) (hk4 _ h) (gr [0, 1, 2, 3, 4, 5, 6] rfl (hB rfl rfl rfl (hB rfl rfl rfl (hB rfl rfl rfl (hB rfl rfl rfl (hI rfl rfl (hM rfl rfl (hM rfl rfl .nil))))))) rfl)
   replace h := RG.f h hb41
   unfold M39_L4 at h
   refine rn 1 rfl ?_
   exact jX m40 h (gr [0, 1, 2, 3, 4, 5, 6] rfl (hB rfl rfl rfl (hB rfl rfl rfl (hB rfl rfl rfl (hB rfl rfl rfl (hI rfl rfl (hM rfl rfl (hM rfl rfl .nil))))))) rfl)
  intro m36 h
  refine rn 1 rfl ?_
  exact jX (m36, m26) h (gr [0, 1, 2, 3, 4, 5, 6] rfl (hB rfl rfl rfl (hB rfl rfl rfl (hB rfl rfl rfl (hB rfl rfl rfl (hI rfl rfl (hM rfl rfl (hM rfl rfl .nil))))))) rfl)
 rintro ⟨m23, m24⟩ h
 exact jX (l21, m23, m24) (RM.step hm2 hq2 h) (gr [0, 1, 2, 3, 4, 5, 6] rfl (hB rfl rfl rfl (hB rfl rfl rfl (hB rfl rfl rfl (hB rfl rfl rfl (hI rfl rfl (hM rfl rfl (hM rfl rfl .nil))))))) rfl)
theorem W28 (F : Nat) (a1 : Tprovenderref6_net) (a2 : Int) (r : Tprovenderref6_sets) (h : M28 F a1 a2 = some r) : Pure Try.prog 28 [(V.agg (encTprovenderref6_net a1)), (iV a2)] (V.agg (encTprovenderref6_sets r)) := by
 refine pin (fun r => (V.agg (encTprovenderref6_sets r))) r rfl Try.func28 rfl rfl rfl rfl rfl (fun w0 m0 hg => ?_)
 unfold M28 at h
 refine rn 14 rfl ?_
 refine lC (fun (p : (List ((List UInt8) × Bool)) × (List ((List UInt8) × Bool))) => (⟨[(1, (iV a2)), (2, (V.ptr 0 6 0 0)), (4, (V.ptr 1 2 0 0)), (5, (V.ptr 2 2 0 0))], [(0, (Ob.arr 79 6 [(encTprovenderref6_net a1)])), (1, (Ob.arr 75 2 [[(V.con (.map none)), (V.con (.map none))]])), (2, (Ob.arr 75 2 [[(V.imap ((p.1).map encM9_4)), (V.imap ((p.2).map encM9_4))]]))], 3⟩ : St)) (fun n p => M28_L1 F a1 a2 n p.1 p.2 = some r) (fun p h => by simp [M28_L1] at h) F (([] : List ((List UInt8) × Bool)), ([] : List ((List UInt8) × Bool))) h (Ghost.trans (ghost_frzMx (es := ([] : List ((List UInt8) × Bool)).map encM9_4) 2 rfl encM9_4_imm (.put (t := 9) rfl (Sub.agg (.cons Sub.frzM (.cons Sub.keepM .nil))) (.put (t := 7) rfl Sub.frzM .refl)) (.put (t := 4) (v := (Ob.arr 75 2 [[(V.imap (([] : List ((List UInt8) × Bool)).map encM9_4)), (V.map 3)]])) rfl (ObSub.box (.cons Sub.frzM (.cons Sub.keepM .nil))) .refl)) (Ghost.trans (ghost_frzMx (es := ([] : List ((List UInt8) × Bool)).map encM9_4) 3 rfl encM9_4_imm (.put (t := 9) rfl (Sub.agg (.cons Sub.keepM (.cons Sub.frzM .nil))) (.put (t := 8) rfl Sub.frzM .refl)) (.put (t := 4) (v := (Ob.arr 75 2 [[(V.imap (([] : List ((List UInt8) × Bool)).map encM9_4)), (V.imap (([] : List ((List UInt8) × Bool)).map encM9_4))]])) rfl (ObSub.box (.cons Sub.keepM (.cons Sub.frzM .nil))) .refl)) (gr [0, 1, 4] rfl (hB rfl rfl rfl (hB rfl rfl rfl (hB rfl rfl rfl .nil))) rfl))) (fun n p h => ?_)
 obtain ⟨m5, m6⟩ := p
 unfold M28_L1 at h
 refine rn 6 rfl ?_
 refine cl h rfl rfl rfl (W39 _ _ _ _) rfl (fun y7 hx8 h => ?_)
 refine rn 8 rfl ?_
 refine aops_lenM (n := y7.reached.length) (es := y7.reached.map encM9_4) tMap52 wants_none rfl .imm (List.length_map ..) rfl ?_
 refine fo (rn 2 rfl ?_)
 refine aops_lenM (n := m5.length) (es := m5.map encM9_4) tMap52 wants_none rfl .imm (List.length_map ..) rfl ?_
 refine fo (rn 2 rfl ?_)
 refine spO 21 h rfl (fun hb9 h => ?_) (fun hb9 h => ?_)
 ·refine rn 2 rfl ?_
  refine aops_lenM (n := y7.made.length) (es := y7.made.map encM9_4) tMap52 (wants_some (c := true) (b := true) 21 rfl rfl rfl) rfl .imm (List.length_map ..) rfl ?_
  refine fo (rn 2 rfl ?_)
  refine aops_lenM (n := m6.length) (es := m6.map encM9_4) tMap52 (wants_some (c := true) (b := true) 21 rfl rfl rfl) rfl .imm (List.length_map ..) rfl ?_
  refine fo (rn 3 rfl ?_)
  refine spC h rfl (fun hb10 h => ?_) (fun hb10 h => ?_)
  ·refine rn 5 rfl ?_
   exact rt h rfl
  refine rn 6 rfl ?_
  exact jX (y7.reached, y7.made) h (gr [0, 1, 2] rfl (hB rfl rfl rfl (hB rfl rfl rfl (hB rfl rfl rfl .nil))) rfl)
 refine rn 16 rfl ?_
 exact jX (y7.reached, y7.made) h (gr [0, 1, 2] rfl (hB rfl rfl rfl (hB rfl rfl rfl (hB rfl rfl rfl .nil))) rfl)
theorem W17 (F : Nat) (a1 : TGraph) (a2 : Int) (a3 : (List (List UInt8))) (a4 : (List UInt8)) (r : Bool) (h : M17 F a1 a2 a3 a4 = some r) : Pure Try.prog 17 [(V.agg (encTGraph a1)), (iV a2), (V.lst 1 (a3.map encS)), (sV a4)] (bV r) := by
 refine pin (fun r => (bV r)) r rfl Try.func17 rfl rfl rfl rfl rfl (fun w0 m0 hg => ?_)
 unfold M17 at h
 refine rn 9 rfl ?_
 refine cl h rfl rfl rfl (W27 _ _ _) rfl (fun y5 hx6 h => ?_)
 refine rn 1 rfl ?_
 refine cl h rfl rfl rfl (W28 _ _ _) rfl (fun y7 hx8 h => ?_)
 refine rn 2 rfl ?_
 refine aops_lookup _ (bV false) (bV ((mget y7.reached a4).getD false)) tMap52 tKey9 tZo4 (irel_con _) wants_none rfl .imm (.con rfl) ⟨_, rfl⟩ encM9_4_good (encM9_4_look y7.reached a4) (getD_map (encM9_4_val) (mget y7.reached a4) false) rfl ?_
 refine fo (rn 2 rfl ?_)
 exact rt h rfl
theorem W5 (F : Nat) (a1 : TGraph) (a2 : Int) (a3 : (List (List UInt8))) (a4 : (List UInt8)) (r : ((List (List UInt8)) × Bool × Int)) (h : M5 F a1 a2 a3 a4 = some r) : Pure Try.prog 5 [(V.agg (encTGraph a1)), (iV a2), (V.lst 1 (a3.map encS)), (sV a4)] (V.tup [(V.lst 1 ((r.1).map encS)), (bV (r.2.1)), (iV (r.2.2))]) := by
 refine pin (fun r => (V.tup [(V.lst 1 ((r.1).map encS)), (bV (r.2.1)), (iV (r.2.2))])) r rfl Try.func5 rfl rfl rfl rfl rfl (fun w0 m0 hg => ?_)
 unfold M5 at h
 refine rn 14 rfl ?_
 refine aops_buildSlice [(0, (sV a4))] [[(sV a4)]] tEl25 tZ9 rfl rfl rfl rfl wants_none (evp_cons rfl evp_nil) rfl rfl (by simp) rfl ?_
 obtain ⟨y5, hx6, h⟩ := bind_some h
 refine aops_lend_call (iV y5) [(V.agg (encTGraph a1)), (iV a2), (V.lst 1 (a3.map encS)), (V.lst 1 (([a4] : List (List UInt8)).map encS))] fOk16 (ghost_frzE 1 22 rfl (imms_rows (.cons (.cons (Imm.con _) .nil) .nil)) rfl rfl) (Flat.con _) wants_none (evm_cons rfl (evm_cons rfl (evm_cons rfl (evm_cons rfl evm_nil)))) (.cons (Imm.agg (imms_encTGraph _)) (.cons (Imm.con _) (.cons (Imm.lst _ _) (.cons (Imm.lst _ _) .nil)))) (W16 F a1 a2 a3 ([a4] : List (List UInt8)) y5 hx6) rfl ?_
 refine fo (rn 7 rfl ?_)
 refine spC h rfl (fun hb7 h => ?_) (fun hb7 h => ?_)
 ·refine rn 7 rfl ?_
  exact rt h rfl
 refine rn 8 rfl ?_
 refine cl h rfl rfl rfl (W17 _ _ _ _ _) rfl (fun y8 hx9 h => ?_)
 refine rn 2 rfl ?_
 refine spC h rfl (fun hb10 h => ?_) (fun hb10 h => ?_)
 ·refine rn 6 rfl ?_
  exact rt h rfl
 refine rn 10 rfl ?_
 refine ln rfl rfl ?_
 refine rn 2 rfl ?_
 refine jK h (fun (p : (List (List UInt8))) => (⟨[(12, (V.lst 1 (p.map encS)))], [], 0⟩ : St)) (fun k11 p => k11 p = some r) (fun k11 h => ?_) ?_
 ·refine rn 1 rfl ?_
  refine wl (A := a3) 2 rfl (fun hA41 => ?_)
  refine lC (fun (p : (List (List UInt8)) × Int) => (⟨[(1, (iV a2)), (3, (sV a4)), (4, (V.ptr 0 4 0 0)), (12, (V.lst 1 ((p.1).map encS))), (34, (V.lst 1 (a3.map encS))), (35, (iV ((a3.length : Nat) : Int))), (36, (iV (p.2)))], [(0, (Ob.arr 27 4 [(encTGraph a1)]))], 1⟩ : St)) (fun n p => RG a3 (fun tl nn => M5_L1 F a1 a2 a4 k11 tl p.1 = some r) n p.2) (fun p h => RG.zero h) (a3.length + 1) (a3, 0) (RG.start h) (gr [0] rfl (hB rfl rfl rfl .nil) rfl) (fun n p h => ?_)
  obtain ⟨l15, n16⟩ := p
  refine rn 5 rfl ?_
  refine spL rfl (fun hb17 => ?_) (fun hb17 => ?_)
  ·obtain ⟨x20, tl, hx21, h, hk1⟩ := RG.t hA41 h hb17
   unfold M5_L1 at h
   refine rn 2 rfl ?_
   refine jK h (fun (p : (List (List UInt8))) => (⟨[(1, (iV a2)), (3, (sV a4)), (4, (V.ptr 0 4 0 0)), (12, (V.lst 1 (p.map encS))), (34, (V.lst 1 (a3.map encS))), (35, (iV ((a3.length : Nat) : Int))), (36, (iV n16))], [(0, (Ob.arr 27 4 [(encTGraph a1)]))], 1⟩ : St)) (fun k18 p => k18 p = some r) (fun k18 h => ?_) ?_
   ·refine rn 3 rfl ?_
    refine ixh hx21 rfl rfl ?_
    refine rn 11 rfl ?_
    refine ln rfl rfl ?_
    refine rn 2 rfl ?_
    refine jK h (fun (p : (List (List UInt8))) => (⟨[(1, (iV a2)), (3, (sV a4)), (4, (V.ptr 0 4 0 0)), (12, (V.lst 1 (l15.map encS))), (15, (V.own 1 p.length)), (34, (V.lst 1 (a3.map encS))), (35, (iV ((a3.length : Nat) : Int))), (36, (iV n16))], [(0, (Ob.arr 27 4 [(encTGraph a1)])), (1, (Ob.arr 9 1 (p.map encS)))], 2⟩ : St)) (fun k22 p => k22 p = some r) (fun k22 h => ?_) ?_
    ·refine rn 1 rfl ?_
     refine wl (A := l15) 12 rfl (fun hA35 => ?_)
     refine lC (fun (p : Int × (List (List UInt8))) => (⟨[(1, (iV a2)), (3, (sV a4)), (4, (V.ptr 0 4 0 0)), (12, (V.lst 1 (l15.map encS))), (14, (sV x20)), (15, (V.own 1 (p.2).length)), (34, (V.lst 1 (a3.map encS))), (35, (iV ((a3.length : Nat) : Int))), (36, (iV n16)), (40, (V.lst 1 (l15.map encS))), (41, (iV ((l15.length : Nat) : Int))), (42, (iV (p.1)))], [(0, (Ob.arr 27 4 [(encTGraph a1)])), (1, (Ob.arr 9 1 ((p.2).map encS)))], 2⟩ : St)) (fun n p => RG l15 (fun tl nn => M5_L2 F x20 k22 tl p.2 = some r) n p.1) (fun p h => RG.zero h) (l15.length + 1) (0, ([] : List (List UInt8))) (RG.start h) (Ghost.trans (ghost_nilE 15 9 1 rfl) (ghost_ren 2 (fun i => ([0, 1] : List Nat).getD i 0) _ _ (by decide) (EnvSub.get (.cons (Sub.imm (Imm.con _)) (.cons (Sub.imm (Imm.con _)) (.cons (Sub.ptr rfl rfl) (.cons (Sub.imm (Imm.lst _ _)) (.cons (Sub.imm (Imm.con _)) (.cons (Sub.ownE rfl rfl (by simp)) (.cons (Sub.imm (Imm.lst _ _)) (.cons (Sub.imm (Imm.con _)) (.cons (Sub.imm (Imm.con _)) (.cons (Sub.imm (Imm.lst _ _)) (.cons (Sub.imm (Imm.con _)) (.cons (Sub.imm (Imm.con _)) .nil))))))))))))) (HpSub.get (.cons rfl (ObSub.box (.cons (Sub.imm (Imm.lst _ _)) (.cons (Sub.imm (Imm.lst _ _)) (.cons (Sub.imm (Imm.lst _ _)) (.cons (Sub.imm (Imm.lst _ _)) .nil))))) (.cons rfl (ObSub.rows (rows_imm imms_encS)) .nil))) rfl)) (fun n p h => ?_)
     obtain ⟨n26, l27⟩ := p
     refine rn 5 rfl ?_
     refine spL rfl (fun hb28 => ?_) (fun hb28 => ?_)
     ·obtain ⟨x29, tl, hx30, h, hk2⟩ := RG.t hA35 h hb28
      unfold M5_L2 at h
      refine rn 5 rfl ?_
      refine ixh hx30 rfl rfl ?_
      refine rn 9 rfl ?_
      refine jK h (fun (p : (List (List UInt8))) => (⟨[(1, (iV a2)), (3, (sV a4)), (4, (V.ptr 0 4 0 0)), (12, (V.lst 1 (l15.map encS))), (14, (sV x20)), (15, (V.own 1 p.length)), (34, (V.lst 1 (a3.map encS))), (35, (iV ((a3.length : Nat) : Int))), (36, (iV n16)), (40, (V.lst 1 (l15.map encS))), (41, (iV ((l15.length : Nat) : Int))), (42, (iV n26))], [(0, (Ob.arr 27 4 [(encTGraph a1)])), (1, (Ob.arr 9 1 (p.map encS)))], 2⟩ : St)) (fun k31 p => k31 p = some r) (fun k31 h => ?_) ?_
      ·refine spC h rfl (fun hb33 h => ?_) (fun hb33 h => ?_)
       ·refine rn 3 rfl ?_
        refine aops_buildSlice [(0, (sV x29))] [[(sV x29)]] tEl25 tZ9 rfl rfl rfl rfl wants_none (evp_cons rfl evp_nil) rfl rfl (by simp) rfl ?_
        refine fo ?_
        refine apO encS h rfl rfl rfl rfl rfl rfl rfl rfl (fun h => ?_)
        refine rn 2 rfl ?_
        exact jX (l27 ++ ([x29] : List (List UInt8))) h (gr [0, 3] rfl (hB rfl rfl rfl (hR rfl rfl .nil)) rfl)
       refine rn 1 rfl ?_
       exact jX l27 h (gr [0, 1] rfl (hB rfl rfl rfl (hR rfl rfl .nil)) rfl)
      intro l32 h
      refine rn 5 rfl ?_
      exact jX ((w64 (n26 + 1)), l32) (hk2 _ h) (gr [0, 1] rfl (hB rfl rfl rfl (hR rfl rfl .nil)) rfl)
     replace h := RG.f h hb28
     unfold M5_L2 at h
     refine rn 1 rfl ?_
     exact jX l27 h (gr [0, 1] rfl (hB rfl rfl rfl (hR rfl rfl .nil)) rfl)
    intro l23 h
    obtain ⟨y36, hx37, h⟩ := bind_some h
    refine rn 6 rfl ?_
    refine aops_lend_call (bV y36) [(V.agg (encTGraph a1)), (iV a2), (V.lst 1 (l23.map encS)), (sV a4)] fOk17 (ghost_frzEs 1 [56, 15] rfl (rows_imm imms_encS) (List.forall_mem_cons.2 ⟨rfl, (List.forall_mem_cons.2 ⟨rfl, (fun _ hx => nomatch hx)⟩)⟩) (List.length_map ..).symm) (Flat.con _) wants_none (evm_cons rfl (evm_cons rfl (evm_cons rfl (evm_cons rfl evm_nil)))) (.cons (Imm.agg (imms_encTGraph _)) (.cons (Imm.con _) (.cons (Imm.lst _ _) (.cons (Imm.con _) .nil)))) (W17 F a1 a2 l23 a4 y36 hx37) rfl ?_
    refine fo (rn 1 rfl ?_)
    refine jK h (fun (p : (List (List UInt8))) => (⟨[(1, (iV a2)), (3, (sV a4)), (4, (V.ptr 0 4 0 0)), (12, (V.lst 1 (p.map encS))), (34, (V.lst 1 (a3.map encS))), (35, (iV ((a3.length : Nat) : Int))), (36, (iV n16))], [(0, (Ob.arr 27 4 [(encTGraph a1)]))], 1⟩ : St)) (fun k38 p => k38 p = some r) (fun k38 h => ?_) ?_
    ·refine spC h rfl (fun hb40 h => ?_) (fun hb40 h => ?_)
     ·refine rn 4 rfl ?_
      exact jX l23 h (Ghost.trans (ghost_frzEs 1 [12, 15, 56, 59] rfl (rows_imm imms_encS) (List.forall_mem_cons.2 ⟨rfl, (List.forall_mem_cons.2 ⟨rfl, (List.forall_mem_cons.2 ⟨rfl, (List.forall_mem_cons.2 ⟨rfl, (fun _ hx => nomatch hx)⟩)⟩)⟩)⟩) (List.length_map ..).symm) (gr [0] rfl (hB rfl rfl rfl .nil) rfl))
     refine rn 1 rfl ?_
     exact jX l15 h (gr [0] rfl (hB rfl rfl rfl .nil) rfl)
    intro l39 h
    refine rn 1 rfl ?_
    exact jX l39 h (gr [0] rfl (hB rfl rfl rfl .nil) rfl)
   intro l19 h
   refine rn 4 rfl ?_
   exact jX (l19, (w64 (n16 + 1))) (hk1 _ h) (gr [0] rfl (hB rfl rfl rfl .nil) rfl)
  replace h := RG.f h hb17
  unfold M5_L1 at h
  refine rn 1 rfl ?_
  exact jX l15 h (g0 rfl rfl)
 intro l12 h
 refine rn 2 rfl ?_
 refine aops_emptySlice tEl25 wants_none rfl ?_
 refine fo (rn 1 rfl ?_)
 refine apL encS h rfl rfl rfl (by simp) rfl (fun h => ?_)
 refine rn 4 rfl ?_
 refine awp_ghost (ghost_frzEs 1 [8, 63] rfl (rows_imm imms_encS) (List.forall_mem_cons.2 ⟨rfl, (List.forall_mem_cons.2 ⟨rfl, (fun _ hx => nomatch hx)⟩)⟩) (List.length_map ..).symm) ?_
 refine fa ?_
 exact rt h rfl
theorem W6 (F : Nat) (a1 : (List (List UInt8))) (a2 : (List (List UInt8))) (r : Bool) (h : M6 F a1 a2 = some r) : Pure Try.prog 6 [(V.lst 1 (a1.map encS)), (V.lst 1 (a2.map encS))] (bV r) := by
 refine pin (fun r => (bV r)) r rfl Try.func6 rfl rfl rfl rfl rfl (fun w0 m0 hg => ?_)
 unfold M6 at h
 refine rn 8 rfl ?_
 refine ln rfl rfl ?_
 refine rn 1 rfl ?_
 refine ln rfl rfl ?_
 refine rn 2 rfl ?_
 refine spC h rfl (fun hb3 h => ?_) (fun hb3 h => ?_)
 ·refine rn 4 rfl ?_
  exact rt h rfl
 refine rn 5 rfl ?_
 refine ln rfl rfl ?_
 refine rn 2 rfl ?_
 refine jK h (fun _ : Unit => (⟨[], [], 0⟩ : St)) (fun k4 (_ : Unit) => k4 = some r) (fun k4 h => ?_) ?_
 ·refine rn 1 rfl ?_
  refine wl (A := a1) 0 rfl (fun hA13 => ?_)
  refine lC (fun (p : Int) => (⟨[(0, (V.lst 1 (a1.map encS))), (1, (V.lst 1 (a2.map encS))), (12, (iV ((a1.length : Nat) : Int))), (13, (iV p))], [], 0⟩ : St)) (fun n p => RG a1 (fun tl nn => M6_L1 F a2 k4 tl nn = some r) n p) (fun p h => RG.zero h) (a1.length + 1) 0 (RG.start h) (g0 rfl rfl) (fun n n6 h => ?_)
  refine rn 5 rfl ?_
  refine spL rfl (fun hb7 => ?_) (fun hb7 => ?_)
  ·obtain ⟨x8, tl, hx9, h, hk1⟩ := RG.t hA13 h hb7
   unfold M6_L1 at h
   obtain ⟨x10, hx11, h⟩ := bind_some h
   refine rn 9 rfl ?_
   refine dr mixed (vs 2 rfl (iD hx9 rfl rfl rfl (vs 3 rfl (iD hx11 rfl rfl rfl (vs 2 rfl .nil))))) (by kernel_rfl) ?_
   refine spC h rfl (fun hb12 h => ?_) (fun hb12 h => ?_)
   ·refine rn 4 rfl ?_
    exact rt h rfl
   refine rn 6 rfl ?_
   exact jX (w64 (n6 + 1)) (hk1 _ h) (g0 rfl rfl)
  replace h := RG.f h hb7
  unfold M6_L1 at h
  refine rn 1 rfl ?_
  exact jX () h (g0 rfl rfl)
 intro _ h
 refine rn 4 rfl ?_
 exact rt h rfl
theorem W7 (F : Nat) (r : Bool) (h : M7 F = some r) : Pure Try.prog 7 [] (bV r) := by
 unfold M7 at h
 replace h := Option.some.inj h
 subst h
 exact told_pure
theorem W31_1 (F : Nat) (a1 : TGraph) (a2 : Int) (a3 : (List (List UInt8))) (r : (Option Treach_world)) (h : M31_1 F a1 a2 a3 = some r) : Pure Try.prog 31 [(V.agg (encTGraph a1)), (iV a2), (V.lst 1 (a3.map encS))] (optr encTreach_world r) := by
 refine pin (fun r => (optr encTreach_world r)) r rfl Try.func31 rfl rfl rfl rfl rfl (fun w0 m0 hg => ?_)
 unfold M31_1 at h
 refine rn 12 rfl ?_
 refine aops_insert (es := ([] : List ((List UInt8) × Bool)).map encM9_4) ((mput ([] : List ((List UInt8) × Bool)) ([] : List UInt8) true).map encM9_4) tMap52 tKey9 wants_none rfl rfl (.con rfl) ⟨_, rfl⟩ encM9_4_good rfl (encM9_4_puts ([] : List ((List UInt8) × Bool)) ([] : List UInt8) true) ?_
 refine fo (rn 12 rfl ?_)
 refine ln rfl rfl ?_
 refine rn 2 rfl ?_
 refine jK h (fun (p : (List ((List UInt8) × Int))) => (⟨[(2, (V.lst 1 (a3.map encS))), (3, (V.ptr 0 4 0 0)), (7, (V.ptr 1 9 0 0))], [(0, (Ob.arr 27 4 [(encTGraph a1)])), (1, (Ob.arr 54 9 [[(V.lst 2 (a1.Ifaces.map encTIface)), (V.lst 2 (a1.Types.map encTType)), (V.lst 4 (a1.Funcs.map encTFunc)), (V.lst 1 (a1.Entries.map encS)), (V.map 2), (V.map 3), (V.map 4), (V.map 5), (bV (a2 == 2))]])), (2, (Ob.map (p.map encM9_3))), (3, (Ob.map (([] : List ((List UInt8) × Int)).map encM9_3))), (4, (Ob.map (([] : List ((List UInt8) × (List Int))).map encM9_153))), (5, (Ob.map ((mput ([] : List ((List UInt8) × Bool)) ([] : List UInt8) true).map encM9_4)))], 6⟩ : St)) (fun k4 p => k4 p = some r) (fun k4 h => ?_) ?_
 ·refine rn 1 rfl ?_
  refine wl (A := a1.Funcs) 29 rfl (fun hA13 => ?_)
  refine lC (fun (p : Int × (List ((List UInt8) × Int))) => (⟨[(2, (V.lst 1 (a3.map encS))), (3, (V.ptr 0 4 0 0)), (7, (V.ptr 1 9 0 0)), (29, (V.lst 4 (a1.Funcs.map encTFunc))), (30, (iV ((a1.Funcs.length : Nat) : Int))), (31, (iV (p.1)))], [(0, (Ob.arr 27 4 [(encTGraph a1)])), (1, (Ob.arr 54 9 [[(V.lst 2 (a1.Ifaces.map encTIface)), (V.lst 2 (a1.Types.map encTType)), (V.lst 4 (a1.Funcs.map encTFunc)), (V.lst 1 (a1.Entries.map encS)), (V.map 2), (V.map 3), (V.map 4), (V.map 5), (bV (a2 == 2))]])), (2, (Ob.map ((p.2).map encM9_3))), (3, (Ob.map (([] : List ((List UInt8) × Int)).map encM9_3))), (4, (Ob.map (([] : List ((List UInt8) × (List Int))).map encM9_153))), (5, (Ob.map ((mput ([] : List ((List UInt8) × Bool)) ([] : List UInt8) true).map encM9_4)))], 6⟩ : St)) (fun n p => RG a1.Funcs (fun tl nn => M31_1_L1 F k4 tl nn p.2 = some r) n p.1) (fun p h => RG.zero h) (a1.Funcs.length + 1) (0, ([] : List ((List UInt8) × Int))) (RG.start h) (gr [0, 5, 1, 2, 3, 4] rfl (hB rfl rfl rfl (hB rfl rfl rfl (hM rfl rfl (hM rfl rfl (hM rfl rfl (hM rfl rfl .nil)))))) rfl) (fun n p h => ?_)
  obtain ⟨n8, m9⟩ := p
  refine rn 5 rfl ?_
  refine spL rfl (fun hb10 => ?_) (fun hb10 => ?_)
  ·obtain ⟨x11, tl, hx12, h, hk1⟩ := RG.t hA13 h hb10
   unfold M31_1_L1 at h
   refine rn 6 rfl ?_
   refine ixh hx12 rfl rfl ?_
   refine rn 5 rfl ?_
   refine dr mixed (vs 7 rfl (xD (OD.mk [(39, (V.map 2)), (41, (sV x11.Name)), (42, (iV n8))] [(2, (Ob.map (m9.map encM9_3)))] [] [(2, (Ob.map ((mput m9 x11.Name n8).map encM9_3)))]) ⟨⟨rfl, rfl, rfl, trivial⟩, ⟨rfl, trivial⟩⟩ (by exact fun S hn h hh => aops_mapUpdate (es := m9.map encM9_3) ((mput m9 x11.Name n8).map encM9_3) tMap50 tKey9 wants_none h.1 hh.1 (.con h.2.1) ⟨_, rfl⟩ encM9_3_good h.2.2.1 (encM9_3_puts m9 x11.Name n8) (aops_nil ⟨rfl, rfl⟩)) rfl .nil)) (by kernel_rfl) ?_
   refine rn 5 rfl ?_
   exact jX ((w64 (n8 + 1)), (mput m9 x11.Name n8)) (hk1 _ h) (gr [0, 1, 2, 3, 4, 5] rfl (hB rfl rfl rfl (hB rfl rfl rfl (hM rfl rfl (hM rfl rfl (hM rfl rfl (hM rfl rfl .nil)))))) rfl)
  replace h := RG.f h hb10
  unfold M31_1_L1 at h
  refine rn 1 rfl ?_
  exact jX m9 h (gr [0, 1, 2, 3, 4, 5] rfl (hB rfl rfl rfl (hB rfl rfl rfl (hM rfl rfl (hM rfl rfl (hM rfl rfl (hM rfl rfl .nil)))))) rfl)
 intro m5 h
 refine rn 5 rfl ?_
 refine ln rfl rfl ?_
 refine rn 2 rfl ?_
 refine jK h (fun (p : (List ((List UInt8) × Int))) => (⟨[(2, (V.lst 1 (a3.map encS))), (3, (V.ptr 0 4 0 0)), (7, (V.ptr 1 9 0 0))], [(0, (Ob.arr 27 4 [(encTGraph a1)])), (1, (Ob.arr 54 9 [[(V.lst 2 (a1.Ifaces.map encTIface)), (V.lst 2 (a1.Types.map encTType)), (V.lst 4 (a1.Funcs.map encTFunc)), (V.lst 1 (a1.Entries.map encS)), (V.map 2), (V.map 3), (V.map 4), (V.map 5), (bV (a2 == 2))]])), (2, (Ob.map (m5.map encM9_3))), (3, (Ob.map (p.map encM9_3))), (4, (Ob.map (([] : List ((List UInt8) × (List Int))).map encM9_153))), (5, (Ob.map ((mput ([] : List ((List UInt8) × Bool)) ([] : List UInt8) true).map encM9_4)))], 6⟩ : St)) (fun k14 p => k14 p = some r) (fun k14 h => ?_) ?_
 ·refine rn 1 rfl ?_
  refine wl (A := a1.Types) 45 rfl (fun hA23 => ?_)
  refine lC (fun (p : Int × (List ((List UInt8) × Int))) => (⟨[(2, (V.lst 1 (a3.map encS))), (3, (V.ptr 0 4 0 0)), (7, (V.ptr 1 9 0 0)), (45, (V.lst 2 (a1.Types.map encTType))), (46, (iV ((a1.Types.length : Nat) : Int))), (47, (iV (p.1)))], [(0, (Ob.arr 27 4 [(encTGraph a1)])), (1, (Ob.arr 54 9 [[(V.lst 2 (a1.Ifaces.map encTIface)), (V.lst 2 (a1.Types.map encTType)), (V.lst 4 (a1.Funcs.map encTFunc)), (V.lst 1 (a1.Entries.map encS)), (V.map 2), (V.map 3), (V.map 4), (V.map 5), (bV (a2 == 2))]])), (2, (Ob.map (m5.map encM9_3))), (3, (Ob.map ((p.2).map encM9_3))), (4, (Ob.map (([] : List ((List UInt8) × (List Int))).map encM9_153))), (5, (Ob.map ((mput ([] : List ((List UInt8) × Bool)) ([] : List UInt8) true).map encM9_4)))], 6⟩ : St)) (fun n p => RG a1.Types (fun tl nn => M31_1_L2 F k14 tl nn p.2 = some r) n p.1) (fun p h => RG.zero h) (a1.Types.length + 1) (0, ([] : List ((List UInt8) × Int))) (RG.start h) (gr [0, 1, 2, 3, 4, 5] rfl (hB rfl rfl rfl (hB rfl rfl rfl (hM rfl rfl (hM rfl rfl (hM rfl rfl (hM rfl rfl .nil)))))) rfl) (fun n p h => ?_)
  obtain ⟨n18, m19⟩ := p
  refine rn 5 rfl ?_
  refine spL rfl (fun hb20 => ?_) (fun hb20 => ?_)
  ·obtain ⟨x21, tl, hx22, h, hk2⟩ := RG.t hA23 h hb20
   unfold M31_1_L2 at h
   refine rn 6 rfl ?_
   refine ixh hx22 rfl rfl ?_
   refine rn 5 rfl ?_
   refine dr mixed (vs 7 rfl (xD (OD.mk [(55, (V.map 3)), (57, (sV x21.Name)), (58, (iV n18))] [(3, (Ob.map (m19.map encM9_3)))] [] [(3, (Ob.map ((mput m19 x21.Name n18).map encM9_3)))]) ⟨⟨rfl, rfl, rfl, trivial⟩, ⟨rfl, trivial⟩⟩ (by exact fun S hn h hh => aops_mapUpdate (es := m19.map encM9_3) ((mput m19 x21.Name n18).map encM9_3) tMap50 tKey9 wants_none h.1 hh.1 (.con h.2.1) ⟨_, rfl⟩ encM9_3_good h.2.2.1 (encM9_3_puts m19 x21.Name n18) (aops_nil ⟨rfl, rfl⟩)) rfl .nil)) (by kernel_rfl) ?_
   refine rn 5 rfl ?_
   exact jX ((w64 (n18 + 1)), (mput m19 x21.Name n18)) (hk2 _ h) (gr [0, 1, 2, 3, 4, 5] rfl (hB rfl rfl rfl (hB rfl rfl rfl (hM rfl rfl (hM rfl rfl (hM rfl rfl (hM rfl rfl .nil)))))) rfl)
  replace h := RG.f h hb20
  unfold M31_1_L2 at h
  refine rn 1 rfl ?_
  exact jX m19 h (gr [0, 1, 2, 3, 4, 5] rfl (hB rfl rfl rfl (hB rfl rfl rfl (hM rfl rfl (hM rfl rfl (hM rfl rfl (hM rfl rfl .nil)))))) rfl)
 intro m15 h
 refine rn 5 rfl ?_
 refine ln rfl rfl ?_
 refine rn 2 rfl ?_
 refine jK h (fun (p : (List ((List UInt8) × (List Int)))) => (⟨[(2, (V.lst 1 (a3.map encS))), (7, (V.ptr 0 9 0 0))], [(0, (Ob.arr 54 9 [[(V.lst 2 (a1.Ifaces.map encTIface)), (V.lst 2 (a1.Types.map encTType)), (V.lst 4 (a1.Funcs.map encTFunc)), (V.lst 1 (a1.Entries.map encS)), (V.map 1), (V.map 2), (V.map 3), (V.map 4), (bV (a2 == 2))]])), (1, (Ob.map (m5.map encM9_3))), (2, (Ob.map (m15.map encM9_3))), (3, (Ob.map (p.map encM9_153))), (4, (Ob.map ((mput ([] : List ((List UInt8) × Bool)) ([] : List UInt8) true).map encM9_4)))], 5⟩ : St)) (fun k24 p => k24 p = some r) (fun k24 h => ?_) ?_
 ·refine rn 1 rfl ?_
  refine wl (A := a1.Ifaces) 61 rfl (fun hA51 => ?_)
  refine lC (fun (p : Int × (List ((List UInt8) × (List Int)))) => (⟨[(2, (V.lst 1 (a3.map encS))), (3, (V.ptr 0 4 0 0)), (7, (V.ptr 1 9 0 0)), (61, (V.lst 2 (a1.Ifaces.map encTIface))), (62, (iV ((a1.Ifaces.length : Nat) : Int))), (63, (iV (p.1)))], [(0, (Ob.arr 27 4 [(encTGraph a1)])), (1, (Ob.arr 54 9 [[(V.lst 2 (a1.Ifaces.map encTIface)), (V.lst 2 (a1.Types.map encTType)), (V.lst 4 (a1.Funcs.map encTFunc)), (V.lst 1 (a1.Entries.map encS)), (V.map 2), (V.map 3), (V.map 4), (V.map 5), (bV (a2 == 2))]])), (2, (Ob.map (m5.map encM9_3))), (3, (Ob.map (m15.map encM9_3))), (4, (Ob.map ((p.2).map encM9_153))), (5, (Ob.map ((mput ([] : List ((List UInt8) × Bool)) ([] : List UInt8) true).map encM9_4)))], 6⟩ : St)) (fun n p => RG a1.Ifaces (fun tl nn => M31_1_L3 F a1 k24 tl p.2 = some r) n p.1) (fun p h => RG.zero h) (a1.Ifaces.length + 1) (0, ([] : List ((List UInt8) × (List Int)))) (RG.start h) (gr [0, 1, 2, 3, 4, 5] rfl (hB rfl rfl rfl (hB rfl rfl rfl (hM rfl rfl (hM rfl rfl (hM rfl rfl (hM rfl rfl .nil)))))) rfl) (fun n p h => ?_)
  obtain ⟨n28, m29⟩ := p
  refine rn 5 rfl ?_
  refine spL rfl (fun hb30 => ?_) (fun hb30 => ?_)
  ·obtain ⟨x33, tl, hx34, h, hk3⟩ := RG.t hA51 h hb30
   unfold M31_1_L3 at h
   refine rn 2 rfl ?_
   refine jK h (fun (p : (List ((List UInt8) × (List Int)))) => (⟨[(2, (V.lst 1 (a3.map encS))), (3, (V.ptr 0 4 0 0)), (7, (V.ptr 1 9 0 0)), (61, (V.lst 2 (a1.Ifaces.map encTIface))), (62, (iV ((a1.Ifaces.length : Nat) : Int))), (63, (iV n28))], [(0, (Ob.arr 27 4 [(encTGraph a1)])), (1, (Ob.arr 54 9 [[(V.lst 2 (a1.Ifaces.map encTIface)), (V.lst 2 (a1.Types.map encTType)), (V.lst 4 (a1.Funcs.map encTFunc)), (V.lst 1 (a1.Entries.map encS)), (V.map 2), (V.map 3), (V.map 4), (V.map 5), (bV (a2 == 2))]])), (2, (Ob.map (m5.map encM9_3))), (3, (Ob.map (m15.map encM9_3))), (4, (Ob.map (p.map encM9_153))), (5, (Ob.map ((mput ([] : List ((List UInt8) × Bool)) ([] : List UInt8) true).map encM9_4)))], 6⟩ : St)) (fun k31 p => k31 p = some r) (fun k31 h => ?_) ?_
   ·refine rn 3 rfl ?_
    refine ixh hx34 rfl rfl ?_
    refine rn 8 rfl ?_
    refine ln rfl rfl ?_
    refine rn 2 rfl ?_
    refine jK h (fun (p : (List ((List UInt8) × (List Int)))) => (⟨[(2, (V.lst 1 (a3.map encS))), (3, (V.ptr 0 4 0 0)), (7, (V.ptr 1 9 0 0)), (61, (V.lst 2 (a1.Ifaces.map encTIface))), (62, (iV ((a1.Ifaces.length : Nat) : Int))), (63, (iV n28))], [(0, (Ob.arr 27 4 [(encTGraph a1)])), (1, (Ob.arr 54 9 [[(V.lst 2 (a1.Ifaces.map encTIface)), (V.lst 2 (a1.Types.map encTType)), (V.lst 4 (a1.Funcs.map encTFunc)), (V.lst 1 (a1.Entries.map encS)), (V.map 2), (V.map 3), (V.map 4), (V.map 5), (bV (a2 == 2))]])), (2, (Ob.map (m5.map encM9_3))), (3, (Ob.map (m15.map encM9_3))), (4, (Ob.map (p.map encM9_153))), (5, (Ob.map ((mput ([] : List ((List UInt8) × Bool)) ([] : List UInt8) true).map encM9_4)))], 6⟩ : St)) (fun k35 p => k35 p = some r) (fun k35 h => ?_) ?_
    ·refine rn 1 rfl ?_
     refine wl (A := a1.Types) 68 rfl (fun hA50 => ?_)
     refine lC (fun (p : Int × (List ((List UInt8) × (List Int)))) => (⟨[(2, (V.lst 1 (a3.map encS))), (3, (V.ptr 0 4 0 0)), (7, (V.ptr 1 9 0 0)), (13, (V.ptr 2 2 0 0)), (61, (V.lst 2 (a1.Ifaces.map encTIface))), (62, (iV ((a1.Ifaces.length : Nat) : Int))), (63, (iV n28)), (68, (V.lst 2 (a1.Types.map encTType))), (69, (iV ((a1.Types.length : Nat) : Int))), (70, (iV (p.1)))], [(0, (Ob.arr 27 4 [(encTGraph a1)])), (1, (Ob.arr 54 9 [[(V.lst 2 (a1.Ifaces.map encTIface)), (V.lst 2 (a1.Types.map encTType)), (V.lst 4 (a1.Funcs.map encTFunc)), (V.lst 1 (a1.Entries.map encS)), (V.map 3), (V.map 4), (V.map 5), (V.map 6), (bV (a2 == 2))]])), (2, (Ob.arr 114 2 [(encTIface x33)])), (3, (Ob.map (m5.map encM9_3))), (4, (Ob.map (m15.map encM9_3))), (5, (Ob.map ((p.2).map encM9_153))), (6, (Ob.map ((mput ([] : List ((List UInt8) × Bool)) ([] : List UInt8) true).map encM9_4)))], 7⟩ : St)) (fun n p => RG a1.Types (fun tl nn => M31_1_L4 F x33 k35 tl nn p.2 = some r) n p.1) (fun p h => RG.zero h) (a1.Types.length + 1) (0, m29) (RG.start h) (gr [0, 1, 6, 2, 3, 4, 5] rfl (hB rfl rfl rfl (hB rfl rfl rfl (hB rfl rfl rfl (hM rfl rfl (hM rfl rfl (hM rfl rfl (hM rfl rfl .nil))))))) rfl) (fun n p h => ?_)
     obtain ⟨n39, m40⟩ := p
     refine rn 5 rfl ?_
     refine spL rfl (fun hb41 => ?_) (fun hb41 => ?_)
     ·obtain ⟨x42, tl, hx43, h, hk4⟩ := RG.t hA50 h hb41
      unfold M31_1_L4 at h
      refine rn 6 rfl ?_
      refine ixh hx43 rfl rfl ?_
      refine rn 9 rfl ?_
      refine cl h rfl rfl rfl (W43 _ _ _) rfl (fun y44 hx45 h => ?_)
      refine rn 1 rfl ?_
      refine jK h (fun (p : (List ((List UInt8) × (List Int)))) => (⟨[(2, (V.lst 1 (a3.map encS))), (3, (V.ptr 0 4 0 0)), (7, (V.ptr 1 9 0 0)), (13, (V.ptr 2 2 0 0)), (61, (V.lst 2 (a1.Ifaces.map encTIface))), (62, (iV ((a1.Ifaces.length : Nat) : Int))), (63, (iV n28)), (68, (V.lst 2 (a1.Types.map encTType))), (69, (iV ((a1.Types.length : Nat) : Int))), (70, (iV n39))], [(0, (Ob.arr 27 4 [(encTGraph a1)])), (1, (Ob.arr 54 9 [[(V.lst 2 (a1.Ifaces.map encTIface)), (V.lst 2 (a1.Types.map encTType)), (V.lst 4 (a1.Funcs.map encTFunc)), (V.lst 1 (a1.Entries.map encS)), (V.map 3), (V.map 4), (V.map 5), (V.map 6), (bV (a2 == 2))]])), (2, (Ob.arr 114 2 [(encTIface x33)])), (3, (Ob.map (m5.map encM9_3))), (4, (Ob.map (m15.map encM9_3))), (5, (Ob.map (p.map encM9_153))), (6, (Ob.map ((mput ([] : List ((List UInt8) × Bool)) ([] : List UInt8) true).map encM9_4)))], 7⟩ : St)) (fun k46 p => k46 p = some r) (fun k46 h => ?_) ?_
      ·refine spC h rfl (fun hb48 h => ?_) (fun hb48 h => ?_)
       ·refine ck h (fun hc49 h => ?_)
        refine awp_ghost ghost_res ?_
        refine awp_ghost ghost_res ?_
        refine fa ?_
        refine dr mixed (vs 12 rfl (xD (OD.mk [(87, (V.map 5)), (89, (sV x33.Name))] [(5, (Ob.map (m40.map encM9_153))), (8, Ob.res)] [(90, (V.own 8 ((mget m40 x33.Name).getD []).length))] [(5, (Ob.map (holeM encM9_153 8 x33.Name m40))), (8, (Ob.arr 3 1 (((mget m40 x33.Name).getD []).map encI_i64)))]) ⟨⟨rfl, rfl, trivial⟩, ⟨rfl, rfl, trivial⟩⟩ (by exact fun S hn h hh => aops_lookup_tk_at 8 rfl hn hh.2.1 (n := ((mget m40 x33.Name).getD []).length) tMap51 tKey9 tZo45 wants_none h.1 hh.1 (.con h.2.1) ⟨_, rfl⟩ encM9_153_good (lookT_enc encM9_153 (fun k => str k) encI_i64 3 1 8 (fun _ => rfl) inj_str x33.Name m40) (by simp) rfl (aops_nil ⟨rfl, rfl⟩)) rfl (vs 1 rfl (xD (OD.mk [(91, (iV n39))] [] [(92, (V.lst 1 (([n39] : List Int).map encI_i64)))] []) ⟨⟨rfl, trivial⟩, trivial⟩ (by exact fun S hn h hh => aops_buildSlice_imm [(0, (iV n39))] [[(iV n39)]] tEl45 tZ3 wants_none rfl rfl rfl rfl (evp_cons h.1 evp_nil) rfl rfl (by simp) (imms_rows (.cons (.cons (Imm.con _) .nil) .nil)) rfl (aops_nil ⟨rfl, rfl⟩)) rfl (xD (OD.mk [(90, (V.own 8 ((mget m40 x33.Name).getD []).length)), (92, (V.lst 1 (([n39] : List Int).map encI_i64)))] [(8, (Ob.arr 3 1 (((mget m40 x33.Name).getD []).map encI_i64))), (9, Ob.res)] [(93, (V.own 9 (((mget m40 x33.Name).getD []) ++ ([n39] : List Int)).length))] [(9, (Ob.arr 3 1 ((((mget m40 x33.Name).getD []) ++ ([n39] : List Int)).map encI_i64))), (8, Ob.dead)]) ⟨⟨rfl, rfl, trivial⟩, ⟨rfl, rfl, trivial⟩⟩ (by exact fun S hn h hh => aops_append_at 9 rfl hn hh.2.1 (([n39] : List Int).map encI_i64) ((((mget m40 x33.Name).getD []) ++ ([n39] : List Int)).map encI_i64) tEl45 tIsSl45 rfl rfl wants_none h.1 hh.1 (by simp) h.2.1 (.lst (rows_one one_encI_i64)) (map_snoc encI_i64 ((mget m40 x33.Name).getD []) ([n39] : List Int)) (List.length_map ..) hc49 rfl (aops_nil ⟨rfl, rfl⟩)) rfl (xD (OD.mk [(81, (V.map 5)), (83, (sV x33.Name)), (93, (V.own 9 (((mget m40 x33.Name).getD []) ++ ([n39] : List Int)).length))] [(5, (Ob.map (holeM encM9_153 8 x33.Name m40))), (9, (Ob.arr 3 1 ((((mget m40 x33.Name).getD []) ++ ([n39] : List Int)).map encI_i64)))] [] [(5, (Ob.map ((mput m40 x33.Name (((mget m40 x33.Name).getD []) ++ ([n39] : List Int))).map encM9_153))), (9, Ob.dead)]) ⟨⟨rfl, rfl, rfl, trivial⟩, ⟨rfl, rfl, trivial⟩⟩ (by exact fun S hn h hh => aops_mapUpdate_deepG (id2 := 9) (o := (V.own 9 (((mget m40 x33.Name).getD []) ++ ([n39] : List Int)).length)) (dv := (.dsl 3 1 ((((mget m40 x33.Name).getD []) ++ ([n39] : List Int)).map encI_i64))) (ob := (.arr 3 1 ((((mget m40 x33.Name).getD []) ++ ([n39] : List Int)).map encI_i64))) ((mput m40 x33.Name (((mget m40 x33.Name).getD []) ++ ([n39] : List Int))).map encM9_153) tMap51 tKey9 wants_none h.1 hh.1 (.con h.2.1) ⟨_, rfl⟩ (good_holeM (fun _ => ⟨_, rfl⟩)) h.2.2.1 (by simp [ovl]) hh.2.1 rfl (okeep_rows imms_encI_i64 (((mget m40 x33.Name).getD []) ++ ([n39] : List Int))) (puts_hole encM9_153 (fun k => str k) encI_i64 3 1 8 (fun _ => rfl) inj_str x33.Name (((mget m40 x33.Name).getD []) ++ ([n39] : List Int)) m40) (aops_nil ⟨rfl, rfl⟩)) rfl .nil)))))) (by kernel_rfl) ?_
        exact jX (mput m40 x33.Name (((mget m40 x33.Name).getD []) ++ ([n39] : List Int))) h (gr [0, 1, 2, 3, 4, 5, 6] rfl (hB rfl rfl rfl (hB rfl rfl rfl (hB rfl rfl rfl (hM rfl rfl (hM rfl rfl (hM rfl rfl (hM rfl rfl .nil))))))) rfl)
       refine rn 1 rfl ?_
       exact jX m40 h (gr [0, 1, 2, 3, 4, 5, 6] rfl (hB rfl rfl rfl (hB rfl rfl rfl (hB rfl rfl rfl (hM rfl rfl (hM rfl rfl (hM rfl rfl (hM rfl rfl .nil))))))) rfl)
      intro m47 h
      refine rn 5 rfl ?_
      exact jX ((w64 (n39 + 1)), m47) (hk4 _ h) (gr [0, 1, 2, 3, 4, 5, 6] rfl (hB rfl rfl rfl (hB rfl rfl rfl (hB rfl rfl rfl (hM rfl rfl (hM rfl rfl (hM rfl rfl (hM rfl rfl .nil))))))) rfl)
     replace h := RG.f h hb41
     unfold M31_1_L4 at h
     refine rn 1 rfl ?_
     exact jX m40 h (gr [0, 1, 3, 4, 5, 6] rfl (hB rfl rfl rfl (hB rfl rfl rfl (hM rfl rfl (hM rfl rfl (hM rfl rfl (hM rfl rfl .nil)))))) rfl)
    intro m36 h
    refine rn 1 rfl ?_
    exact jX m36 h (gr [0, 1, 2, 3, 4, 5] rfl (hB rfl rfl rfl (hB rfl rfl rfl (hM rfl rfl (hM rfl rfl (hM rfl rfl (hM rfl rfl .nil)))))) rfl)
   intro m32 h
   refine rn 4 rfl ?_
   exact jX ((w64 (n28 + 1)), m32) (hk3 _ h) (gr [0, 1, 2, 3, 4, 5] rfl (hB rfl rfl rfl (hB rfl rfl rfl (hM rfl rfl (hM rfl rfl (hM rfl rfl (hM rfl rfl .nil)))))) rfl)
  replace h := RG.f h hb30
  unfold M31_1_L3 at h
  refine rn 1 rfl ?_
  exact jX m29 h (gr [1, 2, 3, 4, 5] rfl (hB rfl rfl rfl (hM rfl rfl (hM rfl rfl (hM rfl rfl (hM rfl rfl .nil))))) rfl)
 intro m25 h
 refine rn 4 rfl ?_
 refine ln rfl rfl ?_
 refine rn 2 rfl ?_
 refine jK h (fun (p : (List ((List UInt8) × Bool))) => (⟨[(7, (V.ptr 0 9 0 0))], [(0, (Ob.arr 54 9 [[(V.lst 2 (a1.Ifaces.map encTIface)), (V.lst 2 (a1.Types.map encTType)), (V.lst 4 (a1.Funcs.map encTFunc)), (V.lst 1 (a1.Entries.map encS)), (V.map 1), (V.map 2), (V.map 3), (V.map 4), (bV (a2 == 2))]])), (1, (Ob.map (m5.map encM9_3))), (2, (Ob.map (m15.map encM9_3))), (3, (Ob.map (m25.map encM9_153))), (4, (Ob.map (p.map encM9_4)))], 5⟩ : St)) (fun k52 p => k52 p = some r) (fun k52 h => ?_) ?_
 ·refine rn 1 rfl ?_
  refine wl (A := a3) 2 rfl (fun hA61 => ?_)
  refine lC (fun (p : Int × (List ((List UInt8) × Bool))) => (⟨[(7, (V.ptr 0 9 0 0)), (96, (V.lst 1 (a3.map encS))), (97, (iV ((a3.length : Nat) : Int))), (98, (iV (p.1)))], [(0, (Ob.arr 54 9 [[(V.lst 2 (a1.Ifaces.map encTIface)), (V.lst 2 (a1.Types.map encTType)), (V.lst 4 (a1.Funcs.map encTFunc)), (V.lst 1 (a1.Entries.map encS)), (V.map 1), (V.map 2), (V.map 3), (V.map 4), (bV (a2 == 2))]])), (1, (Ob.map (m5.map encM9_3))), (2, (Ob.map (m15.map encM9_3))), (3, (Ob.map (m25.map encM9_153))), (4, (Ob.map ((p.2).map encM9_4)))], 5⟩ : St)) (fun n p => RG a3 (fun tl nn => M31_1_L5 F k52 tl p.2 = some r) n p.1) (fun p h => RG.zero h) (a3.length + 1) (0, (mput ([] : List ((List UInt8) × Bool)) ([] : List UInt8) true)) (RG.start h) (gr [0, 1, 2, 3, 4] rfl (hB rfl rfl rfl (hM rfl rfl (hM rfl rfl (hM rfl rfl (hM rfl rfl .nil))))) rfl) (fun n p h => ?_)
  obtain ⟨n56, m57⟩ := p
  refine rn 5 rfl ?_
  refine spL rfl (fun hb58 => ?_) (fun hb58 => ?_)
  ·obtain ⟨x59, tl, hx60, h, hk5⟩ := RG.t hA61 h hb58
   unfold M31_1_L5 at h
   refine rn 5 rfl ?_
   refine ixh hx60 rfl rfl ?_
   refine rn 9 rfl ?_
   refine aops_mapUpdate (es := m57.map encM9_4) ((mput m57 x59 true).map encM9_4) tMap52 tKey9 wants_none rfl rfl (.con rfl) ⟨_, rfl⟩ encM9_4_good rfl (encM9_4_puts m57 x59 true) ?_
   refine fo (rn 6 rfl ?_)
   exact jX ((w64 (n56 + 1)), (mput m57 x59 true)) (hk5 _ h) (gr [0, 1, 2, 3, 4] rfl (hB rfl rfl rfl (hM rfl rfl (hM rfl rfl (hM rfl rfl (hM rfl rfl .nil))))) rfl)
  replace h := RG.f h hb58
  unfold M31_1_L5 at h
  refine rn 1 rfl ?_
  exact jX m57 h (gr [0, 1, 2, 3, 4] rfl (hB rfl rfl rfl (hM rfl rfl (hM rfl rfl (hM rfl rfl (hM rfl rfl .nil))))) rfl)
 intro m53 h
 refine rn 5 rfl ?_
 refine awp_ghost (ghost_frzMC 1 0 (Ob.arr 54 9 [[(V.lst 2 (a1.Ifaces.map encTIface)), (V.lst 2 (a1.Types.map encTType)), (V.lst 4 (a1.Funcs.map encTFunc)), (V.lst 1 (a1.Entries.map encS)), (V.imap (m5.map encM9_3)), (V.map 2), (V.map 3), (V.map 4), (bV (a2 == 2))]]) rfl encM9_3_imm (ObSub.box (.cons Sub.keepM (.cons Sub.keepM (.cons Sub.keepM (.cons Sub.keepM (.cons Sub.frzM (.cons Sub.keepM (.cons Sub.keepM (.cons Sub.keepM (.cons Sub.keepM .nil))))))))))) ?_
 refine awp_ghost (ghost_frzMC 2 0 (Ob.arr 54 9 [[(V.lst 2 (a1.Ifaces.map encTIface)), (V.lst 2 (a1.Types.map encTType)), (V.lst 4 (a1.Funcs.map encTFunc)), (V.lst 1 (a1.Entries.map encS)), (V.imap (m5.map encM9_3)), (V.imap (m15.map encM9_3)), (V.map 3), (V.map 4), (bV (a2 == 2))]]) rfl encM9_3_imm (ObSub.box (.cons Sub.keepM (.cons Sub.keepM (.cons Sub.keepM (.cons Sub.keepM (.cons Sub.keepM (.cons Sub.frzM (.cons Sub.keepM (.cons Sub.keepM (.cons Sub.keepM .nil))))))))))) ?_
 refine awp_ghost (ghost_frzDMC 3 0 (m25.map encM9_45) (Ob.arr 54 9 [[(V.lst 2 (a1.Ifaces.map encTIface)), (V.lst 2 (a1.Types.map encTType)), (V.lst 4 (a1.Funcs.map encTFunc)), (V.lst 1 (a1.Entries.map encS)), (V.imap (m5.map encM9_3)), (V.imap (m15.map encM9_3)), (V.imap (m25.map encM9_45)), (V.map 4), (bV (a2 == 2))]]) rfl (by simp) (und_map encM9_153_und _) (ObSub.box (.cons Sub.keepM (.cons Sub.keepM (.cons Sub.keepM (.cons Sub.keepM (.cons Sub.keepM (.cons Sub.keepM (.cons Sub.frzM (.cons Sub.keepM (.cons Sub.keepM .nil))))))))))) ?_
 refine awp_ghost (ghost_frzMC 4 0 (Ob.arr 54 9 [[(V.lst 2 (a1.Ifaces.map encTIface)), (V.lst 2 (a1.Types.map encTType)), (V.lst 4 (a1.Funcs.map encTFunc)), (V.lst 1 (a1.Entries.map encS)), (V.imap (m5.map encM9_3)), (V.imap (m15.map encM9_3)), (V.imap (m25.map encM9_45)), (V.imap (m53.map encM9_4)), (bV (a2 == 2))]]) rfl encM9_4_imm (ObSub.box (.cons Sub.keepM (.cons Sub.keepM (.cons Sub.keepM (.cons Sub.keepM (.cons Sub.keepM (.cons Sub.keepM (.cons Sub.keepM (.cons Sub.frzM (.cons Sub.keepM .nil))))))))))) ?_
 refine awp_ghost (ghost_frzP 0 6 rfl (imms_rows (.cons (.cons (Imm.lst _ _) (.cons (Imm.lst _ _) (.cons (Imm.lst _ _) (.cons (Imm.lst _ _) (.cons (Imm.imap _) (.cons (Imm.imap _) (.cons (Imm.imap _) (.cons (Imm.imap _) (.cons (Imm.con _) .nil))))))))) .nil)) rfl rfl) ?_
 refine fa ?_
 exact rt h rfl
theorem W18_1 (F : Nat) (a1 : TGraph) (a2 : Int) (a3 : (List (List UInt8))) (r : ((Option Treach_world) × Int)) (h : M18_1 F a1 a2 a3 = some r) : Pure Try.prog 18 [(V.agg (encTGraph a1)), (iV a2), (V.lst 1 (a3.map encS))] (V.tup [(optr encTreach_world (r.1)), (iV (r.2))]) := by
 refine pin (fun r => (V.tup [(optr encTreach_world (r.1)), (iV (r.2))])) r rfl Try.func18 rfl rfl rfl rfl rfl (fun w0 m0 hg => ?_)
 unfold M18_1 at h
 refine rn 10 rfl ?_
 refine cl h rfl rfl rfl (W29 _ _) rfl (fun y4 hx5 h => ?_)
 refine rn 7 rfl ?_
 refine spC h rfl (fun hb6 h => ?_) (fun hb6 h => ?_)
 ·refine rn 6 rfl ?_
  exact rt h rfl
 refine rn 5 rfl ?_
 refine cl h rfl rfl rfl (W30 _ _) rfl (fun y7 hx8 h => ?_)
 refine rn 7 rfl ?_
 refine spC h rfl (fun hb9 h => ?_) (fun hb9 h => ?_)
 ·refine rn 6 rfl ?_
  exact rt h rfl
 refine rn 7 rfl ?_
 refine spO 22 h rfl (fun hb10 h => ?_) (fun hb10 h => ?_)
 ·refine rn 4 rfl ?_
  refine spC h rfl (fun hb11 h => ?_) (fun hb11 h => ?_)
  ·refine rn 5 rfl ?_
   exact rt h rfl
  refine rn 6 rfl ?_
  refine cl h rfl rfl rfl (W31_1 _ _ _ _) rfl (fun y12 hx13 h => ?_)
  obtain ⟨x14, hx15, h⟩ := bind_some h
  refine rn 3 rfl ?_
  refine opC 6 hx15 rfl ?_
  exact rt h rfl
 refine rn 11 rfl ?_
 refine cl h rfl rfl rfl (W31_1 _ _ _ _) rfl (fun y16 hx17 h => ?_)
 obtain ⟨x18, hx19, h⟩ := bind_some h
 refine rn 3 rfl ?_
 refine opC 6 hx19 rfl ?_
 exact rt h rfl
theorem W13_1 (F : Nat) (a1 : Treach_world) (a2 : Int) (r : (Option Treach_spread)) (h : M13_1 F a1 a2 = some r) : Pure Try.prog 13 [(V.iptr (encTreach_world a1) 0), (iV a2)] (optr encTreach_spread r) := by
 refine pin (fun r => (optr encTreach_spread r)) r rfl Try.func13 rfl rfl rfl rfl rfl (fun w0 m0 hg => ?_)
 unfold M13_1 at h
 refine rn 6 rfl ?_
 refine ck h (fun hc3 h => ?_)
 refine ck h (fun hc4 h => ?_)
 refine awp_ghost ghost_res ?_
 refine awp_ghost ghost_res ?_
 refine awp_ghost ghost_res ?_
 refine awp_ghost ghost_res ?_
 refine fa ?_
 refine dr mixed (vs 6 rfl (nD rfl rfl rfl (xD (OD.mk [(19, (iV ((a1.g.Funcs.length : Nat) : Int)))] [(0, Ob.res)] [(20, (V.own 0 (List.replicate (((a1.g.Funcs.length : Nat) : Int)).toNat (false : Bool)).length))] [(0, (Ob.arr 4 1 ((List.replicate (((a1.g.Funcs.length : Nat) : Int)).toNat (false : Bool)).map encB)))]) ⟨⟨rfl, trivial⟩, ⟨rfl, trivial⟩⟩ (by exact fun S hn h hh => aops_makeSlice_at 0 rfl hn hh.1 (ln := (List.replicate (((a1.g.Funcs.length : Nat) : Int)).toNat (false : Bool)).length) ((List.replicate (((a1.g.Funcs.length : Nat) : Int)).toNat (false : Bool)).map encB) tEl42 tZ4 rfl rfl hc3 List.map_replicate List.length_replicate wants_none h.1 rfl (aops_nil ⟨rfl, rfl⟩)) rfl (vs 5 rfl (nD rfl rfl rfl (xD (OD.mk [(26, (iV ((a1.g.Types.length : Nat) : Int)))] [(1, Ob.res)] [(27, (V.own 1 (List.replicate (((a1.g.Types.length : Nat) : Int)).toNat (false : Bool)).length))] [(1, (Ob.arr 4 1 ((List.replicate (((a1.g.Types.length : Nat) : Int)).toNat (false : Bool)).map encB)))]) ⟨⟨rfl, trivial⟩, ⟨rfl, trivial⟩⟩ (by exact fun S hn h hh => aops_makeSlice_at 1 rfl hn hh.1 (ln := (List.replicate (((a1.g.Types.length : Nat) : Int)).toNat (false : Bool)).length) ((List.replicate (((a1.g.Types.length : Nat) : Int)).toNat (false : Bool)).map encB) tEl42 tZ4 rfl rfl hc4 List.map_replicate List.length_replicate wants_none h.1 rfl (aops_nil ⟨rfl, rfl⟩)) rfl (xD (OD.mk [] [(2, Ob.res)] [(28, (V.map 2))] [(2, (Ob.map (([] : List (Treach_slot × Bool)).map encM84_4)))]) ⟨trivial, ⟨rfl, trivial⟩⟩ (by exact fun S hn h hh => aops_makeMap_at 2 rfl hn hh.1 wants_none rfl (aops_nil ⟨rfl, rfl⟩)) rfl (vs 1 rfl (xD (OD.mk [(29, (V.agg [(V.iptr (encTreach_world a1) 0), (V.own 0 (List.replicate (((a1.g.Funcs.length : Nat) : Int)).toNat (false : Bool)).length), (V.own 1 (List.replicate (((a1.g.Types.length : Nat) : Int)).toNat (false : Bool)).length), (V.map 2), nV, nV, nV]))] [(3, Ob.res)] [(30, (V.ptr 3 7 0 0))] [(3, (Ob.arr 47 7 [[(V.iptr (encTreach_world a1) 0), (V.own 0 (List.replicate (((a1.g.Funcs.length : Nat) : Int)).toNat (false : Bool)).length), (V.own 1 (List.replicate (((a1.g.Types.length : Nat) : Int)).toNat (false : Bool)).length), (V.map 2), nV, nV, nV]]))]) ⟨⟨rfl, trivial⟩, ⟨rfl, trivial⟩⟩ (by exact fun S hn h hh => aops_box_at 3 rfl hn hh.1 [(V.iptr (encTreach_world a1) 0), (V.own 0 (List.replicate (((a1.g.Funcs.length : Nat) : Int)).toNat (false : Bool)).length), (V.own 1 (List.replicate (((a1.g.Types.length : Nat) : Int)).toNat (false : Bool)).length), (V.map 2), nV, nV, nV] wants_none h.1 rfl rfl rfl (aops_nil ⟨rfl, rfl⟩)) rfl (vs 1 rfl .nil)))))))))) (by kernel_rfl) ?_
 refine rn 8 rfl ?_
 refine ln rfl rfl ?_
 refine rn 2 rfl ?_
 refine jK h (fun (p : (List Bool) × (List Int)) => (⟨[(0, (V.iptr (encTreach_world a1) 0)), (1, (iV a2)), (5, (V.ptr 0 7 0 0))], [(0, (Ob.arr 47 7 [[(V.iptr (encTreach_world a1) 0), (V.own 1 (p.1).length), (V.own 2 (List.replicate (((a1.g.Types.length : Nat) : Int)).toNat (false : Bool)).length), (V.map 3), (V.own 4 ([] : List Treach_slot).length), (V.own 5 ([] : List Int).length), (V.own 6 (p.2).length)]])), (1, (Ob.arr 4 1 ((p.1).map encB))), (2, (Ob.arr 4 1 ((List.replicate (((a1.g.Types.length : Nat) : Int)).toNat (false : Bool)).map encB))), (3, (Ob.map (([] : List (Treach_slot × Bool)).map encM84_4))), (4, (Ob.arr 84 2 (([] : List Treach_slot).map encTreach_slot))), (5, (Ob.arr 3 1 (([] : List Int).map encI_i64))), (6, (Ob.arr 3 1 ((p.2).map encI_i64)))], 7⟩ : St)) (fun k5 p => k5 p.1 p.2 = some r) (fun k5 h => ?_) ?_
 ·refine rn 1 rfl ?_
  refine wl (A := a1.g.Entries) 35 rfl (fun hA19 => ?_)
  refine lC (fun (p : Int × (List Bool) × (List Int)) => (⟨[(0, (V.iptr (encTreach_world a1) 0)), (1, (iV a2)), (5, (V.ptr 0 7 0 0)), (35, (V.lst 1 (a1.g.Entries.map encS))), (36, (iV ((a1.g.Entries.length : Nat) : Int))), (37, (iV (p.1)))], [(0, (Ob.arr 47 7 [[(V.iptr (encTreach_world a1) 0), (V.own 1 (p.2.1).length), (V.own 2 (List.replicate (((a1.g.Types.length : Nat) : Int)).toNat (false : Bool)).length), (V.map 3), (V.own 4 ([] : List Treach_slot).length), (V.own 5 ([] : List Int).length), (V.own 6 (p.2.2).length)]])), (1, (Ob.arr 4 1 ((p.2.1).map encB))), (2, (Ob.arr 4 1 ((List.replicate (((a1.g.Types.length : Nat) : Int)).toNat (false : Bool)).map encB))), (3, (Ob.map (([] : List (Treach_slot × Bool)).map encM84_4))), (4, (Ob.arr 84 2 (([] : List Treach_slot).map encTreach_slot))), (5, (Ob.arr 3 1 (([] : List Int).map encI_i64))), (6, (Ob.arr 3 1 ((p.2.2).map encI_i64)))], 7⟩ : St)) (fun n p => RG a1.g.Entries (fun tl nn => M13_1_L1 F a1 k5 tl p.2.1 p.2.2 = some r) n p.1) (fun p h => RG.zero h) (a1.g.Entries.length + 1) (0, (List.replicate (((a1.g.Funcs.length : Nat) : Int)).toNat (false : Bool)), ([] : List Int)) (RG.start h) (Ghost.trans (ghost_nilC 3 84 2 (Ob.arr 47 7 [[(V.iptr (encTreach_world a1) 0), (V.own 0 (List.replicate (((a1.g.Funcs.length : Nat) : Int)).toNat (false : Bool)).length), (V.own 1 (List.replicate (((a1.g.Types.length : Nat) : Int)).toNat (false : Bool)).length), (V.map 2), (V.own 4 0), nV, nV]]) (ObSub.box (.cons Sub.keepNil (.cons Sub.keepNil (.cons Sub.keepNil (.cons Sub.keepNil (.cons Sub.mkNil (.cons Sub.keepNil (.cons Sub.keepNil .nil))))))))) (Ghost.trans (ghost_nilC 3 3 1 (Ob.arr 47 7 [[(V.iptr (encTreach_world a1) 0), (V.own 0 (List.replicate (((a1.g.Funcs.length : Nat) : Int)).toNat (false : Bool)).length), (V.own 1 (List.replicate (((a1.g.Types.length : Nat) : Int)).toNat (false : Bool)).length), (V.map 2), (V.own 4 0), (V.own 5 0), nV]]) (ObSub.box (.cons Sub.keepNil (.cons Sub.keepNil (.cons Sub.keepNil (.cons Sub.keepNil (.cons Sub.keepNil (.cons Sub.mkNil (.cons Sub.keepNil .nil))))))))) (Ghost.trans (ghost_nilC 3 3 1 (Ob.arr 47 7 [[(V.iptr (encTreach_world a1) 0), (V.own 0 (List.replicate (((a1.g.Funcs.length : Nat) : Int)).toNat (false : Bool)).length), (V.own 1 (List.replicate (((a1.g.Types.length : Nat) : Int)).toNat (false : Bool)).length), (V.map 2), (V.own 4 0), (V.own 5 0), (V.own 6 0)]]) (ObSub.box (.cons Sub.keepNil (.cons Sub.keepNil (.cons Sub.keepNil (.cons Sub.keepNil (.cons Sub.keepNil (.cons Sub.keepNil (.cons Sub.mkNil .nil))))))))) (ghost_ren 7 (fun i => ([3, 0, 1, 2, 4, 5, 6] : List Nat).getD i 0) _ _ (by decide) (EnvSub.get (.cons (Sub.imm (Imm.iptr _ _)) (.cons (Sub.imm (Imm.con _)) (.cons (Sub.ptr rfl rfl) (.cons (Sub.imm (Imm.lst _ _)) (.cons (Sub.imm (Imm.con _)) (.cons (Sub.imm (Imm.con _)) .nil))))))) (HpSub.get (.cons rfl (ObSub.box (.cons (Sub.imm (Imm.iptr _ _)) (.cons (Sub.own rfl rfl) (.cons (Sub.own rfl rfl) (.cons (Sub.map rfl rfl) (.cons (Sub.ownE rfl rfl (by simp)) (.cons (Sub.ownE rfl rfl (by simp)) (.cons (Sub.ownE rfl rfl (by simp)) .nil)))))))) (.cons rfl (ObSub.rows (rows_imm imms_encB)) (.cons rfl (ObSub.rows (rows_imm imms_encB)) (.cons rfl (ObSub.maps encM84_4_imm) (.cons rfl (ObSub.rows (rows_imm imms_encTreach_slot)) (.cons rfl (ObSub.rows (rows_imm imms_encI_i64)) (.cons rfl (ObSub.rows (rows_imm imms_encI_i64)) .nil)))))))) rfl)))) (fun n p h => ?_)
  obtain ⟨n11, l12, l13⟩ := p
  refine rn 5 rfl ?_
  refine spL rfl (fun hb14 => ?_) (fun hb14 => ?_)
  ·obtain ⟨x15, tl, hx16, h, hk1⟩ := RG.t hA19 h hb14
   unfold M13_1_L1 at h
   refine rn 5 rfl ?_
   refine ixh hx16 rfl rfl ?_
   refine rn 10 rfl ?_
   refine aops_lookup _ (iV 0) (iV ((mget a1.funcs x15).getD 0)) tMap50 tKey9 tZo3 (irel_con _) wants_none rfl .imm (.con rfl) ⟨_, rfl⟩ encM9_3_good (encM9_3_look a1.funcs x15) (getD_map (encM9_3_val) (mget a1.funcs x15) 0) rfl ?_
   obtain ⟨y17, hx18, h⟩ := bind_some h
   refine aops_mcallS (V.tup []) [(V.ptr 0 7 0 0), (iV ((mget a1.funcs x15).getD 0))] (fun i => ([0, 1, 2, 3, 4, 5, 6] : List Nat).getD i 0) (fun i => ([0, 1, 2, 3, 4, 5, 6, 7] : List Nat).getD i 0) 7 8 [(0, (Ob.arr 47 7 [[(V.iptr (encTreach_world a1) 0), (V.own 1 (y17.1).length), (V.own 2 (List.replicate (((a1.g.Types.length : Nat) : Int)).toNat (false : Bool)).length), (V.map 3), (V.own 4 ([] : List Treach_slot).length), (V.own 5 ([] : List Int).length), (V.own 7 (y17.2).length)]])), (1, (Ob.arr 4 1 ((y17.1).map encB))), (2, (Ob.arr 4 1 ((List.replicate (((a1.g.Types.length : Nat) : Int)).toNat (false : Bool)).map encB))), (3, (Ob.map (([] : List (Treach_slot × Bool)).map encM84_4))), (4, (Ob.arr 84 2 (([] : List Treach_slot).map encTreach_slot))), (5, (Ob.arr 3 1 (([] : List Int).map encI_i64))), (6, Ob.dead), (7, (Ob.arr 3 1 ((y17.2).map encI_i64)))] fOk20 wants_none rfl (evm_cons rfl (evm_cons rfl evm_nil)) (.cons (Sub.ptr rfl rfl) (.cons (Sub.imm (Imm.con _)) .nil)) (.cons rfl (ObSub.box (.cons (Sub.imm (Imm.iptr _ _)) (.cons (Sub.own rfl rfl) (.cons (Sub.own rfl rfl) (.cons (Sub.map rfl rfl) (.cons (Sub.own rfl rfl) (.cons (Sub.own rfl rfl) (.cons (Sub.own rfl rfl) .nil)))))))) (.cons rfl (ObSub.rows (rows_imm imms_encB)) (.cons rfl (ObSub.rows (rows_imm imms_encB)) (.cons rfl (ObSub.maps encM84_4_imm) (.cons rfl (ObSub.rows (rows_imm imms_encTreach_slot)) (.cons rfl (ObSub.rows (rows_imm imms_encI_i64)) (.cons rfl (ObSub.rows (rows_imm imms_encI_i64)) .nil))))))) (W20 F ((mget a1.funcs x15).getD 0) a1 l12 (List.replicate (((a1.g.Types.length : Nat) : Int)).toNat (false : Bool)) ([] : List (Treach_slot × Bool)) ([] : List Treach_slot) ([] : List Int) l13 y17 hx18) rfl rfl rfl rfl (Sub.immT (Imm.tup .nil)) (.cons rfl (ObSub.box (.cons (Sub.immT (Imm.iptr _ _)) (.cons (Sub.ownT rfl rfl) (.cons (Sub.ownT rfl rfl) (.cons (Sub.mapT rfl rfl) (.cons (Sub.ownT rfl rfl) (.cons (Sub.ownT rfl rfl) (.cons (Sub.ownT rfl rfl) .nil)))))))) (.cons rfl (ObSub.rowsT (rows_imm imms_encB)) (.cons rfl (ObSub.rowsT (rows_imm imms_encB)) (.cons rfl (ObSub.mapsT encM84_4_imm) (.cons rfl (ObSub.rowsT (rows_imm imms_encTreach_slot)) (.cons rfl (ObSub.rowsT (rows_imm imms_encI_i64)) (.cons rfl ObSub.deadT (.cons rfl (ObSub.rowsT (rows_imm imms_encI_i64)) .nil)))))))) _ rfl ?_
   refine fo (rn 6 rfl ?_)
   exact jX ((w64 (n11 + 1)), (y17.1), (y17.2)) (hk1 _ h) (gr [0, 1, 2, 3, 4, 5, 7] rfl (hB rfl rfl rfl (hR rfl rfl (hR rfl rfl (hM rfl rfl (hR rfl rfl (hR rfl rfl (hR rfl rfl .nil))))))) rfl)
  replace h := RG.f h hb14
  unfold M13_1_L1 at h
  refine rn 1 rfl ?_
  exact jX (l12, l13) h (gr [0, 1, 2, 3, 4, 5, 6] rfl (hB rfl rfl rfl (hR rfl rfl (hR rfl rfl (hM rfl rfl (hR rfl rfl (hR rfl rfl (hR rfl rfl .nil))))))) rfl)
 rintro ⟨l6, l7⟩ h
 refine rn 3 rfl ?_
 refine jK h (fun (p : (List Bool) × (List Bool) × (List (Treach_slot × Bool)) × (List Treach_slot) × (List Int)) => (⟨[(5, (V.ptr 0 7 0 0))], [(0, (Ob.arr 47 7 [[(V.iptr (encTreach_world a1) 0), (V.own 1 (p.1).length), (V.own 2 (p.2.1).length), (V.map 3), (V.own 4 (p.2.2.2.1).length), (V.own 5 ([] : List Int).length), (V.own 6 (p.2.2.2.2).length)]])), (1, (Ob.arr 4 1 ((p.1).map encB))), (2, (Ob.arr 4 1 ((p.2.1).map encB))), (3, (Ob.map ((p.2.2.1).map encM84_4))), (4, (Ob.arr 84 2 ((p.2.2.2.1).map encTreach_slot))), (5, (Ob.arr 3 1 (([] : List Int).map encI_i64))), (6, (Ob.arr 3 1 ((p.2.2.2.2).map encI_i64)))], 7⟩ : St)) (fun k20 p => k20 p.1 p.2.1 p.2.2.1 p.2.2.2.1 p.2.2.2.2 = some r) (fun k20 h => ?_) ?_
 ·refine rn 1 rfl ?_
  refine lC (fun (p : (List Bool) × (List Bool) × (List (Treach_slot × Bool)) × (List Treach_slot) × (List Int)) => (⟨[(0, (V.iptr (encTreach_world a1) 0)), (1, (iV a2)), (5, (V.ptr 0 7 0 0))], [(0, (Ob.arr 47 7 [[(V.iptr (encTreach_world a1) 0), (V.own 1 (p.1).length), (V.own 2 (p.2.1).length), (V.map 3), (V.own 4 (p.2.2.2.1).length), (V.own 5 ([] : List Int).length), (V.own 6 (p.2.2.2.2).length)]])), (1, (Ob.arr 4 1 ((p.1).map encB))), (2, (Ob.arr 4 1 ((p.2.1).map encB))), (3, (Ob.map ((p.2.2.1).map encM84_4))), (4, (Ob.arr 84 2 ((p.2.2.2.1).map encTreach_slot))), (5, (Ob.arr 3 1 (([] : List Int).map encI_i64))), (6, (Ob.arr 3 1 ((p.2.2.2.2).map encI_i64)))], 7⟩ : St)) (fun n p => M13_1_L2 F a1 a2 k20 n p.1 p.2.1 p.2.2.1 p.2.2.2.1 p.2.2.2.2 = some r) (fun p h => by simp [M13_1_L2] at h) F (l6, (List.replicate (((a1.g.Types.length : Nat) : Int)).toNat (false : Bool)), ([] : List (Treach_slot × Bool)), ([] : List Treach_slot), l7) h (gr [0, 1, 2, 3, 4, 5, 6] rfl (hB rfl rfl rfl (hR rfl rfl (hR rfl rfl (hM rfl rfl (hR rfl rfl (hR rfl rfl (hR rfl rfl .nil))))))) rfl) (fun n p h => ?_)
  obtain ⟨l31, l32, m33, l34, l35⟩ := p
  unfold M13_1_L2 at h
  refine rn 10 rfl ?_
  refine spC h rfl (fun hb36 h => ?_) (fun hb36 h => ?_)
  ·refine rn 1 rfl ?_
   refine jK h (fun (p : (List Bool) × (List Bool) × (List (Treach_slot × Bool)) × (List Treach_slot) × (List Int)) => (⟨[(0, (V.iptr (encTreach_world a1) 0)), (1, (iV a2)), (5, (V.ptr 0 7 0 0))], [(0, (Ob.arr 47 7 [[(V.iptr (encTreach_world a1) 0), (V.own 1 (p.1).length), (V.own 2 (p.2.1).length), (V.map 3), (V.own 4 (p.2.2.2.1).length), (V.own 5 ([] : List Int).length), (V.own 6 (p.2.2.2.2).length)]])), (1, (Ob.arr 4 1 ((p.1).map encB))), (2, (Ob.arr 4 1 ((p.2.1).map encB))), (3, (Ob.map ((p.2.2.1).map encM84_4))), (4, (Ob.arr 84 2 ((p.2.2.2.1).map encTreach_slot))), (5, (Ob.arr 3 1 (([] : List Int).map encI_i64))), (6, (Ob.arr 3 1 ((p.2.2.2.2).map encI_i64)))], 7⟩ : St)) (fun k37 p => k37 p.1 p.2.1 p.2.2.1 p.2.2.2.1 p.2.2.2.2 = some r) (fun k37 h => ?_) ?_
   ·refine rn 7 rfl ?_
    refine ixo (a := l35) h rfl rfl rfl (fun x43 hx44 h => ?_)
    refine ldp hx44 rfl rfl rfl rfl ?_
    refine rn 9 rfl ?_
    refine ck h (fun hc45 h => ?_)
    refine aops_slice_ownN (nx := 7) (1) (l35.length) ((l35.drop 1).length) ((l35.drop 1).map encI_i64) tSl45 wants_none rfl rfl (by simp) rfl ⟨_, rfl⟩ rfl hc45 (Nat.le_refl _) (List.map_drop ..).symm (by simp) (ndB_rows (rows_imm imms_encI_i64)) rfl ?_
    refine fo (rn 11 rfl ?_)
    refine spC h rfl (fun hb46 h => ?_) (fun hb46 h => ?_)
    ·refine rn 1 rfl ?_
     exact jX (l31, l32, m33, l34, (l35.drop 1)) h (gr [0, 1, 2, 3, 4, 5, 7] rfl (hB rfl rfl rfl (hR rfl rfl (hR rfl rfl (hM rfl rfl (hR rfl rfl (hR rfl rfl (hR rfl rfl .nil))))))) rfl)
    refine rn 10 rfl ?_
    refine ixl h rfl rfl (fun x47 hx48 h => ?_)
    refine rn 2 rfl ?_
    refine ln rfl rfl ?_
    refine rn 2 rfl ?_
    refine jK h (fun (p : (List Bool) × (List Bool) × (List Int)) => (⟨[(0, (V.iptr (encTreach_world a1) 0)), (1, (iV a2)), (5, (V.ptr 0 7 0 0)), (8, (iV x43))], [(0, (Ob.arr 47 7 [[(V.iptr (encTreach_world a1) 0), (V.own 1 (p.1).length), (V.own 2 (p.2.1).length), (V.map 3), (V.own 4 l34.length), (V.own 5 ([] : List Int).length), (V.own 6 (p.2.2).length)]])), (1, (Ob.arr 4 1 ((p.1).map encB))), (2, (Ob.arr 4 1 ((p.2.1).map encB))), (3, (Ob.map (m33.map encM84_4))), (4, (Ob.arr 84 2 (l34.map encTreach_slot))), (5, (Ob.arr 3 1 (([] : List Int).map encI_i64))), (6, (Ob.arr 3 1 ((p.2.2).map encI_i64)))], 7⟩ : St)) (fun k49 p => k49 p.1 p.2.1 p.2.2 = some r) (fun k49 h => ?_) ?_
    ·refine rn 1 rfl ?_
     refine wl (A := x47.Makes) 81 rfl (fun hA66 => ?_)
     refine lC (fun (p : Int × (List Bool) × (List Bool) × (List Int)) => (⟨[(0, (V.iptr (encTreach_world a1) 0)), (1, (iV a2)), (5, (V.ptr 0 7 0 0)), (8, (iV x43)), (81, (V.lst 1 (x47.Makes.map encS))), (82, (iV ((x47.Makes.length : Nat) : Int))), (83, (iV (p.1)))], [(0, (Ob.arr 47 7 [[(V.iptr (encTreach_world a1) 0), (V.own 1 (p.2.1).length), (V.own 2 (p.2.2.1).length), (V.map 3), (V.own 4 l34.length), (V.own 5 ([] : List Int).length), (V.own 6 (p.2.2.2).length)]])), (1, (Ob.arr 4 1 ((p.2.1).map encB))), (2, (Ob.arr 4 1 ((p.2.2.1).map encB))), (3, (Ob.map (m33.map encM84_4))), (4, (Ob.arr 84 2 (l34.map encTreach_slot))), (5, (Ob.arr 3 1 (([] : List Int).map encI_i64))), (6, (Ob.arr 3 1 ((p.2.2.2).map encI_i64)))], 7⟩ : St)) (fun n p => RG x47.Makes (fun tl nn => M13_1_L3 F a1 m33 l34 k49 tl p.2.1 p.2.2.1 p.2.2.2 = some r) n p.1) (fun p h => RG.zero h) (x47.Makes.length + 1) (0, l31, l32, (l35.drop 1)) (RG.start h) (gr [0, 1, 2, 3, 4, 5, 7] rfl (hB rfl rfl rfl (hR rfl rfl (hR rfl rfl (hM rfl rfl (hR rfl rfl (hR rfl rfl (hR rfl rfl .nil))))))) rfl) (fun n p h => ?_)
     obtain ⟨n57, l58, l59, l60⟩ := p
     refine rn 5 rfl ?_
     refine spL rfl (fun hb61 => ?_) (fun hb61 => ?_)
     ·obtain ⟨x62, tl, hx63, h, hk3⟩ := RG.t hA66 h hb61
      unfold M13_1_L3 at h
      refine rn 5 rfl ?_
      refine ixh hx63 rfl rfl ?_
      refine rn 10 rfl ?_
      refine aops_lookup _ (iV 0) (iV ((mget a1.types x62).getD 0)) tMap50 tKey9 tZo3 (irel_con _) wants_none rfl .imm (.con rfl) ⟨_, rfl⟩ encM9_3_good (encM9_3_look a1.types x62) (getD_map (encM9_3_val) (mget a1.types x62) 0) rfl ?_
      obtain ⟨y64, hx65, h⟩ := bind_some h
      refine aops_mcallS (V.tup []) [(V.ptr 0 7 0 0), (iV ((mget a1.types x62).getD 0))] (fun i => ([0, 1, 2, 3, 4, 5, 6] : List Nat).getD i 0) (fun i => ([0, 1, 2, 3, 4, 5, 6, 7] : List Nat).getD i 0) 7 8 [(0, (Ob.arr 47 7 [[(V.iptr (encTreach_world a1) 0), (V.own 1 (y64.1).length), (V.own 2 (y64.2.1).length), (V.map 3), (V.own 4 l34.length), (V.own 5 ([] : List Int).length), (V.own 7 (y64.2.2).length)]])), (1, (Ob.arr 4 1 ((y64.1).map encB))), (2, (Ob.arr 4 1 ((y64.2.1).map encB))), (3, (Ob.map (m33.map encM84_4))), (4, (Ob.arr 84 2 (l34.map encTreach_slot))), (5, (Ob.arr 3 1 (([] : List Int).map encI_i64))), (6, Ob.dead), (7, (Ob.arr 3 1 ((y64.2.2).map encI_i64)))] fOk21 wants_none rfl (evm_cons rfl (evm_cons rfl evm_nil)) (.cons (Sub.ptr rfl rfl) (.cons (Sub.imm (Imm.con _)) .nil)) (.cons rfl (ObSub.box (.cons (Sub.imm (Imm.iptr _ _)) (.cons (Sub.own rfl rfl) (.cons (Sub.own rfl rfl) (.cons (Sub.map rfl rfl) (.cons (Sub.own rfl rfl) (.cons (Sub.own rfl rfl) (.cons (Sub.own rfl rfl) .nil)))))))) (.cons rfl (ObSub.rows (rows_imm imms_encB)) (.cons rfl (ObSub.rows (rows_imm imms_encB)) (.cons rfl (ObSub.maps encM84_4_imm) (.cons rfl (ObSub.rows (rows_imm imms_encTreach_slot)) (.cons rfl (ObSub.rows (rows_imm imms_encI_i64)) (.cons rfl (ObSub.rows (rows_imm imms_encI_i64)) .nil))))))) (W21 F ((mget a1.types x62).getD 0) a1 l58 l59 m33 l34 ([] : List Int) l60 y64 hx65) rfl rfl rfl rfl (Sub.immT (Imm.tup .nil)) (.cons rfl (ObSub.box (.cons (Sub.immT (Imm.iptr _ _)) (.cons (Sub.ownT rfl rfl) (.cons (Sub.ownT rfl rfl) (.cons (Sub.mapT rfl rfl) (.cons (Sub.ownT rfl rfl) (.cons (Sub.ownT rfl rfl) (.cons (Sub.ownT rfl rfl) .nil)))))))) (.cons rfl (ObSub.rowsT (rows_imm imms_encB)) (.cons rfl (ObSub.rowsT (rows_imm imms_encB)) (.cons rfl (ObSub.mapsT encM84_4_imm) (.cons rfl (ObSub.rowsT (rows_imm imms_encTreach_slot)) (.cons rfl (ObSub.rowsT (rows_imm imms_encI_i64)) (.cons rfl ObSub.deadT (.cons rfl (ObSub.rowsT (rows_imm imms_encI_i64)) .nil)))))))) _ rfl ?_
      refine fo (rn 6 rfl ?_)
      exact jX ((w64 (n57 + 1)), (y64.1), (y64.2.1), (y64.2.2)) (hk3 _ h) (gr [0, 1, 2, 3, 4, 5, 7] rfl (hB rfl rfl rfl (hR rfl rfl (hR rfl rfl (hM rfl rfl (hR rfl rfl (hR rfl rfl (hR rfl rfl .nil))))))) rfl)
     replace h := RG.f h hb61
     unfold M13_1_L3 at h
     refine rn 1 rfl ?_
     exact jX (l58, l59, l60) h (gr [0, 1, 2, 3, 4, 5, 6] rfl (hB rfl rfl rfl (hR rfl rfl (hR rfl rfl (hM rfl rfl (hR rfl rfl (hR rfl rfl (hR rfl rfl .nil))))))) rfl)
    rintro ⟨l50, l51, l52⟩ h
    refine rn 8 rfl ?_
    refine ixl h rfl rfl (fun x67 hx68 h => ?_)
    refine rn 2 rfl ?_
    refine ln rfl rfl ?_
    refine rn 2 rfl ?_
    refine jK h (fun (p : (List Bool) × (List (Treach_slot × Bool)) × (List Treach_slot) × (List Int)) => (⟨[(0, (V.iptr (encTreach_world a1) 0)), (1, (iV a2)), (5, (V.ptr 0 7 0 0))], [(0, (Ob.arr 47 7 [[(V.iptr (encTreach_world a1) 0), (V.own 1 (p.1).length), (V.own 2 l51.length), (V.map 3), (V.own 4 (p.2.2.1).length), (V.own 5 ([] : List Int).length), (V.own 6 (p.2.2.2).length)]])), (1, (Ob.arr 4 1 ((p.1).map encB))), (2, (Ob.arr 4 1 (l51.map encB))), (3, (Ob.map ((p.2.1).map encM84_4))), (4, (Ob.arr 84 2 ((p.2.2.1).map encTreach_slot))), (5, (Ob.arr 3 1 (([] : List Int).map encI_i64))), (6, (Ob.arr 3 1 ((p.2.2.2).map encI_i64)))], 7⟩ : St)) (fun k69 p => k69 p.1 p.2.1 p.2.2.1 p.2.2.2 = some r) (fun k69 h => ?_) ?_
    ·refine rn 1 rfl ?_
     refine wl (A := x67.Calls) 104 rfl (fun hA99 => ?_)
     refine lC (fun (p : Int × (List Bool) × (List (Treach_slot × Bool)) × (List Treach_slot) × (List Int)) => (⟨[(0, (V.iptr (encTreach_world a1) 0)), (1, (iV a2)), (5, (V.ptr 0 7 0 0)), (104, (V.lst 4 (x67.Calls.map encTCall))), (105, (iV ((x67.Calls.length : Nat) : Int))), (106, (iV (p.1)))], [(0, (Ob.arr 47 7 [[(V.iptr (encTreach_world a1) 0), (V.own 1 (p.2.1).length), (V.own 2 l51.length), (V.map 3), (V.own 4 (p.2.2.2.1).length), (V.own 5 ([] : List Int).length), (V.own 6 (p.2.2.2.2).length)]])), (1, (Ob.arr 4 1 ((p.2.1).map encB))), (2, (Ob.arr 4 1 (l51.map encB))), (3, (Ob.map ((p.2.2.1).map encM84_4))), (4, (Ob.arr 84 2 ((p.2.2.2.1).map encTreach_slot))), (5, (Ob.arr 3 1 (([] : List Int).map encI_i64))), (6, (Ob.arr 3 1 ((p.2.2.2.2).map encI_i64)))], 7⟩ : St)) (fun n p => RG x67.Calls (fun tl nn => M13_1_L4 F a1 a2 l51 k20 k69 tl p.2.1 p.2.2.1 p.2.2.2.1 p.2.2.2.2 = some r) n p.1) (fun p h => RG.zero h) (x67.Calls.length + 1) (0, l50, m33, l34, l52) (RG.start h) (gr [0, 1, 2, 3, 4, 5, 6] rfl (hB rfl rfl rfl (hR rfl rfl (hR rfl rfl (hM rfl rfl (hR rfl rfl (hR rfl rfl (hR rfl rfl .nil))))))) rfl) (fun n p h => ?_)
     obtain ⟨n79, l80, m81, l82, l83⟩ := p
     refine rn 5 rfl ?_
     refine spL rfl (fun hb84 => ?_) (fun hb84 => ?_)
     ·obtain ⟨x90, tl, hx91, h, hk4⟩ := RG.t hA99 h hb84
      unfold M13_1_L4 at h
      refine rn 2 rfl ?_
      refine jK h (fun (p : (List Bool) × (List (Treach_slot × Bool)) × (List Treach_slot) × (List Int)) => (⟨[(0, (V.iptr (encTreach_world a1) 0)), (1, (iV a2)), (5, (V.ptr 0 7 0 0)), (104, (V.lst 4 (x67.Calls.map encTCall))), (105, (iV ((x67.Calls.length : Nat) : Int))), (106, (iV n79))], [(0, (Ob.arr 47 7 [[(V.iptr (encTreach_world a1) 0), (V.own 1 (p.1).length), (V.own 2 l51.length), (V.map 3), (V.own 4 (p.2.2.1).length), (V.own 5 ([] : List Int).length), (V.own 6 (p.2.2.2).length)]])), (1, (Ob.arr 4 1 ((p.1).map encB))), (2, (Ob.arr 4 1 (l51.map encB))), (3, (Ob.map ((p.2.1).map encM84_4))), (4, (Ob.arr 84 2 ((p.2.2.1).map encTreach_slot))), (5, (Ob.arr 3 1 (([] : List Int).map encI_i64))), (6, (Ob.arr 3 1 ((p.2.2.2).map encI_i64)))], 7⟩ : St)) (fun k85 p => k85 p.1 p.2.1 p.2.2.1 p.2.2.2 = some r) (fun k85 h => ?_) ?_
      ·refine rn 3 rfl ?_
       refine ixh hx91 rfl rfl ?_
       refine rn 6 rfl ?_
       refine dr mixed (vs 6 rfl (xD (OD.mk [(113, (V.imap (a1.on.map encM9_4))), (115, (sV x90.Feature))] [] [(116, (bV ((mget a1.on x90.Feature).getD false)))] []) ⟨⟨rfl, rfl, trivial⟩, trivial⟩ (by exact fun S hn h hh => aops_lookup _ (bV false) (bV ((mget a1.on x90.Feature).getD false)) tMap52 tKey9 tZo4 (irel_con _) wants_none h.1 .imm (.con h.2.1) ⟨_, rfl⟩ encM9_4_good (encM9_4_look a1.on x90.Feature) (getD_map (encM9_4_val) (mget a1.on x90.Feature) false) rfl (aops_nil ⟨rfl, rfl⟩)) rfl (vs 1 rfl .nil))) (by kernel_rfl) ?_
       refine spC h rfl (fun hb92 h => ?_) (fun hb92 h => ?_)
       ·refine rn 1 rfl ?_
        exact jX (l80, m81, l82, l83) h (gr [0, 1, 2, 3, 4, 5, 6] rfl (hB rfl rfl rfl (hR rfl rfl (hR rfl rfl (hM rfl rfl (hR rfl rfl (hR rfl rfl (hR rfl rfl .nil))))))) rfl)
       obtain ⟨y93, hx94, h⟩ := bind_some h
       refine rn 5 rfl ?_
       refine aops_mcallS (V.tup []) [(V.ptr 0 7 0 0), (V.agg (encTCall x90))] (fun i => ([0, 1, 2, 3, 4, 5, 6] : List Nat).getD i 0) (fun i => ([0, 1, 2, 3, 4, 5, 6, 8, 9] : List Nat).getD i 0) 8 10 [(0, (Ob.arr 47 7 [[(V.iptr (encTreach_world a1) 0), (V.own 1 (y93.1).length), (V.own 2 l51.length), (V.map 3), (V.own 8 (y93.2.2.1).length), (V.own 5 ([] : List Int).length), (V.own 9 (y93.2.2.2).length)]])), (1, (Ob.arr 4 1 ((y93.1).map encB))), (2, (Ob.arr 4 1 (l51.map encB))), (3, (Ob.map ((y93.2.1).map encM84_4))), (4, Ob.dead), (5, (Ob.arr 3 1 (([] : List Int).map encI_i64))), (6, Ob.dead), (8, (Ob.arr 84 2 ((y93.2.2.1).map encTreach_slot))), (9, (Ob.arr 3 1 ((y93.2.2.2).map encI_i64)))] fOk22 wants_none rfl (evm_cons rfl (evm_cons rfl evm_nil)) (.cons (Sub.ptr rfl rfl) (.cons (Sub.imm (Imm.agg (imms_encTCall _))) .nil)) (.cons rfl (ObSub.box (.cons (Sub.imm (Imm.iptr _ _)) (.cons (Sub.own rfl rfl) (.cons (Sub.own rfl rfl) (.cons (Sub.map rfl rfl) (.cons (Sub.own rfl rfl) (.cons (Sub.own rfl rfl) (.cons (Sub.own rfl rfl) .nil)))))))) (.cons rfl (ObSub.rows (rows_imm imms_encB)) (.cons rfl (ObSub.rows (rows_imm imms_encB)) (.cons rfl (ObSub.maps encM84_4_imm) (.cons rfl (ObSub.rows (rows_imm imms_encTreach_slot)) (.cons rfl (ObSub.rows (rows_imm imms_encI_i64)) (.cons rfl (ObSub.rows (rows_imm imms_encI_i64)) .nil))))))) (W22 F x90 a1 l80 l51 m81 l82 ([] : List Int) l83 y93 hx94) rfl rfl rfl rfl (Sub.immT (Imm.tup .nil)) (.cons rfl (ObSub.box (.cons (Sub.immT (Imm.iptr _ _)) (.cons (Sub.ownT rfl rfl) (.cons (Sub.ownT rfl rfl) (.cons (Sub.mapT rfl rfl) (.cons (Sub.ownT rfl rfl) (.cons (Sub.ownT rfl rfl) (.cons (Sub.ownT rfl rfl) .nil)))))))) (.cons rfl (ObSub.rowsT (rows_imm imms_encB)) (.cons rfl (ObSub.rowsT (rows_imm imms_encB)) (.cons rfl (ObSub.mapsT encM84_4_imm) (.cons rfl ObSub.deadT (.cons rfl (ObSub.rowsT (rows_imm imms_encI_i64)) (.cons rfl ObSub.deadT (.cons rfl (ObSub.rowsT (rows_imm imms_encTreach_slot)) (.cons rfl (ObSub.rowsT (rows_imm imms_encI_i64)) .nil))))))))) _ rfl ?_
       refine fo (rn 6 rfl ?_)
       refine spO 123 h rfl (fun hb95 h => ?_) (fun hb95 h => ?_)
       ·refine rn 5 rfl ?_
        refine ixo (a := (y93.1)) h rfl rfl rfl (fun x96 hx97 h => ?_)
        refine ldp hx97 rfl rfl rfl rfl ?_
        refine rn 2 rfl ?_
        refine spC h rfl (fun hb98 h => ?_) (fun hb98 h => ?_)
        ·refine rn 1 rfl ?_
         exact jX ((y93.1), l51, (y93.2.1), (y93.2.2.1), (y93.2.2.2)) h (gr [0, 1, 2, 3, 8, 5, 9] rfl (hB rfl rfl rfl (hR rfl rfl (hR rfl rfl (hM rfl rfl (hR rfl rfl (hR rfl rfl (hR rfl rfl .nil))))))) rfl)
        refine rn 2 rfl ?_
        exact jX ((y93.1), (y93.2.1), (y93.2.2.1), (y93.2.2.2)) h (gr [0, 1, 2, 3, 8, 5, 9] rfl (hB rfl rfl rfl (hR rfl rfl (hR rfl rfl (hM rfl rfl (hR rfl rfl (hR rfl rfl (hR rfl rfl .nil))))))) rfl)
       refine rn 12 rfl ?_
       exact jX ((y93.1), (y93.2.1), (y93.2.2.1), (y93.2.2.2)) h (gr [0, 1, 2, 3, 8, 5, 9] rfl (hB rfl rfl rfl (hR rfl rfl (hR rfl rfl (hM rfl rfl (hR rfl rfl (hR rfl rfl (hR rfl rfl .nil))))))) rfl)
      rintro ⟨l86, m87, l88, l89⟩ h
      refine rn 4 rfl ?_
      exact jX ((w64 (n79 + 1)), l86, m87, l88, l89) (hk4 _ h) (gr [0, 1, 2, 3, 4, 5, 6] rfl (hB rfl rfl rfl (hR rfl rfl (hR rfl rfl (hM rfl rfl (hR rfl rfl (hR rfl rfl (hR rfl rfl .nil))))))) rfl)
     replace h := RG.f h hb84
     unfold M13_1_L4 at h
     refine rn 1 rfl ?_
     exact jX (l80, m81, l82, l83) h (gr [0, 1, 2, 3, 4, 5, 6] rfl (hB rfl rfl rfl (hR rfl rfl (hR rfl rfl (hM rfl rfl (hR rfl rfl (hR rfl rfl (hR rfl rfl .nil))))))) rfl)
    rintro ⟨l70, m71, l72, l73⟩ h
    refine rn 1 rfl ?_
    exact jX (l70, l51, m71, l72, l73) h (gr [0, 1, 2, 3, 4, 5, 6] rfl (hB rfl rfl rfl (hR rfl rfl (hR rfl rfl (hM rfl rfl (hR rfl rfl (hR rfl rfl (hR rfl rfl .nil))))))) rfl)
   rintro ⟨l38, l39, m40, l41, l42⟩ h
   exact jX (l38, l39, m40, l41, l42) h (gr [0, 1, 2, 3, 4, 5, 6] rfl (hB rfl rfl rfl (hR rfl rfl (hR rfl rfl (hM rfl rfl (hR rfl rfl (hR rfl rfl (hR rfl rfl .nil))))))) rfl)
  refine rn 1 rfl ?_
  exact jX (l31, l32, m33, l34, l35) h (gr [0, 1, 2, 3, 4, 5, 6] rfl (hB rfl rfl rfl (hR rfl rfl (hR rfl rfl (hM rfl rfl (hR rfl rfl (hR rfl rfl (hR rfl rfl .nil))))))) rfl)
 rintro ⟨l21, l22, m23, l24, l25⟩ h
 refine rn 5 rfl ?_
 refine awp_ghost (ghost_frzC 1 0 (Ob.arr 47 7 [[(V.iptr (encTreach_world a1) 0), (V.lst 1 (l21.map encB)), (V.own 2 l22.length), (V.map 3), (V.own 4 l24.length), (V.own 5 ([] : List Int).length), (V.own 6 l25.length)]]) rfl (rows_imm imms_encB) (ObSub.box (.cons Sub.keep (.cons (Sub.frzAll (rows := l21.map encB) (List.length_map ..).symm) (.cons Sub.keep (.cons Sub.keep (.cons Sub.keep (.cons Sub.keep (.cons Sub.keep .nil))))))))) ?_
 refine awp_ghost (ghost_frzC 2 0 (Ob.arr 47 7 [[(V.iptr (encTreach_world a1) 0), (V.lst 1 (l21.map encB)), (V.lst 1 (l22.map encB)), (V.map 3), (V.own 4 l24.length), (V.own 5 ([] : List Int).length), (V.own 6 l25.length)]]) rfl (rows_imm imms_encB) (ObSub.box (.cons Sub.keep (.cons Sub.keep (.cons (Sub.frzAll (rows := l22.map encB) (List.length_map ..).symm) (.cons Sub.keep (.cons Sub.keep (.cons Sub.keep (.cons Sub.keep .nil))))))))) ?_
 refine awp_ghost (ghost_frzMC 3 0 (Ob.arr 47 7 [[(V.iptr (encTreach_world a1) 0), (V.lst 1 (l21.map encB)), (V.lst 1 (l22.map encB)), (V.imap (m23.map encM84_4)), (V.own 4 l24.length), (V.own 5 ([] : List Int).length), (V.own 6 l25.length)]]) rfl encM84_4_imm (ObSub.box (.cons Sub.keepM (.cons Sub.keepM (.cons Sub.keepM (.cons Sub.frzM (.cons Sub.keepM (.cons Sub.keepM (.cons Sub.keepM .nil))))))))) ?_
 refine awp_ghost (ghost_frzC 4 0 (Ob.arr 47 7 [[(V.iptr (encTreach_world a1) 0), (V.lst 1 (l21.map encB)), (V.lst 1 (l22.map encB)), (V.imap (m23.map encM84_4)), (V.lst 2 (l24.map encTreach_slot)), (V.own 5 ([] : List Int).length), (V.own 6 l25.length)]]) rfl (rows_imm imms_encTreach_slot) (ObSub.box (.cons Sub.keep (.cons Sub.keep (.cons Sub.keep (.cons Sub.keep (.cons (Sub.frzAll (rows := l24.map encTreach_slot) (List.length_map ..).symm) (.cons Sub.keep (.cons Sub.keep .nil))))))))) ?_
 refine awp_ghost (ghost_frzC 5 0 (Ob.arr 47 7 [[(V.iptr (encTreach_world a1) 0), (V.lst 1 (l21.map encB)), (V.lst 1 (l22.map encB)), (V.imap (m23.map encM84_4)), (V.lst 2 (l24.map encTreach_slot)), (V.lst 1 (([] : List Int).map encI_i64)), (V.own 6 l25.length)]]) rfl (rows_imm imms_encI_i64) (ObSub.box (.cons Sub.keep (.cons Sub.keep (.cons Sub.keep (.cons Sub.keep (.cons Sub.keep (.cons (Sub.frzAll (rows := ([] : List Int).map encI_i64) (List.length_map ..).symm) (.cons Sub.keep .nil))))))))) ?_
 refine awp_ghost (ghost_frzC 6 0 (Ob.arr 47 7 [[(V.iptr (encTreach_world a1) 0), (V.lst 1 (l21.map encB)), (V.lst 1 (l22.map encB)), (V.imap (m23.map encM84_4)), (V.lst 2 (l24.map encTreach_slot)), (V.lst 1 (([] : List Int).map encI_i64)), (V.lst 1 (l25.map encI_i64))]]) rfl (rows_imm imms_encI_i64) (ObSub.box (.cons Sub.keep (.cons Sub.keep (.cons Sub.keep (.cons Sub.keep (.cons Sub.keep (.cons Sub.keep (.cons (Sub.frzAll (rows := l25.map encI_i64) (List.length_map ..).symm) .nil))))))))) ?_
 refine awp_ghost (ghost_frzP 0 4 rfl (imms_rows (.cons (.cons (Imm.iptr _ _) (.cons (Imm.lst _ _) (.cons (Imm.lst _ _) (.cons (Imm.imap _) (.cons (Imm.lst _ _) (.cons (Imm.lst _ _) (.cons (Imm.lst _ _) .nil))))))) .nil)) rfl rfl) ?_
 refine fa ?_
 exact rt h rfl
theorem W8 (F : Nat) (a1 : TGraph) (a2 : Int) (a3 : (List (List UInt8))) (r : ((List (List UInt8)) × Int)) (h : M8 F a1 a2 a3 = some r) : Pure Try.prog 8 [(V.agg (encTGraph a1)), (iV a2), (V.lst 1 (a3.map encS))] (V.tup [(V.lst 1 ((r.1).map encS)), (iV (r.2))]) := by
 refine pin (fun r => (V.tup [(V.lst 1 ((r.1).map encS)), (iV (r.2))])) r rfl Try.func8 rfl rfl rfl rfl rfl (fun w0 m0 hg => ?_)
 unfold M8 at h
 refine rn 11 rfl ?_
 refine cl h rfl rfl rfl (W18_1 _ _ _ _) rfl (fun y4 hx5 h => ?_)
 refine rn 12 rfl ?_
 refine spC h rfl (fun hb6 h => ?_) (fun hb6 h => ?_)
 ·refine rn 6 rfl ?_
  exact rt h rfl
 obtain ⟨x7, hx8, h⟩ := bind_some h
 refine rn 7 rfl ?_
 refine opC 8 hx8 rfl ?_
 refine rn 2 rfl ?_
 refine cl h rfl rfl rfl (W13_1 _ _ _) rfl (fun y9 hx10 h => ?_)
 obtain ⟨x11, hx12, h⟩ := bind_some h
 refine opO 24 hx12 rfl ?_
 refine rn 3 rfl ?_
 refine ln rfl rfl ?_
 refine rn 2 rfl ?_
 refine jK h (fun (p : (List (List UInt8))) => (⟨[(10, (V.own 0 p.length))], [(0, (Ob.arr 9 1 (p.map encS)))], 1⟩ : St)) (fun k13 p => k13 p = some r) (fun k13 h => ?_) ?_
 ·refine rn 1 rfl ?_
  refine wl (A := x11.funcs) 27 rfl (fun hA28 => ?_)
  refine lC (fun (p : Int × (List (List UInt8))) => (⟨[(3, (V.ptr 0 4 0 0)), (10, (V.own 1 (p.2).length)), (27, (V.lst 1 (x11.funcs.map encB))), (28, (iV ((x11.funcs.length : Nat) : Int))), (29, (iV (p.1)))], [(0, (Ob.arr 27 4 [(encTGraph a1)])), (1, (Ob.arr 9 1 ((p.2).map encS)))], 2⟩ : St)) (fun n p => RG x11.funcs (fun tl nn => M8_L1 F a1 k13 tl nn p.2 = some r) n p.1) (fun p h => RG.zero h) (x11.funcs.length + 1) (0, ([] : List (List UInt8))) (RG.start h) (Ghost.trans (ghost_nilE 10 9 1 rfl) (ghost_ren 2 (fun i => ([0, 1] : List Nat).getD i 0) _ _ (by decide) (EnvSub.get (.cons (Sub.ptr rfl rfl) (.cons (Sub.ownE rfl rfl (by simp)) (.cons (Sub.imm (Imm.lst _ _)) (.cons (Sub.imm (Imm.con _)) (.cons (Sub.imm (Imm.con _)) .nil)))))) (HpSub.get (.cons rfl (ObSub.box (.cons (Sub.imm (Imm.lst _ _)) (.cons (Sub.imm (Imm.lst _ _)) (.cons (Sub.imm (Imm.lst _ _)) (.cons (Sub.imm (Imm.lst _ _)) .nil))))) (.cons rfl (ObSub.rows (rows_imm imms_encS)) .nil))) rfl)) (fun n p h => ?_)
  obtain ⟨n17, l18⟩ := p
  refine rn 5 rfl ?_
  refine spL rfl (fun hb19 => ?_) (fun hb19 => ?_)
  ·obtain ⟨x20, tl, hx21, h, hk1⟩ := RG.t hA28 h hb19
   unfold M8_L1 at h
   refine rn 6 rfl ?_
   refine ixh hx21 rfl rfl ?_
   refine rn 8 rfl ?_
   refine jK h (fun (p : (List (List UInt8))) => (⟨[(3, (V.ptr 0 4 0 0)), (10, (V.own 1 p.length)), (27, (V.lst 1 (x11.funcs.map encB))), (28, (iV ((x11.funcs.length : Nat) : Int))), (29, (iV n17))], [(0, (Ob.arr 27 4 [(encTGraph a1)])), (1, (Ob.arr 9 1 (p.map encS)))], 2⟩ : St)) (fun k22 p => k22 p = some r) (fun k22 h => ?_) ?_
   ·refine spC h rfl (fun hb24 h => ?_) (fun hb24 h => ?_)
    ·refine rn 5 rfl ?_
     refine ixl h rfl rfl (fun x25 hx26 h => ?_)
     refine rn 2 rfl ?_
     refine aops_buildSlice [(0, (sV x25.Name))] [[(sV x25.Name)]] tEl25 tZ9 rfl rfl rfl rfl wants_none (evp_cons rfl evp_nil) rfl rfl (by simp) rfl ?_
     refine fo ?_
     refine apO encS h rfl rfl rfl rfl rfl rfl rfl rfl (fun h => ?_)
     refine rn 2 rfl ?_
     exact jX (l18 ++ ([x25.Name] : List (List UInt8))) h (gr [0, 3] rfl (hB rfl rfl rfl (hR rfl rfl .nil)) rfl)
    refine rn 1 rfl ?_
    exact jX l18 h (gr [0, 1] rfl (hB rfl rfl rfl (hR rfl rfl .nil)) rfl)
   intro l23 h
   refine rn 5 rfl ?_
   exact jX ((w64 (n17 + 1)), l23) (hk1 _ h) (gr [0, 1] rfl (hB rfl rfl rfl (hR rfl rfl .nil)) rfl)
  replace h := RG.f h hb19
  unfold M8_L1 at h
  refine rn 1 rfl ?_
  exact jX l18 h (gr [1] rfl (hR rfl rfl .nil) rfl)
 intro l14 h
 refine rn 6 rfl ?_
 refine awp_ghost (ghost_frzEs 0 [6, 10, 45] rfl (rows_imm imms_encS) (List.forall_mem_cons.2 ⟨rfl, (List.forall_mem_cons.2 ⟨rfl, (List.forall_mem_cons.2 ⟨rfl, (fun _ hx => nomatch hx)⟩)⟩)⟩) (List.length_map ..).symm) ?_
 refine fa ?_
 exact rt h rfl
theorem W10 (F : Nat) (a1 : Int) (a2 : Int) (a3 : List (List UInt8)) (r : List (List UInt8)) (h : M10 F a1 a2 a3 = some r) : Mut Try.prog 10 [(V.own 0 a3.length), (iV a1), (iV a2)] 1 [(0, (Ob.arr 9 1 (a3.map encS)))] (resV [(V.own 0 r.length)]) 1 [(0, (Ob.arr 9 1 (r.map encS)))] := by
 unfold M10 at h
 by_cases hc : 0 ≤ a1 ∧ a1 ≤ a2 ∧ a2.toNat ≤ a3.length
 ·rw [if_pos hc] at h
  replace h := Option.some.inj h
  subst h
  exact (mdel10 a3 hc).heap hget_one
 ·rw [if_neg hc] at h; simp at h
theorem W3 (F : Nat) (a1 : TGraph) (a2 : Int) (a3 : (List (List UInt8))) (a4 : (List UInt8)) (r : Bool) (h : M3 F a1 a2 a3 a4 = some r) : Pure Try.prog 3 [(V.agg (encTGraph a1)), (iV a2), (V.lst 1 (a3.map encS)), (sV a4)] (bV r) := by
 refine pin (fun r => (bV r)) r rfl Try.func3 rfl rfl rfl rfl rfl (fun w0 m0 hg => ?_)
 unfold M3 at h
 refine rn 11 rfl ?_
 refine cl h rfl rfl rfl (W4 _ _ _ _ _) rfl (fun y5 hx6 h => ?_)
 refine rn 14 rfl ?_
 refine cl h rfl rfl rfl (W5 _ _ _ _ _) rfl (fun y7 hx8 h => ?_)
 refine rn 15 rfl ?_
 refine spO 41 h rfl (fun hb9 h => ?_) (fun hb9 h => ?_)
 ·refine rn 16 rfl ?_
  exact rt h rfl
 refine rn 5 rfl ?_
 refine spO 46 h rfl (fun hb10 h => ?_) (fun hb10 h => ?_)
 ·refine rn 11 rfl ?_
  exact rt h rfl
 refine rn 2 rfl ?_
 refine cl h rfl rfl rfl (W6 _ _ _) rfl (fun y11 hx12 h => ?_)
 refine rn 3 rfl ?_
 refine spC h rfl (fun hb13 h => ?_) (fun hb13 h => ?_)
 ·refine rn 4 rfl ?_
  exact rt h rfl
 refine rn 7 rfl ?_
 refine spC h rfl (fun hb14 h => ?_) (fun hb14 h => ?_)
 ·refine rn 2 rfl ?_
  refine cl h rfl rfl rfl (W7 _) rfl (fun y15 hx16 h => ?_)
  refine rn 2 rfl ?_
  exact rt h rfl
 refine rn 6 rfl ?_
 refine cl h rfl rfl rfl (W8 _ _ _ _) rfl (fun y17 hx18 h => ?_)
 refine rn 12 rfl ?_
 refine spO 64 h rfl (fun hb19 h => ?_) (fun hb19 h => ?_)
 ·refine rn 11 rfl ?_
  exact rt h rfl
 refine rn 2 rfl ?_
 refine cl h rfl rfl rfl (W9 _ _ _) rfl (fun y20 hx21 h => ?_)
 refine rn 3 rfl ?_
 refine spC h rfl (fun hb22 h => ?_) (fun hb22 h => ?_)
 ·refine rn 4 rfl ?_
  exact rt h rfl
 refine rn 5 rfl ?_
 refine ln rfl rfl ?_
 refine rn 2 rfl ?_
 refine jK h (fun _ : Unit => (⟨[], [], 0⟩ : St)) (fun k23 (_ : Unit) => k23 = some r) (fun k23 h => ?_) ?_
 ·refine rn 1 rfl ?_
  refine wl (A := (y5.1)) 26 rfl (fun hA37 => ?_)
  refine lC (fun (p : Int) => (⟨[(1, (iV a2)), (3, (sV a4)), (4, (V.ptr 0 4 0 0)), (9, (V.lst 1 ((y5.1).map encS))), (71, (iV (((y5.1).length : Nat) : Int))), (72, (iV p))], [(0, (Ob.arr 27 4 [(encTGraph a1)]))], 1⟩ : St)) (fun n p => RC (((y5.1).length : Nat) : Int) (fun tl nn => M3_L1 F a1 a2 a4 y5 k23 tl nn = some r) n p) (fun p h => RC.zero h) (Int.toNat (((y5.1).length : Nat) : Int) + 1) 0 (RC.start h) (gr [0] rfl (hB rfl rfl rfl .nil) rfl) (fun n n25 h => ?_)
  refine rn 5 rfl ?_
  refine spL rfl (fun hb26 => ?_) (fun hb26 => ?_)
  ·obtain ⟨tl, h, hk1⟩ := RC.t (by unfold maxLen at hA37; omega) h hb26
   unfold M3_L1 at h
   obtain ⟨y27, hx28, h⟩ := bind_some h
   obtain ⟨y29, hx30, h⟩ := bind_some h
   obtain ⟨y31, hx32, h⟩ := bind_some h
   refine rn 9 rfl ?_
   refine awp_ghost ghost_res ?_
   refine fa ?_
   refine dr mixed (vs 3 rfl (xD (OD.mk [(78, (V.lst 1 ((y5.1).map encS)))] [(1, Ob.res)] [(79, (V.own 1 y27.length))] [(1, (Ob.arr 9 1 (y27.map encS)))]) ⟨⟨rfl, trivial⟩, ⟨rfl, trivial⟩⟩ (by exact fun S hn h hh => aops_mcall_at [1] rfl hn (List.forall_mem_cons.2 ⟨hh.1, (fun _ hx => nomatch hx)⟩) (V.own 1 y27.length) [(V.lst 1 ((y5.1).map encS))] [(1, (Ob.arr 9 1 (y27.map encS)))] fOk11 wants_none rfl (evm_cons h.1 evm_nil) (.cons (Sub.imm (Imm.lst _ _)) .nil) (W11 F (y5.1) y27 hx28) rfl rfl (Sub.ownT rfl rfl) (.cons rfl (ObSub.rowsT (rows_imm imms_encS)) .nil) (aops_nil ⟨rfl, rfl⟩)) rfl (vs 3 rfl (xD (OD.mk [(79, (V.own 1 y27.length)), (80, (iV n25)), (82, (iV (w64 (n25 + 1))))] [(1, (Ob.arr 9 1 (y27.map encS)))] [(83, (V.own 1 y29.length))] [(1, (Ob.arr 9 1 (y29.map encS)))]) ⟨⟨rfl, rfl, rfl, trivial⟩, ⟨rfl, trivial⟩⟩ (by exact fun S hn h hh => aops_mcall_atH [] hn (fun _ hx => nomatch hx) (V.own 1 y29.length) [(V.own 1 y27.length), (iV n25), (iV (w64 (n25 + 1)))] (fun i => ([1] : List Nat).getD i 0) (fun i => ([1] : List Nat).getD i 0) [(1, (Ob.arr 9 1 (y29.map encS)))] fOk10 wants_none rfl (evm_cons h.1 (evm_cons h.2.1 (evm_cons h.2.2.1 evm_nil))) (.cons (Sub.own rfl rfl) (.cons (Sub.imm (Imm.con _)) (.cons (Sub.imm (Imm.con _)) .nil))) (HpSub.consE (id := 0) rfl hh.1 (ObSub.rows (rows_imm imms_encS)) .nil) (W10 F n25 (w64 (n25 + 1)) y27 y29 hx30) rfl rfl rfl rfl (Sub.ownT rfl rfl) (.cons rfl (ObSub.rowsT (rows_imm imms_encS)) .nil) (aops_nil ⟨rfl, rfl⟩)) rfl (xD (OD.mk [(76, (V.agg (encTGraph a1))), (77, (iV a2)), (83, (V.own 1 y29.length))] [(1, (Ob.arr 9 1 (y29.map encS)))] [(84, (V.tup [(V.lst 1 ((y31.1).map encS)), (iV (y31.2))])), (83, (V.lst 1 (y29.map encS)))] [(1, Ob.dead)]) ⟨⟨rfl, rfl, rfl, trivial⟩, ⟨rfl, trivial⟩⟩ (by exact fun S hn h hh => aops_ghost (ghost_frzE 1 83 hh.1 (rows_imm imms_encS) h.2.2.1 (List.length_map ..).symm) (aops_call (V.tup [(V.lst 1 ((y31.1).map encS)), (iV (y31.2))]) [(V.agg (encTGraph a1)), (iV a2), (V.lst 1 (y29.map encS))] fOk8 wants_none (evm_cons h.1 (evm_cons h.2.1 (evm_cons rfl evm_nil))) (.cons (Imm.agg (imms_encTGraph _)) (.cons (Imm.con _) (.cons (Imm.lst _ _) .nil))) (W8 F a1 a2 y29 y31 hx32) rfl (aops_nil ⟨rfl, rfl⟩))) rfl (vs 5 rfl .nil)))))) (by kernel_rfl) ?_
   refine rn 5 rfl ?_
   refine spO 89 h rfl (fun hb33 h => ?_) (fun hb33 h => ?_)
   ·refine rn 10 rfl ?_
    exact rt h rfl
   refine rn 2 rfl ?_
   refine cl h rfl rfl rfl (W9 _ _ _) rfl (fun y34 hx35 h => ?_)
   refine rn 2 rfl ?_
   refine spC h rfl (fun hb36 h => ?_) (fun hb36 h => ?_)
   ·refine rn 4 rfl ?_
    exact rt h rfl
   refine rn 6 rfl ?_
   exact jX (w64 (n25 + 1)) (hk1 _ h) (gr [0] rfl (hB rfl rfl rfl .nil) rfl)
  replace h := RC.f h hb26
  unfold M3_L1 at h
  refine rn 1 rfl ?_
  exact jX () h (g0 rfl rfl)
 intro _ h
 refine rn 2 rfl ?_
 refine cl h rfl rfl rfl (W7 _) rfl (fun y38 hx39 h => ?_)
 refine rn 2 rfl ?_
 exact rt h rfl
end Go.Proofs.Ytcbkgdagiccfmaa
