/- Part of the proof: R6W3b, R6W5a, R6W6a. -/
import Derived.Test.YtpbkggamiipdmaaH7PvQ
import Derived.Test.YtpbkggamiipdmaaH7RE
import Derived.Test.YtpbkggamiipdmaaH7RA
import Derived.Test.YtpbkggamiipdmaaH7R6W3a
import Derived.KernelRfl
import Derived.Test.YtpbkggamiipdmaaH7EX
namespace Go.Proofs.Ytpbkggamiipdmaa
open Go Go.Pv
set_option linter.unusedVariables false
set_option maxRecDepth 100000
theorem W73 (F : Nat) (a1 : Tprovenderref6_net) (a2 : Int) (a3 : Tprovenderref6_sets) (r : Tprovenderref6_sets) (h : M73 F a1 a2 a3 = some r) : Pure Try.prog 73 [(V.agg (encTprovenderref6_net a1)), (iV a2), (V.agg (encTprovenderref6_sets a3))] (V.agg (encTprovenderref6_sets r)) := by
 refine pin (fun r => (V.agg (encTprovenderref6_sets r))) r rfl Try.func73 rfl rfl rfl rfl rfl (fun w0 m0 hg => ?_)
 unfold M73 at h
 refine rn 20 rfl ?_
 refine ln rfl rfl ?_
 refine rn 2 rfl ?_
 refine jK h (fun (p : (List ((List UInt8) × Bool))) => (⟨[(1, (iV a2)), (3, (V.ptr 0 6 0 0)), (5, (V.ptr 1 2 0 0)), (6, (V.ptr 2 2 0 0)), (7, (V.ptr 3 2 0 0))], [(0, (Ob.arr 78 6 [(encTprovenderref6_net a1)])), (1, (Ob.arr 74 2 [(encTprovenderref6_sets a3)])), (2, (Ob.arr 74 2 [[(V.con (.map none)), (V.con (.map none))]])), (3, (Ob.arr 74 2 [[(V.map 4), (V.map 5)]])), (4, (Ob.map (p.map encM9_4))), (5, (Ob.map (([] : List ((List UInt8) × Bool)).map encM9_4)))], 6⟩ : St)) (fun k4 p => k4 p = some r) (fun k4 h => ?_) ?_
 ·refine rn 1 rfl ?_
  refine wl (A := a1.g.Entries) 22 rfl (fun hA13 => ?_)
  refine lC (fun (p : Int × (List ((List UInt8) × Bool))) => (⟨[(1, (iV a2)), (3, (V.ptr 0 6 0 0)), (5, (V.ptr 1 2 0 0)), (6, (V.ptr 2 2 0 0)), (7, (V.ptr 3 2 0 0)), (22, (V.lst 1 (a1.g.Entries.map encS))), (23, (iV ((a1.g.Entries.length : Nat) : Int))), (24, (iV (p.1)))], [(0, (Ob.arr 78 6 [(encTprovenderref6_net a1)])), (1, (Ob.arr 74 2 [(encTprovenderref6_sets a3)])), (2, (Ob.arr 74 2 [[(V.con (.map none)), (V.con (.map none))]])), (3, (Ob.arr 74 2 [[(V.map 4), (V.map 5)]])), (4, (Ob.map ((p.2).map encM9_4))), (5, (Ob.map (([] : List ((List UInt8) × Bool)).map encM9_4)))], 6⟩ : St)) (fun n p => RG a1.g.Entries (fun tl nn => M73_L1 F k4 tl p.2 = some r) n p.1) (fun p h => RG.zero h) (a1.g.Entries.length + 1) (0, ([] : List ((List UInt8) × Bool))) (RG.start h) (gr [0, 1, 2, 5, 3, 4] rfl (hB rfl rfl rfl (hB rfl rfl rfl (hB rfl rfl rfl (hB rfl rfl rfl (hM rfl rfl (hM rfl rfl .nil)))))) rfl) (fun n p h => ?_)
  obtain ⟨n8, m9⟩ := p
  refine rn 5 rfl ?_
  refine spL rfl (fun hb10 => ?_) (fun hb10 => ?_)
  ·obtain ⟨x11, tl, hx12, h, hk1⟩ := RG.t hA13 h hb10
   unfold M73_L1 at h
   refine rn 5 rfl ?_
   refine ixh hx12 rfl rfl ?_
   refine rn 7 rfl ?_
   refine aops_mapUpdate (es := m9.map encM9_4) ((mput m9 x11 true).map encM9_4) tMap72 tKey9 wants_none rfl rfl (.con rfl) ⟨_, rfl⟩ encM9_4_good rfl (encM9_4_puts m9 x11 true) ?_
   refine aops_ghost (ghost_permM 4 rfl (canonM_map encM9_4 (mput m9 x11 true))) ?_
   refine fo (rn 6 rfl ?_)
   exact jX ((w64 (n8 + 1)), (canonM (mput m9 x11 true))) (hk1 _ h) (gr [0, 1, 2, 3, 4, 5] rfl (hB rfl rfl rfl (hB rfl rfl rfl (hB rfl rfl rfl (hB rfl rfl rfl (hM rfl rfl (hM rfl rfl .nil)))))) rfl)
  replace h := RG.f h hb10
  unfold M73_L1 at h
  refine rn 1 rfl ?_
  exact jX m9 h (gr [0, 1, 2, 3, 4, 5] rfl (hB rfl rfl rfl (hB rfl rfl rfl (hB rfl rfl rfl (hB rfl rfl rfl (hM rfl rfl (hM rfl rfl .nil)))))) rfl)
 intro m5 h
 refine rn 5 rfl ?_
 refine aops_range tMap72 wants_none rfl rfl ?_
 refine fo (rn 2 rfl ?_)
 refine lC (fun (p : (List ((List UInt8) × Bool)) × (List ((List UInt8) × Bool)) × (List ((List UInt8) × Bool))) => (⟨[(1, (iV a2)), (3, (V.ptr 0 6 0 0)), (5, (V.ptr 1 2 0 0)), (6, (V.ptr 2 2 0 0)), (7, (V.ptr 3 2 0 0)), (34, (V.ptr 4 1 0 0))], [(0, (Ob.arr 78 6 [(encTprovenderref6_net a1)])), (1, (Ob.arr 74 2 [(encTprovenderref6_sets a3)])), (2, (Ob.arr 74 2 [[(V.con (.map none)), (V.con (.map none))]])), (3, (Ob.arr 74 2 [[(V.map 5), (V.map 6)]])), (4, (Ob.iter [] ((p.1).map encM9_4))), (5, (Ob.map ((p.2.1).map encM9_4))), (6, (Ob.map ((p.2.2).map encM9_4)))], 7⟩ : St)) (fun n p => RM n p.1 (M73_L2 F a1 a2 a3 p.1 p.2.1 p.2.2 = some r)) (fun p h => RM.zero h) (a3.reached.length + 1) (a3.reached, m5, ([] : List ((List UInt8) × Bool))) (RM.start h) (gr [0, 1, 2, 3, 6, 4, 5] rfl (hB rfl rfl rfl (hB rfl rfl rfl (hB rfl rfl rfl (hB rfl rfl rfl (hI rfl rfl (hM rfl rfl (hM rfl rfl .nil))))))) rfl) (fun n p h => ?_)
 obtain ⟨l17, m18, m19⟩ := p
 refine rn 2 rfl ?_
 refine nxt rfl rfl wants_none rfl (fun hl2 => ?_) (fun e20 l21 hq2 hp2 => ?_)
 ·replace h := h.2
  subst hl2
  unfold M73_L2 at h
  refine rn 10 rfl ?_
  refine awp_ghost (ghost_frzMC 5 2 (Ob.arr 74 2 [[(V.imap (m18.map encM9_4)), (V.map 6)]]) rfl encM9_4_imm (ObSub.box (.cons Sub.frzM (.cons Sub.keepM .nil)))) ?_
  refine awp_ghost (ghost_frzMC 6 2 (Ob.arr 74 2 [[(V.imap (m18.map encM9_4)), (V.imap (m19.map encM9_4))]]) rfl encM9_4_imm (ObSub.box (.cons Sub.keepM (.cons Sub.frzM .nil)))) ?_
  refine fa ?_
  exact rt h rfl
 have hm2 := h
 replace h := ord_M73_L2 hp2 h.2
 unfold M73_L2 at h
 refine rn 5 rfl ?_
 refine jK h (fun (p : (List ((List UInt8) × Bool)) × (List ((List UInt8) × Bool))) => (⟨[(1, (iV a2)), (3, (V.ptr 0 6 0 0)), (5, (V.ptr 1 2 0 0)), (6, (V.ptr 2 2 0 0)), (7, (V.ptr 3 2 0 0)), (34, (V.ptr 4 1 0 0))], [(0, (Ob.arr 78 6 [(encTprovenderref6_net a1)])), (1, (Ob.arr 74 2 [(encTprovenderref6_sets a3)])), (2, (Ob.arr 74 2 [[(V.con (.map none)), (V.con (.map none))]])), (3, (Ob.arr 74 2 [[(V.map 5), (V.map 6)]])), (4, (Ob.iter [] (l21.map encM9_4))), (5, (Ob.map ((p.1).map encM9_4))), (6, (Ob.map ((p.2).map encM9_4)))], 7⟩ : St)) (fun k22 p => k22 p.1 p.2 = some r) (fun k22 h => ?_) ?_
 ·refine rn 3 rfl ?_
  refine aops_entry wants_none rfl rfl rfl ?_
  refine fo (rn 8 rfl ?_)
  refine aops_mapUpdate (es := m18.map encM9_4) ((mput m18 e20.1 true).map encM9_4) tMap72 tKey9 wants_none rfl rfl (.con rfl) ⟨_, rfl⟩ encM9_4_good rfl (encM9_4_puts m18 e20.1 true) ?_
  refine aops_ghost (ghost_permM 5 rfl (canonM_map encM9_4 (mput m18 e20.1 true))) ?_
  refine fo (rn 7 rfl ?_)
  refine aops_lookup _ (V.agg [(sV ([] : List UInt8)), (sV ([] : List UInt8)), (V.lst 4 (([] : List TCall).map encTCall)), (V.lst 1 (([] : List (List UInt8)).map encS))]) (V.agg (encTFunc ((mget a1.funcs e20.1).getD (TFunc.mk ([] : List UInt8) ([] : List UInt8) ([] : (List TCall)) ([] : (List (List UInt8))))))) tMap76 tKey9 tZo69 (irel_aggZ (.con (.con (.sl (.sl .nil))))) wants_none rfl .imm (.con rfl) ⟨_, rfl⟩ encM9_69_good (encM9_69_look a1.funcs e20.1) (getD_map (encM9_69_val) (mget a1.funcs e20.1) (TFunc.mk ([] : List UInt8) ([] : List UInt8) ([] : (List TCall)) ([] : (List (List UInt8))))) rfl ?_
  refine fo (rn 1 rfl ?_)
  refine ln rfl rfl ?_
  refine rn 2 rfl ?_
  refine jK h (fun (p : (List ((List UInt8) × Bool))) => (⟨[(1, (iV a2)), (3, (V.ptr 0 6 0 0)), (5, (V.ptr 1 2 0 0)), (6, (V.ptr 2 2 0 0)), (7, (V.ptr 3 2 0 0)), (10, (sV e20.1)), (34, (V.ptr 4 1 0 0))], [(0, (Ob.arr 78 6 [(encTprovenderref6_net a1)])), (1, (Ob.arr 74 2 [(encTprovenderref6_sets a3)])), (2, (Ob.arr 74 2 [[(V.con (.map none)), (V.con (.map none))]])), (3, (Ob.arr 74 2 [[(V.map 5), (V.map 6)]])), (4, (Ob.iter [] (l21.map encM9_4))), (5, (Ob.map ((canonM (mput m18 e20.1 true)).map encM9_4))), (6, (Ob.map (p.map encM9_4)))], 7⟩ : St)) (fun k25 p => k25 p = some r) (fun k25 h => ?_) ?_
  ·refine rn 1 rfl ?_
   refine wl (A := ((mget a1.funcs e20.1).getD (TFunc.mk ([] : List UInt8) ([] : List UInt8) ([] : (List TCall)) ([] : (List (List UInt8))))).Makes) 46 rfl (fun hA34 => ?_)
   refine lC (fun (p : Int × (List ((List UInt8) × Bool))) => (⟨[(1, (iV a2)), (3, (V.ptr 0 6 0 0)), (5, (V.ptr 1 2 0 0)), (6, (V.ptr 2 2 0 0)), (7, (V.ptr 3 2 0 0)), (10, (sV e20.1)), (34, (V.ptr 4 1 0 0)), (46, (V.lst 1 (((mget a1.funcs e20.1).getD (TFunc.mk ([] : List UInt8) ([] : List UInt8) ([] : (List TCall)) ([] : (List (List UInt8))))).Makes.map encS))), (47, (iV ((((mget a1.funcs e20.1).getD (TFunc.mk ([] : List UInt8) ([] : List UInt8) ([] : (List TCall)) ([] : (List (List UInt8))))).Makes.length : Nat) : Int))), (48, (iV (p.1)))], [(0, (Ob.arr 78 6 [(encTprovenderref6_net a1)])), (1, (Ob.arr 74 2 [(encTprovenderref6_sets a3)])), (2, (Ob.arr 74 2 [[(V.con (.map none)), (V.con (.map none))]])), (3, (Ob.arr 74 2 [[(V.map 5), (V.map 6)]])), (4, (Ob.iter [] (l21.map encM9_4))), (5, (Ob.map ((canonM (mput m18 e20.1 true)).map encM9_4))), (6, (Ob.map ((p.2).map encM9_4)))], 7⟩ : St)) (fun n p => RG (((mget a1.funcs e20.1).getD (TFunc.mk ([] : List UInt8) ([] : List UInt8) ([] : (List TCall)) ([] : (List (List UInt8))))).Makes) (fun tl nn => M73_L3 F k25 tl p.2 = some r) n p.1) (fun p h => RG.zero h) ((((mget a1.funcs e20.1).getD (TFunc.mk ([] : List UInt8) ([] : List UInt8) ([] : (List TCall)) ([] : (List (List UInt8))))).Makes).length + 1) (0, m19) (RG.start h) (gr [0, 1, 2, 3, 4, 5, 6] rfl (hB rfl rfl rfl (hB rfl rfl rfl (hB rfl rfl rfl (hB rfl rfl rfl (hI rfl rfl (hM rfl rfl (hM rfl rfl .nil))))))) rfl) (fun n p h => ?_)
   obtain ⟨n29, m30⟩ := p
   refine rn 5 rfl ?_
   refine spL rfl (fun hb31 => ?_) (fun hb31 => ?_)
   ·obtain ⟨x32, tl, hx33, h, hk3⟩ := RG.t hA34 h hb31
    unfold M73_L3 at h
    refine rn 5 rfl ?_
    refine ixh hx33 rfl rfl ?_
    refine rn 7 rfl ?_
    refine aops_mapUpdate (es := m30.map encM9_4) ((mput m30 x32 true).map encM9_4) tMap72 tKey9 wants_none rfl rfl (.con rfl) ⟨_, rfl⟩ encM9_4_good rfl (encM9_4_puts m30 x32 true) ?_
    refine aops_ghost (ghost_permM 6 rfl (canonM_map encM9_4 (mput m30 x32 true))) ?_
    refine fo (rn 6 rfl ?_)
    exact jX ((w64 (n29 + 1)), (canonM (mput m30 x32 true))) (hk3 _ h) (gr [0, 1, 2, 3, 4, 5, 6] rfl (hB rfl rfl rfl (hB rfl rfl rfl (hB rfl rfl rfl (hB rfl rfl rfl (hI rfl rfl (hM rfl rfl (hM rfl rfl .nil))))))) rfl)
   replace h := RG.f h hb31
   unfold M73_L3 at h
   refine rn 1 rfl ?_
   exact jX m30 h (gr [0, 1, 2, 3, 4, 5, 6] rfl (hB rfl rfl rfl (hB rfl rfl rfl (hB rfl rfl rfl (hB rfl rfl rfl (hI rfl rfl (hM rfl rfl (hM rfl rfl .nil))))))) rfl)
  intro m26 h
  refine rn 5 rfl ?_
  refine aops_lookup _ (V.lst 3 (([] : (List Tprovenderref6_link)).map encTprovenderref6_link)) (V.lst 3 (((mget a1.links e20.1).getD ([] : (List Tprovenderref6_link))).map encTprovenderref6_link)) tMap75 tKey9 tZo122 (fun _ => .nil _ _ _) wants_none rfl .imm (.con rfl) ⟨_, rfl⟩ encM9_122_good (encM9_122_look a1.links e20.1) (getD_map (encM9_122_val) (mget a1.links e20.1) ([] : (List Tprovenderref6_link))) rfl ?_
  refine fo ?_
  refine ln rfl rfl ?_
  refine rn 2 rfl ?_
  refine jK h (fun (p : (List ((List UInt8) × Bool))) => (⟨[(1, (iV a2)), (3, (V.ptr 0 6 0 0)), (5, (V.ptr 1 2 0 0)), (6, (V.ptr 2 2 0 0)), (7, (V.ptr 3 2 0 0)), (34, (V.ptr 4 1 0 0))], [(0, (Ob.arr 78 6 [(encTprovenderref6_net a1)])), (1, (Ob.arr 74 2 [(encTprovenderref6_sets a3)])), (2, (Ob.arr 74 2 [[(V.con (.map none)), (V.con (.map none))]])), (3, (Ob.arr 74 2 [[(V.map 5), (V.map 6)]])), (4, (Ob.iter [] (l21.map encM9_4))), (5, (Ob.map (p.map encM9_4))), (6, (Ob.map (m26.map encM9_4)))], 7⟩ : St)) (fun k35 p => k35 p = some r) (fun k35 h => ?_) ?_
  ·refine rn 1 rfl ?_
   refine wl (A := ((mget a1.links e20.1).getD ([] : (List Tprovenderref6_link)))) 59 rfl (fun hA63 => ?_)
   refine lC (fun (p : Int × (List ((List UInt8) × Bool))) => (⟨[(1, (iV a2)), (3, (V.ptr 0 6 0 0)), (5, (V.ptr 1 2 0 0)), (6, (V.ptr 2 2 0 0)), (7, (V.ptr 3 2 0 0)), (34, (V.ptr 4 1 0 0)), (59, (V.lst 3 (((mget a1.links e20.1).getD ([] : (List Tprovenderref6_link))).map encTprovenderref6_link))), (60, (iV ((((mget a1.links e20.1).getD ([] : (List Tprovenderref6_link))).length : Nat) : Int))), (61, (iV (p.1)))], [(0, (Ob.arr 78 6 [(encTprovenderref6_net a1)])), (1, (Ob.arr 74 2 [(encTprovenderref6_sets a3)])), (2, (Ob.arr 74 2 [[(V.con (.map none)), (V.con (.map none))]])), (3, (Ob.arr 74 2 [[(V.map 5), (V.map 6)]])), (4, (Ob.iter [] (l21.map encM9_4))), (5, (Ob.map ((p.2).map encM9_4))), (6, (Ob.map (m26.map encM9_4)))], 7⟩ : St)) (fun n p => RG ((mget a1.links e20.1).getD ([] : (List Tprovenderref6_link))) (fun tl nn => M73_L4 F a2 a3 k35 tl p.2 = some r) n p.1) (fun p h => RG.zero h) (((mget a1.links e20.1).getD ([] : (List Tprovenderref6_link))).length + 1) (0, (canonM (mput m18 e20.1 true))) (RG.start h) (gr [0, 1, 2, 3, 4, 5, 6] rfl (hB rfl rfl rfl (hB rfl rfl rfl (hB rfl rfl rfl (hB rfl rfl rfl (hI rfl rfl (hM rfl rfl (hM rfl rfl .nil))))))) rfl) (fun n p h => ?_)
   obtain ⟨n39, m40⟩ := p
   refine rn 5 rfl ?_
   refine spL rfl (fun hb41 => ?_) (fun hb41 => ?_)
   ·obtain ⟨x44, tl, hx45, h, hk4⟩ := RG.t hA63 h hb41
    unfold M73_L4 at h
    refine rn 2 rfl ?_
    refine jK h (fun (p : (List ((List UInt8) × Bool))) => (⟨[(1, (iV a2)), (3, (V.ptr 0 6 0 0)), (5, (V.ptr 1 2 0 0)), (6, (V.ptr 2 2 0 0)), (7, (V.ptr 3 2 0 0)), (34, (V.ptr 4 1 0 0)), (59, (V.lst 3 (((mget a1.links e20.1).getD ([] : (List Tprovenderref6_link))).map encTprovenderref6_link))), (60, (iV ((((mget a1.links e20.1).getD ([] : (List Tprovenderref6_link))).length : Nat) : Int))), (61, (iV n39))], [(0, (Ob.arr 78 6 [(encTprovenderref6_net a1)])), (1, (Ob.arr 74 2 [(encTprovenderref6_sets a3)])), (2, (Ob.arr 74 2 [[(V.con (.map none)), (V.con (.map none))]])), (3, (Ob.arr 74 2 [[(V.map 5), (V.map 6)]])), (4, (Ob.iter [] (l21.map encM9_4))), (5, (Ob.map (p.map encM9_4))), (6, (Ob.map (m26.map encM9_4)))], 7⟩ : St)) (fun k42 p => k42 p = some r) (fun k42 h => ?_) ?_
    ·refine rn 3 rfl ?_
     refine ixh hx45 rfl rfl ?_
     refine rn 8 rfl ?_
     refine ln rfl rfl ?_
     refine rn 2 rfl ?_
     refine jK h (fun (p : (List ((List UInt8) × Bool))) => (⟨[(1, (iV a2)), (3, (V.ptr 0 6 0 0)), (5, (V.ptr 1 2 0 0)), (6, (V.ptr 2 2 0 0)), (7, (V.ptr 3 2 0 0)), (34, (V.ptr 4 1 0 0)), (59, (V.lst 3 (((mget a1.links e20.1).getD ([] : (List Tprovenderref6_link))).map encTprovenderref6_link))), (60, (iV ((((mget a1.links e20.1).getD ([] : (List Tprovenderref6_link))).length : Nat) : Int))), (61, (iV n39))], [(0, (Ob.arr 78 6 [(encTprovenderref6_net a1)])), (1, (Ob.arr 74 2 [(encTprovenderref6_sets a3)])), (2, (Ob.arr 74 2 [[(V.con (.map none)), (V.con (.map none))]])), (3, (Ob.arr 74 2 [[(V.map 5), (V.map 6)]])), (4, (Ob.iter [] (l21.map encM9_4))), (5, (Ob.map (p.map encM9_4))), (6, (Ob.map (m26.map encM9_4)))], 7⟩ : St)) (fun k46 p => k46 p = some r) (fun k46 h => ?_) ?_
     ·refine rn 1 rfl ?_
      refine wl (A := x44.aims) 66 rfl (fun hA62 => ?_)
      refine lC (fun (p : Int × (List ((List UInt8) × Bool))) => (⟨[(1, (iV a2)), (3, (V.ptr 0 6 0 0)), (5, (V.ptr 1 2 0 0)), (6, (V.ptr 2 2 0 0)), (7, (V.ptr 3 2 0 0)), (34, (V.ptr 4 1 0 0)), (59, (V.lst 3 (((mget a1.links e20.1).getD ([] : (List Tprovenderref6_link))).map encTprovenderref6_link))), (60, (iV ((((mget a1.links e20.1).getD ([] : (List Tprovenderref6_link))).length : Nat) : Int))), (61, (iV n39)), (66, (V.lst 2 (x44.aims.map encTprovenderref6_aim))), (67, (iV ((x44.aims.length : Nat) : Int))), (68, (iV (p.1)))], [(0, (Ob.arr 78 6 [(encTprovenderref6_net a1)])), (1, (Ob.arr 74 2 [(encTprovenderref6_sets a3)])), (2, (Ob.arr 74 2 [[(V.con (.map none)), (V.con (.map none))]])), (3, (Ob.arr 74 2 [[(V.map 5), (V.map 6)]])), (4, (Ob.iter [] (l21.map encM9_4))), (5, (Ob.map ((p.2).map encM9_4))), (6, (Ob.map (m26.map encM9_4)))], 7⟩ : St)) (fun n p => RG x44.aims (fun tl nn => M73_L5 F a2 a3 k46 tl p.2 = some r) n p.1) (fun p h => RG.zero h) (x44.aims.length + 1) (0, m40) (RG.start h) (gr [0, 1, 2, 3, 4, 5, 6] rfl (hB rfl rfl rfl (hB rfl rfl rfl (hB rfl rfl rfl (hB rfl rfl rfl (hI rfl rfl (hM rfl rfl (hM rfl rfl .nil))))))) rfl) (fun n p h => ?_)
      obtain ⟨n50, m51⟩ := p
      refine rn 5 rfl ?_
      refine spL rfl (fun hb52 => ?_) (fun hb52 => ?_)
      ·obtain ⟨x55, tl, hx56, h, hk5⟩ := RG.t hA62 h hb52
       unfold M73_L5 at h
       refine rn 2 rfl ?_
       refine jK h (fun (p : (List ((List UInt8) × Bool))) => (⟨[(1, (iV a2)), (3, (V.ptr 0 6 0 0)), (5, (V.ptr 1 2 0 0)), (6, (V.ptr 2 2 0 0)), (7, (V.ptr 3 2 0 0)), (34, (V.ptr 4 1 0 0)), (59, (V.lst 3 (((mget a1.links e20.1).getD ([] : (List Tprovenderref6_link))).map encTprovenderref6_link))), (60, (iV ((((mget a1.links e20.1).getD ([] : (List Tprovenderref6_link))).length : Nat) : Int))), (61, (iV n39)), (66, (V.lst 2 (x44.aims.map encTprovenderref6_aim))), (67, (iV ((x44.aims.length : Nat) : Int))), (68, (iV n50))], [(0, (Ob.arr 78 6 [(encTprovenderref6_net a1)])), (1, (Ob.arr 74 2 [(encTprovenderref6_sets a3)])), (2, (Ob.arr 74 2 [[(V.con (.map none)), (V.con (.map none))]])), (3, (Ob.arr 74 2 [[(V.map 5), (V.map 6)]])), (4, (Ob.iter [] (l21.map encM9_4))), (5, (Ob.map (p.map encM9_4))), (6, (Ob.map (m26.map encM9_4)))], 7⟩ : St)) (fun k53 p => k53 p = some r) (fun k53 h => ?_) ?_
       ·refine rn 3 rfl ?_
        refine ixh hx56 rfl rfl ?_
        refine rn 9 rfl ?_
        refine spO 74 h rfl (fun hb57 h => ?_) (fun hb57 h => ?_)
        ·refine rn 18 rfl ?_
         refine aops_mapUpdate (es := m51.map encM9_4) ((mput m51 x55.to true).map encM9_4) tMap72 tKey9 wants_none rfl rfl (.con rfl) ⟨_, rfl⟩ encM9_4_good rfl (encM9_4_puts m51 x55.to true) ?_
         refine aops_ghost (ghost_permM 5 rfl (canonM_map encM9_4 (mput m51 x55.to true))) ?_
         refine fo (rn 2 rfl ?_)
         exact jX (canonM (mput m51 x55.to true)) h (gr [0, 1, 2, 3, 4, 5, 6] rfl (hB rfl rfl rfl (hB rfl rfl rfl (hB rfl rfl rfl (hB rfl rfl rfl (hI rfl rfl (hM rfl rfl (hM rfl rfl .nil))))))) rfl)
        refine rn 5 rfl ?_
        refine spO 79 h rfl (fun hb58 h => ?_) (fun hb58 h => ?_)
        ·refine rn 13 rfl ?_
         refine aops_mapUpdate (es := m51.map encM9_4) ((mput m51 x55.to true).map encM9_4) tMap72 tKey9 wants_none rfl rfl (.con rfl) ⟨_, rfl⟩ encM9_4_good rfl (encM9_4_puts m51 x55.to true) ?_
         refine aops_ghost (ghost_permM 5 rfl (canonM_map encM9_4 (mput m51 x55.to true))) ?_
         refine fo (rn 2 rfl ?_)
         exact jX (canonM (mput m51 x55.to true)) h (gr [0, 1, 2, 3, 4, 5, 6] rfl (hB rfl rfl rfl (hB rfl rfl rfl (hB rfl rfl rfl (hB rfl rfl rfl (hI rfl rfl (hM rfl rfl (hM rfl rfl .nil))))))) rfl)
        refine rn 4 rfl ?_
        refine aops_lookup _ (bV false) (bV ((mget a3.made x55.typ).getD false)) tMap72 tKey9 tZo4 (irel_con _) (wants_some (c := false) (b := false) 79 rfl rfl rfl) rfl .imm (.con rfl) ⟨_, rfl⟩ encM9_4_good (encM9_4_look a3.made x55.typ) (getD_map (encM9_4_val) (mget a3.made x55.typ) false) rfl ?_
        refine fo (rn 2 rfl ?_)
        refine jK h (fun (p : (List ((List UInt8) × Bool))) => (⟨[(1, (iV a2)), (3, (V.ptr 0 6 0 0)), (5, (V.ptr 1 2 0 0)), (6, (V.ptr 2 2 0 0)), (7, (V.ptr 3 2 0 0)), (34, (V.ptr 4 1 0 0)), (59, (V.lst 3 (((mget a1.links e20.1).getD ([] : (List Tprovenderref6_link))).map encTprovenderref6_link))), (60, (iV ((((mget a1.links e20.1).getD ([] : (List Tprovenderref6_link))).length : Nat) : Int))), (61, (iV n39)), (66, (V.lst 2 (x44.aims.map encTprovenderref6_aim))), (67, (iV ((x44.aims.length : Nat) : Int))), (68, (iV n50)), (75, (V.ptr 5 2 0 0)), (76, (sV x55.typ)), (77, (bV (x55.typ == ([] : List UInt8)))), (80, (V.ptr 1 2 0 1)), (81, (V.imap (a3.made.map encM9_4))), (82, (V.ptr 5 2 0 0)), (83, (sV x55.typ)), (84, (bV ((mget a3.made x55.typ).getD false)))], [(0, (Ob.arr 78 6 [(encTprovenderref6_net a1)])), (1, (Ob.arr 74 2 [(encTprovenderref6_sets a3)])), (2, (Ob.arr 74 2 [[(V.con (.map none)), (V.con (.map none))]])), (3, (Ob.arr 74 2 [[(V.map 6), (V.map 7)]])), (4, (Ob.iter [] (l21.map encM9_4))), (5, (Ob.arr 117 2 [(encTprovenderref6_aim x55)])), (6, (Ob.map (p.map encM9_4))), (7, (Ob.map (m26.map encM9_4)))], 8⟩ : St)) (fun k59 p => k59 p = some r) (fun k59 h => ?_) ?_
        ·refine spC h rfl (fun hb61 h => ?_) (fun hb61 h => ?_)
         ·refine rn 5 rfl ?_
          refine aops_mapUpdate (es := m51.map encM9_4) ((mput m51 x55.to true).map encM9_4) tMap72 tKey9 wants_none rfl rfl (.con rfl) ⟨_, rfl⟩ encM9_4_good rfl (encM9_4_puts m51 x55.to true) ?_
          refine aops_ghost (ghost_permM 5 rfl (canonM_map encM9_4 (mput m51 x55.to true))) ?_
          refine fo (rn 1 rfl ?_)
          exact jX (canonM (mput m51 x55.to true)) h (gr [0, 1, 2, 3, 4, 7, 5, 6] rfl (hB rfl rfl rfl (hB rfl rfl rfl (hB rfl rfl rfl (hB rfl rfl rfl (hI rfl rfl (hB rfl rfl rfl (hM rfl rfl (hM rfl rfl .nil)))))))) rfl)
         refine rn 1 rfl ?_
         exact jX m51 h (gr [0, 1, 2, 3, 4, 7, 5, 6] rfl (hB rfl rfl rfl (hB rfl rfl rfl (hB rfl rfl rfl (hB rfl rfl rfl (hI rfl rfl (hB rfl rfl rfl (hM rfl rfl (hM rfl rfl .nil)))))))) rfl)
        intro m60 h
        refine rn 1 rfl ?_
        exact jX m60 h (gr [0, 1, 2, 3, 4, 6, 7] rfl (hB rfl rfl rfl (hB rfl rfl rfl (hB rfl rfl rfl (hB rfl rfl rfl (hI rfl rfl (hM rfl rfl (hM rfl rfl .nil))))))) rfl)
       intro m54 h
       refine rn 4 rfl ?_
       exact jX ((w64 (n50 + 1)), m54) (hk5 _ h) (gr [0, 1, 2, 3, 4, 5, 6] rfl (hB rfl rfl rfl (hB rfl rfl rfl (hB rfl rfl rfl (hB rfl rfl rfl (hI rfl rfl (hM rfl rfl (hM rfl rfl .nil))))))) rfl)
      replace h := RG.f h hb52
      unfold M73_L5 at h
      refine rn 1 rfl ?_
      exact jX m51 h (gr [0, 1, 2, 3, 4, 5, 6] rfl (hB rfl rfl rfl (hB rfl rfl rfl (hB rfl rfl rfl (hB rfl rfl rfl (hI rfl rfl (hM rfl rfl (hM rfl rfl .nil))))))) rfl)
     intro m47 h
     refine rn 1 rfl ?_
     exact jX m47 h (gr [0, 1, 2, 3, 4, 5, 6] rfl (hB rfl rfl rfl (hB rfl rfl rfl (hB rfl rfl rfl (hB rfl rfl rfl (hI rfl rfl (hM rfl rfl (hM rfl rfl .nil))))))) rfl)
    intro m43 h
    refine rn 4 rfl ?_
    exact jX ((w64 (n39 + 1)), m43) (hk4 _ h) (gr [0, 1, 2, 3, 4, 5, 6] rfl (hB rfl rfl rfl (hB rfl rfl rfl (hB rfl rfl rfl (hB rfl rfl rfl (hI rfl rfl (hM rfl rfl (hM rfl rfl .nil))))))) rfl)
   replace h := RG.f h hb41
   unfold M73_L4 at h
   refine rn 1 rfl ?_
   exact jX m40 h (gr [0, 1, 2, 3, 4, 5, 6] rfl (hB rfl rfl rfl (hB rfl rfl rfl (hB rfl rfl rfl (hB rfl rfl rfl (hI rfl rfl (hM rfl rfl (hM rfl rfl .nil))))))) rfl)
  intro m36 h
  refine rn 1 rfl ?_
  exact jX (m36, m26) h (gr [0, 1, 2, 3, 4, 5, 6] rfl (hB rfl rfl rfl (hB rfl rfl rfl (hB rfl rfl rfl (hB rfl rfl rfl (hI rfl rfl (hM rfl rfl (hM rfl rfl .nil))))))) rfl)
 rintro ⟨m23, m24⟩ h
 exact jX (l21, m23, m24) (RM.step hm2 hq2 h) (gr [0, 1, 2, 3, 4, 5, 6] rfl (hB rfl rfl rfl (hB rfl rfl rfl (hB rfl rfl rfl (hB rfl rfl rfl (hI rfl rfl (hM rfl rfl (hM rfl rfl .nil))))))) rfl)
theorem W36 (F : Nat) (a1 : Tprovenderref6_net) (a2 : Int) (r : Tprovenderref6_sets) (h : M36 F a1 a2 = some r) : Pure Try.prog 36 [(V.agg (encTprovenderref6_net a1)), (iV a2)] (V.agg (encTprovenderref6_sets r)) := by
 refine pin (fun r => (V.agg (encTprovenderref6_sets r))) r rfl Try.func36 rfl rfl rfl rfl rfl (fun w0 m0 hg => ?_)
 unfold M36 at h
 refine rn 14 rfl ?_
 refine lC (fun (p : (List ((List UInt8) × Bool)) × (List ((List UInt8) × Bool))) => (⟨[(1, (iV a2)), (2, (V.ptr 0 6 0 0)), (4, (V.ptr 1 2 0 0)), (5, (V.ptr 2 2 0 0))], [(0, (Ob.arr 78 6 [(encTprovenderref6_net a1)])), (1, (Ob.arr 74 2 [[(V.con (.map none)), (V.con (.map none))]])), (2, (Ob.arr 74 2 [[(V.imap ((p.1).map encM9_4)), (V.imap ((p.2).map encM9_4))]]))], 3⟩ : St)) (fun n p => M36_L1 F a1 a2 n p.1 p.2 = some r) (fun p h => by simp [M36_L1] at h) F (([] : List ((List UInt8) × Bool)), ([] : List ((List UInt8) × Bool))) h (Ghost.trans (ghost_frzMx (es := ([] : List ((List UInt8) × Bool)).map encM9_4) 2 rfl encM9_4_imm (.put (t := 9) rfl (Sub.agg (.cons Sub.frzM (.cons Sub.keepM .nil))) (.put (t := 7) rfl Sub.frzM .refl)) (.put (t := 4) (v := (Ob.arr 74 2 [[(V.imap (([] : List ((List UInt8) × Bool)).map encM9_4)), (V.map 3)]])) rfl (ObSub.box (.cons Sub.frzM (.cons Sub.keepM .nil))) .refl)) (Ghost.trans (ghost_frzMx (es := ([] : List ((List UInt8) × Bool)).map encM9_4) 3 rfl encM9_4_imm (.put (t := 9) rfl (Sub.agg (.cons Sub.keepM (.cons Sub.frzM .nil))) (.put (t := 8) rfl Sub.frzM .refl)) (.put (t := 4) (v := (Ob.arr 74 2 [[(V.imap (([] : List ((List UInt8) × Bool)).map encM9_4)), (V.imap (([] : List ((List UInt8) × Bool)).map encM9_4))]])) rfl (ObSub.box (.cons Sub.keepM (.cons Sub.frzM .nil))) .refl)) (gr [0, 1, 4] rfl (hB rfl rfl rfl (hB rfl rfl rfl (hB rfl rfl rfl .nil))) rfl))) (fun n p h => ?_)
 obtain ⟨m5, m6⟩ := p
 unfold M36_L1 at h
 refine rn 6 rfl ?_
 refine cl h rfl rfl rfl (W73 _ _ _ _) rfl (fun y7 hx8 h => ?_)
 refine rn 8 rfl ?_
 refine aops_lenM (n := y7.reached.length) (es := y7.reached.map encM9_4) tMap72 wants_none rfl .imm (List.length_map ..) rfl ?_
 refine fo (rn 2 rfl ?_)
 refine aops_lenM (n := m5.length) (es := m5.map encM9_4) tMap72 wants_none rfl .imm (List.length_map ..) rfl ?_
 refine fo (rn 2 rfl ?_)
 refine spO 21 h rfl (fun hb9 h => ?_) (fun hb9 h => ?_)
 ·refine rn 2 rfl ?_
  refine aops_lenM (n := y7.made.length) (es := y7.made.map encM9_4) tMap72 (wants_some (c := true) (b := true) 21 rfl rfl rfl) rfl .imm (List.length_map ..) rfl ?_
  refine fo (rn 2 rfl ?_)
  refine aops_lenM (n := m6.length) (es := m6.map encM9_4) tMap72 (wants_some (c := true) (b := true) 21 rfl rfl rfl) rfl .imm (List.length_map ..) rfl ?_
  refine fo (rn 3 rfl ?_)
  refine spC h rfl (fun hb10 h => ?_) (fun hb10 h => ?_)
  ·refine rn 5 rfl ?_
   exact rt h rfl
  refine rn 6 rfl ?_
  exact jX (y7.reached, y7.made) h (gr [0, 1, 2] rfl (hB rfl rfl rfl (hB rfl rfl rfl (hB rfl rfl rfl .nil))) rfl)
 refine rn 16 rfl ?_
 exact jX (y7.reached, y7.made) h (gr [0, 1, 2] rfl (hB rfl rfl rfl (hB rfl rfl rfl (hB rfl rfl rfl .nil))) rfl)
theorem W11 (F : Nat) (r : Bool) (h : M11 F = some r) : Pure Try.prog 11 [] (bV r) := by
 unfold M11 at h
 replace h := Option.some.inj h
 subst h
 exact told_pure
theorem W83 (F : Nat) (a1 : List Int) (r : List Int) (h : M83 F a1 = some r) : Mut Try.prog 83 [(V.own 0 a1.length)] 1 [(0, (Ob.arr 3 1 (a1.map encI_i64)))] (resV []) 1 [(0, (Ob.arr 3 1 (r.map encI_i64)))] := by
 unfold M83 at h
 by_cases hc : a1.length < 4611686018427387904
 ·rw [if_pos hc] at h
  replace h := Option.some.inj h
  subst h
  refine (mut_sort a1 (isort a1) rfl (List.length_mergeSort _) (fun w b off cap hH hb => ?_) (fun w p h0 => ?_)).heap hget_one
  ·exact Go.Proofs.Try.slices_Sort_int b off cap a1 w hH hb hc
  ·refine (Go.Proofs.Try.slices_Sort_int_none p 0 w).mono ?_
   rintro e w' ⟨rfl, rfl⟩
   exact ⟨rfl, Go.RowKit.Below.refl _ _⟩
 ·rw [if_neg hc] at h; simp at h
theorem W84 (F : Nat) (a1 : List Int) (r : List Int) (h : M84 F a1 = some r) : Mut Try.prog 84 [(V.own 0 a1.length)] 1 [(0, (Ob.arr 3 1 (a1.map encI_i64)))] (resV [(V.own 0 r.length)]) 1 [(0, (Ob.arr 3 1 (r.map encI_i64)))] := by
 unfold M84 at h
 by_cases hc : a1.length ≤ 140737488355328
 ·rw [if_pos hc] at h
  replace h := Option.some.inj h
  subst h
  exact (mut_compactS (Value.int .i64) (fun _ => rfl) 0 a1 rfl (fun b off cap a w hH h1 h2 => Go.Proofs.Try.slices_Compact_int b off cap a w hH h1 h2) (fun p w => Go.Proofs.Try.slices_Compact_int_empty p 0 w) hc).heap hget_one
 ·rw [if_neg hc] at h; simp at h
theorem W56 (F : Nat) (a1 : Treach_world) (a2 : TCall) (r : (List Int)) (h : M56 F a1 a2 = some r) : Pure Try.prog 56 [(V.iptr (encTreach_world a1) 0), (V.agg (encTCall a2)), nV] (V.lst 1 (r.map encI_i64)) := by
 refine pin (fun r => (V.lst 1 (r.map encI_i64))) r rfl Try.func56 rfl rfl rfl rfl rfl (fun w0 m0 hg => ?_)
 unfold M56 at h
 refine rn 12 rfl ?_
 refine spC h rfl (fun hb3 h => ?_) (fun hb3 h => ?_)
 ·refine rn 1 rfl ?_
  refine dr mixed (vs 6 rfl (xD (OD.mk [(16, (V.imap (a1.funcs.map encM9_3))), (18, (sV a2.Target))] [] [(19, (iV ((mget a1.funcs a2.Target).getD 0)))] []) ⟨⟨rfl, rfl, trivial⟩, trivial⟩ (by exact fun S hn h hh => aops_lookup _ (iV 0) (iV ((mget a1.funcs a2.Target).getD 0)) tMap85 tKey9 tZo3 (irel_con _) wants_none h.1 .imm (.con h.2.1) ⟨_, rfl⟩ encM9_3_good (encM9_3_look a1.funcs a2.Target) (getD_map (encM9_3_val) (mget a1.funcs a2.Target) 0) rfl (aops_nil ⟨rfl, rfl⟩)) rfl (xD (OD.mk [(19, (iV ((mget a1.funcs a2.Target).getD 0)))] [] [(20, (V.lst 1 (([((mget a1.funcs a2.Target).getD 0)] : List Int).map encI_i64)))] []) ⟨⟨rfl, trivial⟩, trivial⟩ (by exact fun S hn h hh => aops_buildSlice_imm [(0, (iV ((mget a1.funcs a2.Target).getD 0)))] [[(iV ((mget a1.funcs a2.Target).getD 0))]] tEl62 tZ3 wants_none rfl rfl rfl rfl (evp_cons h.1 evp_nil) rfl rfl (by simp) (imms_rows (.cons (.cons (Imm.con _) .nil) .nil)) rfl (aops_nil ⟨rfl, rfl⟩)) rfl (vs 1 rfl .nil)))) (by kernel_rfl) ?_
  exact rt h rfl
 refine rn 7 rfl ?_
 refine dr mixed (vs 6 rfl (xD (OD.mk [(24, (V.imap (a1.fitting.map encM9_62))), (26, (sV a2.Target))] [] [(27, (V.lst 1 (((mget a1.fitting a2.Target).getD ([] : (List Int))).map encI_i64)))] []) ⟨⟨rfl, rfl, trivial⟩, trivial⟩ (by exact fun S hn h hh => aops_lookup _ (V.lst 1 (([] : (List Int)).map encI_i64)) (V.lst 1 (((mget a1.fitting a2.Target).getD ([] : (List Int))).map encI_i64)) tMap86 tKey9 tZo62 (fun _ => .nil _ _ _) wants_none h.1 .imm (.con h.2.1) ⟨_, rfl⟩ encM9_62_good (encM9_62_look a1.fitting a2.Target) (getD_map (encM9_62_val) (mget a1.fitting a2.Target) ([] : (List Int))) rfl (aops_nil ⟨rfl, rfl⟩)) rfl (nD rfl rfl rfl (vs 1 rfl .nil)))) (by kernel_rfl) ?_
 refine jK h (fun (p : (List Int)) => (⟨[(7, (V.own 0 p.length))], [(0, (Ob.arr 3 1 (p.map encI_i64)))], 1⟩ : St)) (fun k4 p => k4 p = some r) (fun k4 h => ?_) ?_
 ·refine rn 1 rfl ?_
  refine wl (A := ((mget a1.fitting a2.Target).getD ([] : (List Int)))) 27 rfl (fun hA16 => ?_)
  refine lC (fun (p : Int × (List Int)) => (⟨[(0, (V.iptr (encTreach_world a1) 0)), (2, nV), (4, (V.ptr 0 4 0 0)), (7, (V.own 1 (p.2).length)), (27, (V.lst 1 (((mget a1.fitting a2.Target).getD ([] : (List Int))).map encI_i64))), (28, (iV ((((mget a1.fitting a2.Target).getD ([] : (List Int))).length : Nat) : Int))), (29, (iV (p.1)))], [(0, (Ob.arr 82 4 [(encTCall a2)])), (1, (Ob.arr 3 1 ((p.2).map encI_i64)))], 2⟩ : St)) (fun n p => RG ((mget a1.fitting a2.Target).getD ([] : (List Int))) (fun tl nn => M56_L1 F a1 a2 k4 tl p.2 = some r) n p.1) (fun p h => RG.zero h) (((mget a1.fitting a2.Target).getD ([] : (List Int))).length + 1) (0, ([] : List Int)) (RG.start h) (Ghost.trans (ghost_nilE 7 3 1 rfl) (ghost_ren 2 (fun i => ([0, 1] : List Nat).getD i 0) _ _ (by decide) (EnvSub.get (.cons (Sub.imm (Imm.iptr _ _)) (.cons (Sub.imm (Imm.con _)) (.cons (Sub.ptr rfl rfl) (.cons (Sub.ownE rfl rfl (by simp)) (.cons (Sub.imm (Imm.lst _ _)) (.cons (Sub.imm (Imm.con _)) (.cons (Sub.imm (Imm.con _)) .nil)))))))) (HpSub.get (.cons rfl (ObSub.box (.cons (Sub.imm (Imm.con _)) (.cons (Sub.imm (Imm.con _)) (.cons (Sub.imm (Imm.con _)) (.cons (Sub.imm (Imm.con _)) .nil))))) (.cons rfl (ObSub.rows (rows_imm imms_encI_i64)) .nil))) rfl)) (fun n p h => ?_)
  obtain ⟨n8, l9⟩ := p
  refine rn 5 rfl ?_
  refine spL rfl (fun hb10 => ?_) (fun hb10 => ?_)
  ·obtain ⟨x11, tl, hx12, h, hk1⟩ := RG.t hA16 h hb10
   unfold M56_L1 at h
   refine rn 5 rfl ?_
   refine ixh hx12 rfl rfl ?_
   refine rn 20 rfl ?_
   refine cl h rfl rfl rfl (W82 _ _ _ _) rfl (fun y13 hx14 h => ?_)
   refine aops_buildSlice [(0, (iV y13))] [[(iV y13)]] tEl62 tZ3 rfl rfl rfl rfl wants_none (evp_cons rfl evp_nil) rfl rfl (by simp) rfl ?_
   refine fo ?_
   refine apO encI_i64 h rfl rfl rfl rfl rfl rfl rfl rfl (fun h => ?_)
   refine rn 7 rfl ?_
   exact jX ((w64 (n8 + 1)), (l9 ++ ([y13] : List Int))) (hk1 _ h) (gr [0, 3] rfl (hB rfl rfl rfl (hR rfl rfl .nil)) rfl)
  replace h := RG.f h hb10
  unfold M56_L1 at h
  refine rn 1 rfl ?_
  exact jX l9 h (gr [1] rfl (hR rfl rfl .nil) rfl)
 intro l5 h
 obtain ⟨y17, hx18, h⟩ := bind_some h
 refine rn 3 rfl ?_
 refine ck h (fun hc19 h => ?_)
 refine aops_mcallS (V.tup []) [(V.own 0 l5.length)] (fun i => ([0] : List Nat).getD i 0) (fun i => ([0] : List Nat).getD i 0) 1 1 [(0, (Ob.arr 3 1 (y17.map encI_i64)))] fOk83 wants_none rfl (evm_cons rfl evm_nil) (.cons (Sub.own rfl rfl) .nil) (.cons rfl (ObSub.rows (rows_imm imms_encI_i64)) .nil) (W83 F l5 y17 hx18) rfl rfl rfl rfl (Sub.immT (Imm.tup .nil)) (.cons rfl (ObSub.rowsT (rows_imm imms_encI_i64)) .nil) _ rfl ?_
 refine aops_ghost (ghost_tell 7 (V.own 0 y17.length) rfl (Sub.ownI hc19)) ?_
 refine aops_ghost (ghost_tell 49 (V.own 0 y17.length) rfl (Sub.ownI hc19)) ?_
 obtain ⟨y20, hx21, h⟩ := bind_some h
 refine fo (rn 4 rfl ?_)
 refine aops_mcallS (V.own 0 y20.length) [(V.own 0 y17.length)] (fun i => ([0] : List Nat).getD i 0) (fun i => ([0] : List Nat).getD i 0) 1 1 [(0, (Ob.arr 3 1 (y20.map encI_i64)))] fOk84 wants_none rfl (evm_cons rfl evm_nil) (.cons (Sub.own rfl rfl) .nil) (.cons rfl (ObSub.rows (rows_imm imms_encI_i64)) .nil) (W84 F y17 y20 hx21) rfl rfl rfl rfl (Sub.ownT rfl rfl) (.cons rfl (ObSub.rowsT (rows_imm imms_encI_i64)) .nil) _ rfl ?_
 refine fo (rn 2 rfl ?_)
 refine awp_ghost (ghost_frzEs 0 [6, 52] rfl (rows_imm imms_encI_i64) (List.forall_mem_cons.2 ⟨rfl, (List.forall_mem_cons.2 ⟨rfl, (fun _ hx => nomatch hx)⟩)⟩) (List.length_map ..).symm) ?_
 refine fa ?_
 exact rt h rfl
end Go.Proofs.Ytpbkggamiipdmaa
