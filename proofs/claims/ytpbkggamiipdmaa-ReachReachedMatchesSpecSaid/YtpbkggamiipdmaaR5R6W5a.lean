/- Part of the proof: R6W3b, R6W5a. -/
import Derived.Test.YtpbkggamiipdmaaR5PvX
import Derived.Test.YtpbkggamiipdmaaR5RE
import Derived.Test.YtpbkggamiipdmaaR5RA
import Derived.Test.YtpbkggamiipdmaaR5R6W3a
import Derived.KernelRfl
import Derived.Test.YtpbkggamiipdmaaR5R6Sh
namespace Go.Proofs.Ytpbkggamiipdmaa
open Go Go.Pv
set_option linter.unusedVariables false
set_option maxRecDepth 100000
theorem W73 (F : Nat) (a1 : Tprovenderref6_net) (a2 : Int) (a3 : Tprovenderref6_sets) (r : Tprovenderref6_sets) (h : M73 F a1 a2 a3 = some r) : Pure Try.prog 73 [(V.agg (encTprovenderref6_net a1)), (iV a2), (V.agg (encTprovenderref6_sets a3))] (V.agg (encTprovenderref6_sets r)) := by
  refine pin (fun r => (V.agg (encTprovenderref6_sets r))) r rfl Try.func73 rfl rfl rfl rfl rfl (fun w0 m0 hg => ?_)
  unfold M73 at h
  refine rn 20 rfl ?_
  refine ln rfl rfl ?_
  refine rn 2 rfl ?_
  refine jK h (fun (p : (List ((List UInt8) × Bool))) => (⟨[(1, (iV a2)), (3, (V.ptr 0 6 0 0)), (5, (V.ptr 1 2 0 0)), (6, (V.ptr 2 2 0 0)), (7, (V.ptr 3 2 0 0))], [(0, (Ob.arr 78 6 [(encTprovenderref6_net a1)])), (1, (Ob.arr 74 2 [(encTprovenderref6_sets a3)])), (2, (Ob.arr 74 2 [[(V.con (.map none)), (V.con (.map none))]])), (3, (Ob.arr 74 2 [[(V.map 4), (V.map 5)]])), (4, (Ob.map (p.map encM9_4))), (5, (Ob.map (([] : List ((List UInt8) × Bool)).map encM9_4)))], 6⟩ : St)) (fun k4 (p : (List ((List UInt8) × Bool))) => k4 p = some r) (fun k4 h => ?_) ?_
  · refine rn 1 rfl ?_
    refine wl (A := a1.g.Entries) 22 rfl (fun hA13 => ?_)
    refine lC (fun (p : Int × (List ((List UInt8) × Bool))) => (⟨[(1, (iV a2)), (3, (V.ptr 0 6 0 0)), (5, (V.ptr 1 2 0 0)), (6, (V.ptr 2 2 0 0)), (7, (V.ptr 3 2 0 0)), (22, (V.lst 1 (a1.g.Entries.map encS))), (23, (iV ((a1.g.Entries.length : Nat) : Int))), (24, (iV (p.1)))], [(0, (Ob.arr 78 6 [(encTprovenderref6_net a1)])), (1, (Ob.arr 74 2 [(encTprovenderref6_sets a3)])), (2, (Ob.arr 74 2 [[(V.con (.map none)), (V.con (.map none))]])), (3, (Ob.arr 74 2 [[(V.map 4), (V.map 5)]])), (4, (Ob.map ((p.2).map encM9_4))), (5, (Ob.map (([] : List ((List UInt8) × Bool)).map encM9_4)))], 6⟩ : St)) (fun n (p : Int × (List ((List UInt8) × Bool))) => RG a1.g.Entries (fun tl nn => M73_L1 F k4 tl p.2 = some r) n p.1) (fun p h => RG.zero h) (a1.g.Entries.length + 1) (0, ([] : List ((List UInt8) × Bool))) (RG.start h) (gr [0, 1, 2, 5, 3, 4] rfl (hB rfl rfl rfl (hB rfl rfl rfl (hB rfl rfl rfl (hB rfl rfl rfl (hM rfl rfl (hM rfl rfl .nil)))))) rfl) (fun n p h => ?_)
    obtain ⟨n8, m9⟩ := p
    refine rn 5 rfl ?_
    refine spL rfl (fun hb10 => ?_) (fun hb10 => ?_)
    · obtain ⟨x11, tl, hx12, h, hk1⟩ := RG.t hA13 h hb10
      unfold M73_L1 at h
      refine rn 5 rfl ?_
      refine ixh hx12 rfl rfl ?_
      refine rn 7 rfl ?_
      refine aops_mapUpdate (es := m9.map encM9_4) ((mput m9 x11 true).map encM9_4) tMap72 tKey9 wants_none rfl rfl (.con rfl) ⟨_, rfl⟩ encM9_4_good rfl (encM9_4_puts m9 x11 true) ?_
      refine aops_ghost (ghost_permM 4 rfl (canonM_map encM9_4 (mput m9 x11 true))) ?_
      refine fo (rn 6 rfl ?_)
      exact jX ((w64 (n8 + 1)), (canonM (mput m9 x11 true))) (hk1 _ h) (gr [0, 1, 2, 3, 4, 5] rfl (hB rfl rfl rfl (hB rfl rfl rfl (hB rfl rfl rfl (hB rfl rfl rfl (hM rfl rfl (hM rfl rfl .nil)))))) rfl)
    replace h := RG.f h hb10
    unfold M73_L1 at h
    refine rn 1 rfl ?_
    exact jX m9 h (gr [0, 1, 2, 3, 4, 5] rfl (hB rfl rfl rfl (hB rfl rfl rfl (hB rfl rfl rfl (hB rfl rfl rfl (hM rfl rfl (hM rfl rfl .nil)))))) rfl)
  intro m5 h
  refine rn 5 rfl ?_
  refine aops_range tMap72 wants_none rfl rfl ?_
  refine fo (rn 2 rfl ?_)
  refine lC (fun (p : (List ((List UInt8) × Bool)) × (List ((List UInt8) × Bool)) × (List ((List UInt8) × Bool))) => (⟨[(1, (iV a2)), (3, (V.ptr 0 6 0 0)), (5, (V.ptr 1 2 0 0)), (6, (V.ptr 2 2 0 0)), (7, (V.ptr 3 2 0 0)), (34, (V.ptr 4 1 0 0))], [(0, (Ob.arr 78 6 [(encTprovenderref6_net a1)])), (1, (Ob.arr 74 2 [(encTprovenderref6_sets a3)])), (2, (Ob.arr 74 2 [[(V.con (.map none)), (V.con (.map none))]])), (3, (Ob.arr 74 2 [[(V.map 5), (V.map 6)]])), (4, (Ob.iter [] ((p.1).map encM9_4))), (5, (Ob.map ((p.2.1).map encM9_4))), (6, (Ob.map ((p.2.2).map encM9_4)))], 7⟩ : St)) (fun n (p : (List ((List UInt8) × Bool)) × (List ((List UInt8) × Bool)) × (List ((List UInt8) × Bool))) => RM n p.1 (M73_L2 F a1 a2 a3 p.1 p.2.1 p.2.2 = some r)) (fun p h => RM.zero h) (a3.reached.length + 1) (a3.reached, m5, ([] : List ((List UInt8) × Bool))) (RM.start h) (gr [0, 1, 2, 3, 6, 4, 5] rfl (hB rfl rfl rfl (hB rfl rfl rfl (hB rfl rfl rfl (hB rfl rfl rfl (hI rfl rfl (hM rfl rfl (hM rfl rfl .nil))))))) rfl) (fun n p h => ?_)
  obtain ⟨l17, m18, m19⟩ := p
  refine rn 2 rfl ?_
  refine nxt rfl rfl wants_none rfl (fun hl2 => ?_) (fun e20 l21 hq2 hp2 => ?_)
  · replace h := h.2
    subst hl2
    unfold M73_L2 at h
    refine rn 10 rfl ?_
    refine awp_ghost (ghost_frzMC 5 2 (Ob.arr 74 2 [[(V.imap (m18.map encM9_4)), (V.map 6)]]) rfl encM9_4_imm (ObSub.box (.cons Sub.frzM (.cons Sub.keepM .nil)))) ?_
    refine awp_ghost (ghost_frzMC 6 2 (Ob.arr 74 2 [[(V.imap (m18.map encM9_4)), (V.imap (m19.map encM9_4))]]) rfl encM9_4_imm (ObSub.box (.cons Sub.keepM (.cons Sub.frzM .nil)))) ?_
    refine fa ?_
    exact rt h rfl
  have hm2 := h
  replace h := ord_M73_L2 hp2 h.2
  unfold M73_L2 at h
  refine rn 5 rfl ?_
  refine jK h (fun (p : (List ((List UInt8) × Bool)) × (List ((List UInt8) × Bool))) => (⟨[(1, (iV a2)), (3, (V.ptr 0 6 0 0)), (5, (V.ptr 1 2 0 0)), (6, (V.ptr 2 2 0 0)), (7, (V.ptr 3 2 0 0)), (34, (V.ptr 4 1 0 0))], [(0, (Ob.arr 78 6 [(encTprovenderref6_net a1)])), (1, (Ob.arr 74 2 [(encTprovenderref6_sets a3)])), (2, (Ob.arr 74 2 [[(V.con (.map none)), (V.con (.map none))]])), (3, (Ob.arr 74 2 [[(V.map 5), (V.map 6)]])), (4, (Ob.iter [] (l21.map encM9_4))), (5, (Ob.map ((p.1).map encM9_4))), (6, (Ob.map ((p.2).map encM9_4)))], 7⟩ : St)) (fun k22 (p : (List ((List UInt8) × Bool)) × (List ((List UInt8) × Bool))) => k22 p.1 p.2 = some r) (fun k22 h => ?_) ?_
  · refine rn 3 rfl ?_
    refine aops_entry wants_none rfl rfl rfl ?_
    refine fo (rn 8 rfl ?_)
    refine aops_mapUpdate (es := m18.map encM9_4) ((mput m18 e20.1 true).map encM9_4) tMap72 tKey9 wants_none rfl rfl (.con rfl) ⟨_, rfl⟩ encM9_4_good rfl (encM9_4_puts m18 e20.1 true) ?_
    refine aops_ghost (ghost_permM 5 rfl (canonM_map encM9_4 (mput m18 e20.1 true))) ?_
    refine fo (rn 7 rfl ?_)
    refine aops_lookup _ (V.agg [(sV ([] : List UInt8)), (sV ([] : List UInt8)), (V.lst 4 (([] : List TCall).map encTCall)), (V.lst 1 (([] : List (List UInt8)).map encS))]) (V.agg (encTFunc ((mget a1.funcs e20.1).getD (TFunc.mk ([] : List UInt8) ([] : List UInt8) ([] : (List TCall)) ([] : (List (List UInt8))))))) tMap76 tKey9 tZo69 (irel_aggZ (.con (.con (.sl (.sl .nil))))) wants_none rfl .imm (.con rfl) ⟨_, rfl⟩ encM9_69_good (encM9_69_look a1.funcs e20.1) (getD_map (encM9_69_val) (mget a1.funcs e20.1) (TFunc.mk ([] : List UInt8) ([] : List UInt8) ([] : (List TCall)) ([] : (List (List UInt8))))) rfl ?_
    refine fo (rn 1 rfl ?_)
    refine ln rfl rfl ?_
    refine rn 2 rfl ?_
    refine jK h (fun (p : (List ((List UInt8) × Bool))) => (⟨[(1, (iV a2)), (3, (V.ptr 0 6 0 0)), (5, (V.ptr 1 2 0 0)), (6, (V.ptr 2 2 0 0)), (7, (V.ptr 3 2 0 0)), (10, (sV e20.1)), (34, (V.ptr 4 1 0 0))], [(0, (Ob.arr 78 6 [(encTprovenderref6_net a1)])), (1, (Ob.arr 74 2 [(encTprovenderref6_sets a3)])), (2, (Ob.arr 74 2 [[(V.con (.map none)), (V.con (.map none))]])), (3, (Ob.arr 74 2 [[(V.map 5), (V.map 6)]])), (4, (Ob.iter [] (l21.map encM9_4))), (5, (Ob.map ((canonM (mput m18 e20.1 true)).map encM9_4))), (6, (Ob.map (p.map encM9_4)))], 7⟩ : St)) (fun k25 (p : (List ((List UInt8) × Bool))) => k25 p = some r) (fun k25 h => ?_) ?_
    · refine rn 1 rfl ?_
      refine wl (A := ((mget a1.funcs e20.1).getD (TFunc.mk ([] : List UInt8) ([] : List UInt8) ([] : (List TCall)) ([] : (List (List UInt8))))).Makes) 46 rfl (fun hA34 => ?_)
      refine lC (fun (p : Int × (List ((List UInt8) × Bool))) => (⟨[(1, (iV a2)), (3, (V.ptr 0 6 0 0)), (5, (V.ptr 1 2 0 0)), (6, (V.ptr 2 2 0 0)), (7, (V.ptr 3 2 0 0)), (10, (sV e20.1)), (34, (V.ptr 4 1 0 0)), (46, (V.lst 1 (((mget a1.funcs e20.1).getD (TFunc.mk ([] : List UInt8) ([] : List UInt8) ([] : (List TCall)) ([] : (List (List UInt8))))).Makes.map encS))), (47, (iV ((((mget a1.funcs e20.1).getD (TFunc.mk ([] : List UInt8) ([] : List UInt8) ([] : (List TCall)) ([] : (List (List UInt8))))).Makes.length : Nat) : Int))), (48, (iV (p.1)))], [(0, (Ob.arr 78 6 [(encTprovenderref6_net a1)])), (1, (Ob.arr 74 2 [(encTprovenderref6_sets a3)])), (2, (Ob.arr 74 2 [[(V.con (.map none)), (V.con (.map none))]])), (3, (Ob.arr 74 2 [[(V.map 5), (V.map 6)]])), (4, (Ob.iter [] (l21.map encM9_4))), (5, (Ob.map ((canonM (mput m18 e20.1 true)).map encM9_4))), (6, (Ob.map ((p.2).map encM9_4)))], 7⟩ : St)) (fun n (p : Int × (List ((List UInt8) × Bool))) => RG (((mget a1.funcs e20.1).getD (TFunc.mk ([] : List UInt8) ([] : List UInt8) ([] : (List TCall)) ([] : (List (List UInt8))))).Makes) (fun tl nn => M73_L3 F k25 tl p.2 = some r) n p.1) (fun p h => RG.zero h) ((((mget a1.funcs e20.1).getD (TFunc.mk ([] : List UInt8) ([] : List UInt8) ([] : (List TCall)) ([] : (List (List UInt8))))).Makes).length + 1) (0, m19) (RG.start h) (gr [0, 1, 2, 3, 4, 5, 6] rfl (hB rfl rfl rfl (hB rfl rfl rfl (hB rfl rfl rfl (hB rfl rfl rfl (hI rfl rfl (hM rfl rfl (hM rfl rfl .nil))))))) rfl) (fun n p h => ?_)
      obtain ⟨n29, m30⟩ := p
      refine rn 5 rfl ?_
      refine spL rfl (fun hb31 => ?_) (fun hb31 => ?_)
      · obtain ⟨x32, tl, hx33, h, hk3⟩ := RG.t hA34 h hb31
        unfold M73_L3 at h
        refine rn 5 rfl ?_
        refine ixh hx33 rfl rfl ?_
        refine rn 7 rfl ?_
        refine aops_mapUpdate (es := m30.map encM9_4) ((mput m30 x32 true).map encM9_4) tMap72 tKey9 wants_none rfl rfl (.con rfl) ⟨_, rfl⟩ encM9_4_good rfl (encM9_4_puts m30 x32 true) ?_
        refine aops_ghost (ghost_permM 6 rfl (canonM_map encM9_4 (mput m30 x32 true))) ?_
        refine fo (rn 6 rfl ?_)
        exact jX ((w64 (n29 + 1)), (canonM (mput m30 x32 true))) (hk3 _ h) (gr [0, 1, 2, 3, 4, 5, 6] rfl (hB rfl rfl rfl (hB rfl rfl rfl (hB rfl rfl rfl (hB rfl rfl rfl (hI rfl rfl (hM rfl rfl (hM rfl rfl .nil))))))) rfl)
      replace h := RG.f h hb31
      unfold M73_L3 at h
      refine rn 1 rfl ?_
      exact jX m30 h (gr [0, 1, 2, 3, 4, 5, 6] rfl (hB rfl rfl rfl (hB rfl rfl rfl (hB rfl rfl rfl (hB rfl rfl rfl (hI rfl rfl (hM rfl rfl (hM rfl rfl .nil))))))) rfl)
    intro m26 h
    refine rn 5 rfl ?_
    refine aops_lookup _ (V.lst 3 (([] : (List Tprovenderref6_link)).map encTprovenderref6_link)) (V.lst 3 (((mget a1.links e20.1).getD ([] : (List Tprovenderref6_link))).map encTprovenderref6_link)) tMap75 tKey9 tZo122 (fun _ => .nil _ _ _) wants_none rfl .imm (.con rfl) ⟨_, rfl⟩ encM9_122_good (encM9_122_look a1.links e20.1) (getD_map (encM9_122_val) (mget a1.links e20.1) ([] : (List Tprovenderref6_link))) rfl ?_
    refine fo ?_
    refine ln rfl rfl ?_
    refine rn 2 rfl ?_
    refine jK h (fun (p : (List ((List UInt8) × Bool))) => (⟨[(1, (iV a2)), (3, (V.ptr 0 6 0 0)), (5, (V.ptr 1 2 0 0)), (6, (V.ptr 2 2 0 0)), (7, (V.ptr 3 2 0 0)), (34, (V.ptr 4 1 0 0))], [(0, (Ob.arr 78 6 [(encTprovenderref6_net a1)])), (1, (Ob.arr 74 2 [(encTprovenderref6_sets a3)])), (2, (Ob.arr 74 2 [[(V.con (.map none)), (V.con (.map none))]])), (3, (Ob.arr 74 2 [[(V.map 5), (V.map 6)]])), (4, (Ob.iter [] (l21.map encM9_4))), (5, (Ob.map (p.map encM9_4))), (6, (Ob.map (m26.map encM9_4)))], 7⟩ : St)) (fun k35 (p : (List ((List UInt8) × Bool))) => k35 p = some r) (fun k35 h => ?_) ?_
    · refine rn 1 rfl ?_
      refine wl (A := ((mget a1.links e20.1).getD ([] : (List Tprovenderref6_link)))) 59 rfl (fun hA63 => ?_)
      refine lC (fun (p : Int × (List ((List UInt8) × Bool))) => (⟨[(1, (iV a2)), (3, (V.ptr 0 6 0 0)), (5, (V.ptr 1 2 0 0)), (6, (V.ptr 2 2 0 0)), (7, (V.ptr 3 2 0 0)), (34, (V.ptr 4 1 0 0)), (59, (V.lst 3 (((mget a1.links e20.1).getD ([] : (List Tprovenderref6_link))).map encTprovenderref6_link))), (60, (iV ((((mget a1.links e20.1).getD ([] : (List Tprovenderref6_link))).length : Nat) : Int))), (61, (iV (p.1)))], [(0, (Ob.arr 78 6 [(encTprovenderref6_net a1)])), (1, (Ob.arr 74 2 [(encTprovenderref6_sets a3)])), (2, (Ob.arr 74 2 [[(V.con (.map none)), (V.con (.map none))]])), (3, (Ob.arr 74 2 [[(V.map 5), (V.map 6)]])), (4, (Ob.iter [] (l21.map encM9_4))), (5, (Ob.map ((p.2).map encM9_4))), (6, (Ob.map (m26.map encM9_4)))], 7⟩ : St)) (fun n (p : Int × (List ((List UInt8) × Bool))) => RG ((mget a1.links e20.1).getD ([] : (List Tprovenderref6_link))) (fun tl nn => M73_L4 F a2 a3 k35 tl p.2 = some r) n p.1) (fun p h => RG.zero h) (((mget a1.links e20.1).getD ([] : (List Tprovenderref6_link))).length + 1) (0, (canonM (mput m18 e20.1 true))) (RG.start h) (gr [0, 1, 2, 3, 4, 5, 6] rfl (hB rfl rfl rfl (hB rfl rfl rfl (hB rfl rfl rfl (hB rfl rfl rfl (hI rfl rfl (hM rfl rfl (hM rfl rfl .nil))))))) rfl) (fun n p h => ?_)
      obtain ⟨n39, m40⟩ := p
      refine rn 5 rfl ?_
      refine spL rfl (fun hb41 => ?_) (fun hb41 => ?_)
      · obtain ⟨x44, tl, hx45, h, hk4⟩ := RG.t hA63 h hb41
        unfold M73_L4 at h
        refine rn 2 rfl ?_
        refine jK h (fun (p : (List ((List UInt8) × Bool))) => (⟨[(1, (iV a2)), (3, (V.ptr 0 6 0 0)), (5, (V.ptr 1 2 0 0)), (6, (V.ptr 2 2 0 0)), (7, (V.ptr 3 2 0 0)), (34, (V.ptr 4 1 0 0)), (59, (V.lst 3 (((mget a1.links e20.1).getD ([] : (List Tprovenderref6_link))).map encTprovenderref6_link))), (60, (iV ((((mget a1.links e20.1).getD ([] : (List Tprovenderref6_link))).length : Nat) : Int))), (61, (iV n39))], [(0, (Ob.arr 78 6 [(encTprovenderref6_net a1)])), (1, (Ob.arr 74 2 [(encTprovenderref6_sets a3)])), (2, (Ob.arr 74 2 [[(V.con (.map none)), (V.con (.map none))]])), (3, (Ob.arr 74 2 [[(V.map 5), (V.map 6)]])), (4, (Ob.iter [] (l21.map encM9_4))), (5, (Ob.map (p.map encM9_4))), (6, (Ob.map (m26.map encM9_4)))], 7⟩ : St)) (fun k42 (p : (List ((List UInt8) × Bool))) => k42 p = some r) (fun k42 h => ?_) ?_
        · refine rn 3 rfl ?_
          refine ixh hx45 rfl rfl ?_
          refine rn 8 rfl ?_
          refine ln rfl rfl ?_
          refine rn 2 rfl ?_
          refine jK h (fun (p : (List ((List UInt8) × Bool))) => (⟨[(1, (iV a2)), (3, (V.ptr 0 6 0 0)), (5, (V.ptr 1 2 0 0)), (6, (V.ptr 2 2 0 0)), (7, (V.ptr 3 2 0 0)), (34, (V.ptr 4 1 0 0)), (59, (V.lst 3 (((mget a1.links e20.1).getD ([] : (List Tprovenderref6_link))).map encTprovenderref6_link))), (60, (iV ((((mget a1.links e20.1).getD ([] : (List Tprovenderref6_link))).length : Nat) : Int))), (61, (iV n39))], [(0, (Ob.arr 78 6 [(encTprovenderref6_net a1)])), (1, (Ob.arr 74 2 [(encTprovenderref6_sets a3)])), (2, (Ob.arr 74 2 [[(V.con (.map none)), (V.con (.map none))]])), (3, (Ob.arr 74 2 [[(V.map 5), (V.map 6)]])), (4, (Ob.iter [] (l21.map encM9_4))), (5, (Ob.map (p.map encM9_4))), (6, (Ob.map (m26.map encM9_4)))], 7⟩ : St)) (fun k46 (p : (List ((List UInt8) × Bool))) => k46 p = some r) (fun k46 h => ?_) ?_
          · refine rn 1 rfl ?_
            refine wl (A := x44.aims) 66 rfl (fun hA62 => ?_)
            refine lC (fun (p : Int × (List ((List UInt8) × Bool))) => (⟨[(1, (iV a2)), (3, (V.ptr 0 6 0 0)), (5, (V.ptr 1 2 0 0)), (6, (V.ptr 2 2 0 0)), (7, (V.ptr 3 2 0 0)), (34, (V.ptr 4 1 0 0)), (59, (V.lst 3 (((mget a1.links e20.1).getD ([] : (List Tprovenderref6_link))).map encTprovenderref6_link))), (60, (iV ((((mget a1.links e20.1).getD ([] : (List Tprovenderref6_link))).length : Nat) : Int))), (61, (iV n39)), (66, (V.lst 2 (x44.aims.map encTprovenderref6_aim))), (67, (iV ((x44.aims.length : Nat) : Int))), (68, (iV (p.1)))], [(0, (Ob.arr 78 6 [(encTprovenderref6_net a1)])), (1, (Ob.arr 74 2 [(encTprovenderref6_sets a3)])), (2, (Ob.arr 74 2 [[(V.con (.map none)), (V.con (.map none))]])), (3, (Ob.arr 74 2 [[(V.map 5), (V.map 6)]])), (4, (Ob.iter [] (l21.map encM9_4))), (5, (Ob.map ((p.2).map encM9_4))), (6, (Ob.map (m26.map encM9_4)))], 7⟩ : St)) (fun n (p : Int × (List ((List UInt8) × Bool))) => RG x44.aims (fun tl nn => M73_L5 F a2 a3 k46 tl p.2 = some r) n p.1) (fun p h => RG.zero h) (x44.aims.length + 1) (0, m40) (RG.start h) (gr [0, 1, 2, 3, 4, 5, 6] rfl (hB rfl rfl rfl (hB rfl rfl rfl (hB rfl rfl rfl (hB rfl rfl rfl (hI rfl rfl (hM rfl rfl (hM rfl rfl .nil))))))) rfl) (fun n p h => ?_)
            obtain ⟨n50, m51⟩ := p
            refine rn 5 rfl ?_
            refine spL rfl (fun hb52 => ?_) (fun hb52 => ?_)
            · obtain ⟨x55, tl, hx56, h, hk5⟩ := RG.t hA62 h hb52
              unfold M73_L5 at h
              refine rn 2 rfl ?_
              refine jK h (fun (p : (List ((List UInt8) × Bool))) => (⟨[(1, (iV a2)), (3, (V.ptr 0 6 0 0)), (5, (V.ptr 1 2 0 0)), (6, (V.ptr 2 2 0 0)), (7, (V.ptr 3 2 0 0)), (34, (V.ptr 4 1 0 0)), (59, (V.lst 3 (((mget a1.links e20.1).getD ([] : (List Tprovenderref6_link))).map encTprovenderref6_link))), (60, (iV ((((mget a1.links e20.1).getD ([] : (List Tprovenderref6_link))).length : Nat) : Int))), (61, (iV n39)), (66, (V.lst 2 (x44.aims.map encTprovenderref6_aim))), (67, (iV ((x44.aims.length : Nat) : Int))), (68, (iV n50))], [(0, (Ob.arr 78 6 [(encTprovenderref6_net a1)])), (1, (Ob.arr 74 2 [(encTprovenderref6_sets a3)])), (2, (Ob.arr 74 2 [[(V.con (.map none)), (V.con (.map none))]])), (3, (Ob.arr 74 2 [[(V.map 5), (V.map 6)]])), (4, (Ob.iter [] (l21.map encM9_4))), (5, (Ob.map (p.map encM9_4))), (6, (Ob.map (m26.map encM9_4)))], 7⟩ : St)) (fun k53 (p : (List ((List UInt8) × Bool))) => k53 p = some r) (fun k53 h => ?_) ?_
              · refine rn 3 rfl ?_
                refine ixh hx56 rfl rfl ?_
                refine rn 9 rfl ?_
                refine spO 74 h rfl (fun hb57 h => ?_) (fun hb57 h => ?_)
                · refine rn 18 rfl ?_
                  refine aops_mapUpdate (es := m51.map encM9_4) ((mput m51 x55.to true).map encM9_4) tMap72 tKey9 wants_none rfl rfl (.con rfl) ⟨_, rfl⟩ encM9_4_good rfl (encM9_4_puts m51 x55.to true) ?_
                  refine aops_ghost (ghost_permM 5 rfl (canonM_map encM9_4 (mput m51 x55.to true))) ?_
                  refine fo (rn 2 rfl ?_)
                  exact jX (canonM (mput m51 x55.to true)) h (gr [0, 1, 2, 3, 4, 5, 6] rfl (hB rfl rfl rfl (hB rfl rfl rfl (hB rfl rfl rfl (hB rfl rfl rfl (hI rfl rfl (hM rfl rfl (hM rfl rfl .nil))))))) rfl)
                refine rn 5 rfl ?_
                refine spO 79 h rfl (fun hb58 h => ?_) (fun hb58 h => ?_)
                · refine rn 13 rfl ?_
                  refine aops_mapUpdate (es := m51.map encM9_4) ((mput m51 x55.to true).map encM9_4) tMap72 tKey9 wants_none rfl rfl (.con rfl) ⟨_, rfl⟩ encM9_4_good rfl (encM9_4_puts m51 x55.to true) ?_
                  refine aops_ghost (ghost_permM 5 rfl (canonM_map encM9_4 (mput m51 x55.to true))) ?_
                  refine fo (rn 2 rfl ?_)
                  exact jX (canonM (mput m51 x55.to true)) h (gr [0, 1, 2, 3, 4, 5, 6] rfl (hB rfl rfl rfl (hB rfl rfl rfl (hB rfl rfl rfl (hB rfl rfl rfl (hI rfl rfl (hM rfl rfl (hM rfl rfl .nil))))))) rfl)
                refine rn 4 rfl ?_
                refine aops_lookup _ (bV false) (bV ((mget a3.made x55.typ).getD false)) tMap72 tKey9 tZo4 (irel_con _) (wants_some (c := false) (b := false) 79 rfl rfl rfl) rfl .imm (.con rfl) ⟨_, rfl⟩ encM9_4_good (encM9_4_look a3.made x55.typ) (getD_map (encM9_4_val) (mget a3.made x55.typ) false) rfl ?_
                refine fo (rn 2 rfl ?_)
                refine jK h (fun (p : (List ((List UInt8) × Bool))) => (⟨[(1, (iV a2)), (3, (V.ptr 0 6 0 0)), (5, (V.ptr 1 2 0 0)), (6, (V.ptr 2 2 0 0)), (7, (V.ptr 3 2 0 0)), (34, (V.ptr 4 1 0 0)), (59, (V.lst 3 (((mget a1.links e20.1).getD ([] : (List Tprovenderref6_link))).map encTprovenderref6_link))), (60, (iV ((((mget a1.links e20.1).getD ([] : (List Tprovenderref6_link))).length : Nat) : Int))), (61, (iV n39)), (66, (V.lst 2 (x44.aims.map encTprovenderref6_aim))), (67, (iV ((x44.aims.length : Nat) : Int))), (68, (iV n50)), (75, (V.ptr 5 2 0 0)), (76, (sV x55.typ)), (77, (bV (x55.typ == ([] : List UInt8)))), (80, (V.ptr 1 2 0 1)), (81, (V.imap (a3.made.map encM9_4))), (82, (V.ptr 5 2 0 0)), (83, (sV x55.typ)), (84, (bV ((mget a3.made x55.typ).getD false)))], [(0, (Ob.arr 78 6 [(encTprovenderref6_net a1)])), (1, (Ob.arr 74 2 [(encTprovenderref6_sets a3)])), (2, (Ob.arr 74 2 [[(V.con (.map none)), (V.con (.map none))]])), (3, (Ob.arr 74 2 [[(V.map 6), (V.map 7)]])), (4, (Ob.iter [] (l21.map encM9_4))), (5, (Ob.arr 117 2 [(encTprovenderref6_aim x55)])), (6, (Ob.map (p.map encM9_4))), (7, (Ob.map (m26.map encM9_4)))], 8⟩ : St)) (fun k59 (p : (List ((List UInt8) × Bool))) => k59 p = some r) (fun k59 h => ?_) ?_
                · refine spC h rfl (fun hb61 h => ?_) (fun hb61 h => ?_)
                  · refine rn 5 rfl ?_
                    refine aops_mapUpdate (es := m51.map encM9_4) ((mput m51 x55.to true).map encM9_4) tMap72 tKey9 wants_none rfl rfl (.con rfl) ⟨_, rfl⟩ encM9_4_good rfl (encM9_4_puts m51 x55.to true) ?_
                    refine aops_ghost (ghost_permM 5 rfl (canonM_map encM9_4 (mput m51 x55.to true))) ?_
                    refine fo (rn 1 rfl ?_)
                    exact jX (canonM (mput m51 x55.to true)) h (gr [0, 1, 2, 3, 4, 7, 5, 6] rfl (hB rfl rfl rfl (hB rfl rfl rfl (hB rfl rfl rfl (hB rfl rfl rfl (hI rfl rfl (hB rfl rfl rfl (hM rfl rfl (hM rfl rfl .nil)))))))) rfl)
                  refine rn 1 rfl ?_
                  exact jX m51 h (gr [0, 1, 2, 3, 4, 7, 5, 6] rfl (hB rfl rfl rfl (hB rfl rfl rfl (hB rfl rfl rfl (hB rfl rfl rfl (hI rfl rfl (hB rfl rfl rfl (hM rfl rfl (hM rfl rfl .nil)))))))) rfl)
                intro m60 h
                refine rn 1 rfl ?_
                exact jX m60 h (gr [0, 1, 2, 3, 4, 6, 7] rfl (hB rfl rfl rfl (hB rfl rfl rfl (hB rfl rfl rfl (hB rfl rfl rfl (hI rfl rfl (hM rfl rfl (hM rfl rfl .nil))))))) rfl)
              intro m54 h
              refine rn 4 rfl ?_
              exact jX ((w64 (n50 + 1)), m54) (hk5 _ h) (gr [0, 1, 2, 3, 4, 5, 6] rfl (hB rfl rfl rfl (hB rfl rfl rfl (hB rfl rfl rfl (hB rfl rfl rfl (hI rfl rfl (hM rfl rfl (hM rfl rfl .nil))))))) rfl)
            replace h := RG.f h hb52
            unfold M73_L5 at h
            refine rn 1 rfl ?_
            exact jX m51 h (gr [0, 1, 2, 3, 4, 5, 6] rfl (hB rfl rfl rfl (hB rfl rfl rfl (hB rfl rfl rfl (hB rfl rfl rfl (hI rfl rfl (hM rfl rfl (hM rfl rfl .nil))))))) rfl)
          intro m47 h
          refine rn 1 rfl ?_
          exact jX m47 h (gr [0, 1, 2, 3, 4, 5, 6] rfl (hB rfl rfl rfl (hB rfl rfl rfl (hB rfl rfl rfl (hB rfl rfl rfl (hI rfl rfl (hM rfl rfl (hM rfl rfl .nil))))))) rfl)
        intro m43 h
        refine rn 4 rfl ?_
        exact jX ((w64 (n39 + 1)), m43) (hk4 _ h) (gr [0, 1, 2, 3, 4, 5, 6] rfl (hB rfl rfl rfl (hB rfl rfl rfl (hB rfl rfl rfl (hB rfl rfl rfl (hI rfl rfl (hM rfl rfl (hM rfl rfl .nil))))))) rfl)
      replace h := RG.f h hb41
      unfold M73_L4 at h
      refine rn 1 rfl ?_
      exact jX m40 h (gr [0, 1, 2, 3, 4, 5, 6] rfl (hB rfl rfl rfl (hB rfl rfl rfl (hB rfl rfl rfl (hB rfl rfl rfl (hI rfl rfl (hM rfl rfl (hM rfl rfl .nil))))))) rfl)
    intro m36 h
    refine rn 1 rfl ?_
    exact jX (m36, m26) h (gr [0, 1, 2, 3, 4, 5, 6] rfl (hB rfl rfl rfl (hB rfl rfl rfl (hB rfl rfl rfl (hB rfl rfl rfl (hI rfl rfl (hM rfl rfl (hM rfl rfl .nil))))))) rfl)
  rintro ⟨m23, m24⟩ h
  exact jX (l21, m23, m24) (RM.step hm2 hq2 h) (gr [0, 1, 2, 3, 4, 5, 6] rfl (hB rfl rfl rfl (hB rfl rfl rfl (hB rfl rfl rfl (hB rfl rfl rfl (hI rfl rfl (hM rfl rfl (hM rfl rfl .nil))))))) rfl)
theorem W36 (F : Nat) (a1 : Tprovenderref6_net) (a2 : Int) (r : Tprovenderref6_sets) (h : M36 F a1 a2 = some r) : Pure Try.prog 36 [(V.agg (encTprovenderref6_net a1)), (iV a2)] (V.agg (encTprovenderref6_sets r)) := by
  refine pin (fun r => (V.agg (encTprovenderref6_sets r))) r rfl Try.func36 rfl rfl rfl rfl rfl (fun w0 m0 hg => ?_)
  unfold M36 at h
  refine rn 14 rfl ?_
  refine lC (fun (p : (List ((List UInt8) × Bool)) × (List ((List UInt8) × Bool))) => (⟨[(1, (iV a2)), (2, (V.ptr 0 6 0 0)), (4, (V.ptr 1 2 0 0)), (5, (V.ptr 2 2 0 0))], [(0, (Ob.arr 78 6 [(encTprovenderref6_net a1)])), (1, (Ob.arr 74 2 [[(V.con (.map none)), (V.con (.map none))]])), (2, (Ob.arr 74 2 [[(V.imap ((p.1).map encM9_4)), (V.imap ((p.2).map encM9_4))]]))], 3⟩ : St)) (fun n (p : (List ((List UInt8) × Bool)) × (List ((List UInt8) × Bool))) => M36_L1 F a1 a2 n p.1 p.2 = some r) (fun p h => by simp [M36_L1] at h) F (([] : List ((List UInt8) × Bool)), ([] : List ((List UInt8) × Bool))) h (Ghost.trans (ghost_frzMx (es := ([] : List ((List UInt8) × Bool)).map encM9_4) 2 rfl encM9_4_imm (.put (t := 9) rfl (Sub.agg (.cons Sub.frzM (.cons Sub.keepM .nil))) (.put (t := 7) rfl Sub.frzM .refl)) (.put (t := 4) (v := (Ob.arr 74 2 [[(V.imap (([] : List ((List UInt8) × Bool)).map encM9_4)), (V.map 3)]])) rfl (ObSub.box (.cons Sub.frzM (.cons Sub.keepM .nil))) .refl)) (Ghost.trans (ghost_frzMx (es := ([] : List ((List UInt8) × Bool)).map encM9_4) 3 rfl encM9_4_imm (.put (t := 9) rfl (Sub.agg (.cons Sub.keepM (.cons Sub.frzM .nil))) (.put (t := 8) rfl Sub.frzM .refl)) (.put (t := 4) (v := (Ob.arr 74 2 [[(V.imap (([] : List ((List UInt8) × Bool)).map encM9_4)), (V.imap (([] : List ((List UInt8) × Bool)).map encM9_4))]])) rfl (ObSub.box (.cons Sub.keepM (.cons Sub.frzM .nil))) .refl)) (gr [0, 1, 4] rfl (hB rfl rfl rfl (hB rfl rfl rfl (hB rfl rfl rfl .nil))) rfl))) (fun n p h => ?_)
  obtain ⟨m5, m6⟩ := p
  unfold M36_L1 at h
  refine rn 6 rfl ?_
  refine cl h rfl rfl rfl (W73 _ _ _ _) rfl (fun y7 hx8 h => ?_)
  refine rn 8 rfl ?_
  refine aops_lenM (n := y7.reached.length) (es := y7.reached.map encM9_4) tMap72 wants_none rfl .imm (List.length_map ..) rfl ?_
  refine fo (rn 2 rfl ?_)
  refine aops_lenM (n := m5.length) (es := m5.map encM9_4) tMap72 wants_none rfl .imm (List.length_map ..) rfl ?_
  refine fo (rn 2 rfl ?_)
  refine spO 21 h rfl (fun hb9 h => ?_) (fun hb9 h => ?_)
  · refine rn 2 rfl ?_
    refine aops_lenM (n := y7.made.length) (es := y7.made.map encM9_4) tMap72 (wants_some (c := true) (b := true) 21 rfl rfl rfl) rfl .imm (List.length_map ..) rfl ?_
    refine fo (rn 2 rfl ?_)
    refine aops_lenM (n := m6.length) (es := m6.map encM9_4) tMap72 (wants_some (c := true) (b := true) 21 rfl rfl rfl) rfl .imm (List.length_map ..) rfl ?_
    refine fo (rn 3 rfl ?_)
    refine spC h rfl (fun hb10 h => ?_) (fun hb10 h => ?_)
    · refine rn 5 rfl ?_
      exact rt h rfl
    refine rn 6 rfl ?_
    exact jX (y7.reached, y7.made) h (gr [0, 1, 2] rfl (hB rfl rfl rfl (hB rfl rfl rfl (hB rfl rfl rfl .nil))) rfl)
  refine rn 16 rfl ?_
  exact jX (y7.reached, y7.made) h (gr [0, 1, 2] rfl (hB rfl rfl rfl (hB rfl rfl rfl (hB rfl rfl rfl .nil))) rfl)
theorem W72_B (R72 : (List (List UInt8)) → Option (List (List UInt8))) (hR72 : ∀ (a1 : (List (List UInt8))) (r : (List (List UInt8))), R72 a1 = some r → Pure Try.prog 72 [(V.lst 1 (a1.map encS))] (V.lst 1 (r.map encS))) (F : Nat) (a1 : (List (List UInt8))) (r : (List (List UInt8))) (h : M72_B R72 F a1 = some r) : Pure Try.prog 72 [(V.lst 1 (a1.map encS))] (V.lst 1 (r.map encS)) := by
  refine pin (fun r => (V.lst 1 (r.map encS))) r rfl Try.func72 rfl rfl rfl rfl rfl (fun w0 m0 hg => ?_)
  unfold M72_B at h
  refine rn 8 rfl ?_
  refine ln rfl rfl ?_
  refine rn 2 rfl ?_
  refine spC h rfl (fun hb2 h => ?_) (fun hb2 h => ?_)
  · refine rn 5 rfl ?_
    exact rt h rfl
  refine rn 2 rfl ?_
  refine ck h (fun hc3 h => ?_)
  obtain ⟨y4, hx5, h⟩ := bind_some h
  refine ck h (fun hc6 h => ?_)
  obtain ⟨y7, hx8, h⟩ := bind_some h
  refine dr mixed (vs 2 rfl (nD rfl rfl rfl (vs 1 rfl (xD (OD.mk [(10, (V.lst 1 (a1.map encS))), (13, (iV (w64 (Int.tdiv ((a1.length : Nat) : Int) 2))))] [] [(14, (V.lst 1 ((a1.take (w64 (Int.tdiv ((a1.length : Nat) : Int) 2)).toNat).map encS)))] []) ⟨⟨rfl, rfl, trivial⟩, trivial⟩ (by exact fun S hn h hh => aops_slice_lst (0) ((w64 (Int.tdiv ((a1.length : Nat) : Int) 2)).toNat) ((a1.take (w64 (Int.tdiv ((a1.length : Nat) : Int) 2)).toNat).map encS) tSl25 wants_none h.1 rfl ⟨_, (by rw [Int.toNat_of_nonneg hc3.1]; exact h.2.1)⟩ (Nat.zero_le _) (by simpa using hc3.2) slL_lo rfl (aops_nil ⟨rfl, rfl⟩)) rfl (cD rfl rfl rfl rfl (hR72 _ _ hx5) rfl (vs 2 rfl (nD rfl rfl rfl (vs 1 rfl (xD (OD.mk [(16, (V.lst 1 (a1.map encS))), (19, (iV (w64 (Int.tdiv ((a1.length : Nat) : Int) 2))))] [] [(20, (V.lst 1 ((a1.drop (w64 (Int.tdiv ((a1.length : Nat) : Int) 2)).toNat).map encS)))] []) ⟨⟨rfl, rfl, trivial⟩, trivial⟩ (by exact fun S hn h hh => aops_slice_lst ((w64 (Int.tdiv ((a1.length : Nat) : Int) 2)).toNat) (a1.length) ((a1.drop (w64 (Int.tdiv ((a1.length : Nat) : Int) 2)).toNat).map encS) tSl25 wants_none h.1 ⟨_, (by rw [Int.toNat_of_nonneg hc6.1]; exact h.2.1)⟩ (List.length_map ..).symm hc6.2 (Nat.le_of_eq (List.length_map ..).symm) slL_hi rfl (aops_nil ⟨rfl, rfl⟩)) rfl (cD rfl rfl rfl rfl (hR72 _ _ hx8) rfl (vs 2 rfl .nil))))))))))) (by kernel_rfl) ?_
  refine rn 5 rfl ?_
  refine jK h (fun (p : (List (List UInt8))) => (⟨[(5, (V.own 0 p.length))], [(0, (Ob.arr 9 1 (p.map encS)))], 1⟩ : St)) (fun k9 (p : (List (List UInt8))) => k9 p = some r) (fun k9 h => ?_) ?_
  · refine rn 1 rfl ?_
    refine lC (fun (p : (List (List UInt8)) × (List (List UInt8)) × (List (List UInt8))) => (⟨[(3, (V.lst 1 ((p.1).map encS))), (4, (V.lst 1 ((p.2.1).map encS))), (5, (V.own 0 (p.2.2).length))], [(0, (Ob.arr 9 1 ((p.2.2).map encS)))], 1⟩ : St)) (fun n (p : (List (List UInt8)) × (List (List UInt8)) × (List (List UInt8))) => M72_L1 F k9 n p.1 p.2.1 p.2.2 = some r) (fun p h => by simp [M72_L1] at h) F (y4, y7, ([] : List (List UInt8))) h (Ghost.trans (ghost_nilE 5 9 1 rfl) (ghost_ren 1 (fun i => ([0] : List Nat).getD i 0) _ _ (by decide) (EnvSub.get (.cons (Sub.imm (Imm.lst _ _)) (.cons (Sub.imm (Imm.lst _ _)) (.cons (Sub.ownE rfl rfl (by simp)) .nil)))) (HpSub.get (.cons rfl (ObSub.rows (rows_imm imms_encS)) .nil)) rfl)) (fun n p h => ?_)
    obtain ⟨l14, l15, l16⟩ := p
    unfold M72_L1 at h
    refine rn 4 rfl ?_
    refine ln rfl rfl ?_
    refine rn 2 rfl ?_
    refine spO 25 h rfl (fun hb17 h => ?_) (fun hb17 h => ?_)
    · refine rn 9 rfl ?_
      refine bs h (fun hb18 h => ?_) (fun hb18 h => ?_)
      · refine dr mixed (vs 1 rfl (nD rfl rfl rfl (vs 1 rfl (vb hb18 rfl (vs 13 rfl .nil))))) (by kernel_rfl) ?_
        obtain ⟨x19, hx20, h⟩ := bind_some h
        refine rn 1 rfl ?_
        refine ck h (fun hc21 h => ?_)
        refine ck h (fun hc22 h => ?_)
        refine awp_ghost ghost_res ?_
        refine fa ?_
        refine dr mixed (vs 2 rfl (iD hx20 rfl rfl rfl (vs 1 rfl (xD (OD.mk [(50, (sV x19))] [] [(51, (V.lst 1 (([x19] : List (List UInt8)).map encS)))] []) ⟨⟨rfl, trivial⟩, trivial⟩ (by exact fun S hn h hh => aops_buildSlice_imm [(0, (sV x19))] [[(sV x19)]] tEl25 tZ9 wants_none rfl rfl rfl rfl (evp_cons h.1 evp_nil) rfl rfl (by simp) (imms_rows (.cons (.cons (Imm.con _) .nil) .nil)) rfl (aops_nil ⟨rfl, rfl⟩)) rfl (xD (OD.mk [(47, (V.own 0 l16.length)), (51, (V.lst 1 (([x19] : List (List UInt8)).map encS)))] [(0, (Ob.arr 9 1 (l16.map encS))), (1, Ob.res)] [(52, (V.own 1 (l16 ++ ([x19] : List (List UInt8))).length))] [(1, (Ob.arr 9 1 ((l16 ++ ([x19] : List (List UInt8))).map encS))), (0, Ob.dead)]) ⟨⟨rfl, rfl, trivial⟩, ⟨rfl, rfl, trivial⟩⟩ (by exact fun S hn h hh => aops_append_at 1 rfl hn hh.2.1 (([x19] : List (List UInt8)).map encS) ((l16 ++ ([x19] : List (List UInt8))).map encS) tEl25 tIsSl25 rfl rfl wants_none h.1 hh.1 (by simp) h.2.1 (.lst (rows_one one_encS)) (map_snoc encS l16 ([x19] : List (List UInt8))) (List.length_map ..) hc21 rfl (aops_nil ⟨rfl, rfl⟩)) rfl (vs 1 rfl (xD (OD.mk [(53, (V.lst 1 (l14.map encS)))] [] [(54, (V.lst 1 ((l14.drop 1).map encS)))] []) ⟨⟨rfl, trivial⟩, trivial⟩ (by exact fun S hn h hh => aops_slice_lst (1) (l14.length) ((l14.drop 1).map encS) tSl25 wants_none h.1 ⟨_, rfl⟩ (List.length_map ..).symm hc22 (Nat.le_of_eq (List.length_map ..).symm) slL_hi rfl (aops_nil ⟨rfl, rfl⟩)) rfl (vs 2 rfl .nil)))))))) (by kernel_rfl) ?_
        refine rn 1 rfl ?_
        exact jX ((l14.drop 1), l15, (l16 ++ ([x19] : List (List UInt8)))) h (gr [1] rfl (hR rfl rfl .nil) rfl)
      obtain ⟨x23, hx24, h⟩ := bind_some h
      obtain ⟨x25, hx26, h⟩ := bind_some h
      refine dr mixed (vs 1 rfl (nD rfl rfl rfl (vs 1 rfl (vb hb18 rfl (vs 1 rfl (nD rfl rfl rfl (vs 1 rfl (vb hb17 rfl (vs 1 rfl (iD hx24 rfl rfl rfl (vs 2 rfl (iD hx26 rfl rfl rfl (vs 4 rfl .nil))))))))))))) (by kernel_rfl) ?_
      refine jK h (fun (p : (List (List UInt8)) × (List (List UInt8)) × (List (List UInt8))) => (⟨[(3, (V.lst 1 ((p.1).map encS))), (4, (V.lst 1 ((p.2.1).map encS))), (5, (V.own 0 (p.2.2).length)), (26, (V.con undef)), (27, (V.con undef)), (28, (V.con undef)), (34, (V.lst 1 (l14.map encS))), (35, (iV ((l14.length : Nat) : Int))), (36, (bV (decide (((l14.length : Nat) : Int) > 0)))), (37, (bV true)), (38, (V.lst 1 (l14.map encS))), (39, (V.iptr [(sV x23)] 0)), (40, (sV x23)), (41, (V.lst 1 (l15.map encS))), (42, (V.iptr [(sV x25)] 0)), (43, (sV x25)), (44, (bV (Op.bytesLess x23 x25 || x23 == x25))), (45, (bV (Op.bytesLess x23 x25 || x23 == x25)))], [(0, (Ob.arr 9 1 ((p.2.2).map encS)))], 1⟩ : St)) (fun k27 (p : (List (List UInt8)) × (List (List UInt8)) × (List (List UInt8))) => k27 p.1 p.2.1 p.2.2 = some r) (fun k27 h => ?_) ?_
      · refine spC h rfl (fun hb31 h => ?_) (fun hb31 h => ?_)
        · obtain ⟨x32, hx33, h⟩ := bind_some h
          refine ck h (fun hc34 h => ?_)
          refine ck h (fun hc35 h => ?_)
          refine awp_ghost ghost_res ?_
          refine fa ?_
          refine dr mixed (vs 2 rfl (iD hx33 rfl rfl rfl (vs 1 rfl (xD (OD.mk [(50, (sV x32))] [] [(51, (V.lst 1 (([x32] : List (List UInt8)).map encS)))] []) ⟨⟨rfl, trivial⟩, trivial⟩ (by exact fun S hn h hh => aops_buildSlice_imm [(0, (sV x32))] [[(sV x32)]] tEl25 tZ9 wants_none rfl rfl rfl rfl (evp_cons h.1 evp_nil) rfl rfl (by simp) (imms_rows (.cons (.cons (Imm.con _) .nil) .nil)) rfl (aops_nil ⟨rfl, rfl⟩)) rfl (xD (OD.mk [(47, (V.own 0 l16.length)), (51, (V.lst 1 (([x32] : List (List UInt8)).map encS)))] [(0, (Ob.arr 9 1 (l16.map encS))), (1, Ob.res)] [(52, (V.own 1 (l16 ++ ([x32] : List (List UInt8))).length))] [(1, (Ob.arr 9 1 ((l16 ++ ([x32] : List (List UInt8))).map encS))), (0, Ob.dead)]) ⟨⟨rfl, rfl, trivial⟩, ⟨rfl, rfl, trivial⟩⟩ (by exact fun S hn h hh => aops_append_at 1 rfl hn hh.2.1 (([x32] : List (List UInt8)).map encS) ((l16 ++ ([x32] : List (List UInt8))).map encS) tEl25 tIsSl25 rfl rfl wants_none h.1 hh.1 (by simp) h.2.1 (.lst (rows_one one_encS)) (map_snoc encS l16 ([x32] : List (List UInt8))) (List.length_map ..) hc34 rfl (aops_nil ⟨rfl, rfl⟩)) rfl (vs 1 rfl (xD (OD.mk [(53, (V.lst 1 (l14.map encS)))] [] [(54, (V.lst 1 ((l14.drop 1).map encS)))] []) ⟨⟨rfl, trivial⟩, trivial⟩ (by exact fun S hn h hh => aops_slice_lst (1) (l14.length) ((l14.drop 1).map encS) tSl25 wants_none h.1 ⟨_, rfl⟩ (List.length_map ..).symm hc35 (Nat.le_of_eq (List.length_map ..).symm) slL_hi rfl (aops_nil ⟨rfl, rfl⟩)) rfl (vs 2 rfl .nil)))))))) (by kernel_rfl) ?_
          exact jX ((l14.drop 1), l15, (l16 ++ ([x32] : List (List UInt8)))) h (gr [1] rfl (hR rfl rfl .nil) rfl)
        obtain ⟨x36, hx37, h⟩ := bind_some h
        refine ck h (fun hc38 h => ?_)
        refine ck h (fun hc39 h => ?_)
        refine awp_ghost ghost_res ?_
        refine fa ?_
        refine dr mixed (vs 2 rfl (iD hx37 rfl rfl rfl (vs 1 rfl (xD (OD.mk [(58, (sV x36))] [] [(59, (V.lst 1 (([x36] : List (List UInt8)).map encS)))] []) ⟨⟨rfl, trivial⟩, trivial⟩ (by exact fun S hn h hh => aops_buildSlice_imm [(0, (sV x36))] [[(sV x36)]] tEl25 tZ9 wants_none rfl rfl rfl rfl (evp_cons h.1 evp_nil) rfl rfl (by simp) (imms_rows (.cons (.cons (Imm.con _) .nil) .nil)) rfl (aops_nil ⟨rfl, rfl⟩)) rfl (xD (OD.mk [(55, (V.own 0 l16.length)), (59, (V.lst 1 (([x36] : List (List UInt8)).map encS)))] [(0, (Ob.arr 9 1 (l16.map encS))), (1, Ob.res)] [(60, (V.own 1 (l16 ++ ([x36] : List (List UInt8))).length))] [(1, (Ob.arr 9 1 ((l16 ++ ([x36] : List (List UInt8))).map encS))), (0, Ob.dead)]) ⟨⟨rfl, rfl, trivial⟩, ⟨rfl, rfl, trivial⟩⟩ (by exact fun S hn h hh => aops_append_at 1 rfl hn hh.2.1 (([x36] : List (List UInt8)).map encS) ((l16 ++ ([x36] : List (List UInt8))).map encS) tEl25 tIsSl25 rfl rfl wants_none h.1 hh.1 (by simp) h.2.1 (.lst (rows_one one_encS)) (map_snoc encS l16 ([x36] : List (List UInt8))) (List.length_map ..) hc38 rfl (aops_nil ⟨rfl, rfl⟩)) rfl (vs 1 rfl (xD (OD.mk [(61, (V.lst 1 (l15.map encS)))] [] [(62, (V.lst 1 ((l15.drop 1).map encS)))] []) ⟨⟨rfl, trivial⟩, trivial⟩ (by exact fun S hn h hh => aops_slice_lst (1) (l15.length) ((l15.drop 1).map encS) tSl25 wants_none h.1 ⟨_, rfl⟩ (List.length_map ..).symm hc39 (Nat.le_of_eq (List.length_map ..).symm) slL_hi rfl (aops_nil ⟨rfl, rfl⟩)) rfl (vs 2 rfl .nil)))))))) (by kernel_rfl) ?_
        exact jX (l14, (l15.drop 1), (l16 ++ ([x36] : List (List UInt8)))) h (gr [1] rfl (hR rfl rfl .nil) rfl)
      rintro ⟨l28, l29, l30⟩ h
      refine rn 1 rfl ?_
      exact jX (l28, l29, l30) h (gr [0] rfl (hR rfl rfl .nil) rfl)
    refine rn 1 rfl ?_
    refine ln rfl rfl ?_
    refine rn 3 rfl ?_
    refine spC h rfl (fun hb40 h => ?_) (fun hb40 h => ?_)
    · refine rn 3 rfl ?_
      refine bs h (fun hb41 h => ?_) (fun hb41 h => ?_)
      · refine dr mixed (vs 1 rfl (nD rfl rfl rfl (vs 1 rfl (vb hb41 rfl (vs 13 rfl .nil))))) (by kernel_rfl) ?_
        obtain ⟨x42, hx43, h⟩ := bind_some h
        refine rn 1 rfl ?_
        refine ck h (fun hc44 h => ?_)
        refine ck h (fun hc45 h => ?_)
        refine awp_ghost ghost_res ?_
        refine fa ?_
        refine dr mixed (vs 2 rfl (iD hx43 rfl rfl rfl (vs 1 rfl (xD (OD.mk [(50, (sV x42))] [] [(51, (V.lst 1 (([x42] : List (List UInt8)).map encS)))] []) ⟨⟨rfl, trivial⟩, trivial⟩ (by exact fun S hn h hh => aops_buildSlice_imm [(0, (sV x42))] [[(sV x42)]] tEl25 tZ9 wants_none rfl rfl rfl rfl (evp_cons h.1 evp_nil) rfl rfl (by simp) (imms_rows (.cons (.cons (Imm.con _) .nil) .nil)) rfl (aops_nil ⟨rfl, rfl⟩)) rfl (xD (OD.mk [(47, (V.own 0 l16.length)), (51, (V.lst 1 (([x42] : List (List UInt8)).map encS)))] [(0, (Ob.arr 9 1 (l16.map encS))), (1, Ob.res)] [(52, (V.own 1 (l16 ++ ([x42] : List (List UInt8))).length))] [(1, (Ob.arr 9 1 ((l16 ++ ([x42] : List (List UInt8))).map encS))), (0, Ob.dead)]) ⟨⟨rfl, rfl, trivial⟩, ⟨rfl, rfl, trivial⟩⟩ (by exact fun S hn h hh => aops_append_at 1 rfl hn hh.2.1 (([x42] : List (List UInt8)).map encS) ((l16 ++ ([x42] : List (List UInt8))).map encS) tEl25 tIsSl25 rfl rfl wants_none h.1 hh.1 (by simp) h.2.1 (.lst (rows_one one_encS)) (map_snoc encS l16 ([x42] : List (List UInt8))) (List.length_map ..) hc44 rfl (aops_nil ⟨rfl, rfl⟩)) rfl (vs 1 rfl (xD (OD.mk [(53, (V.lst 1 (l14.map encS)))] [] [(54, (V.lst 1 ((l14.drop 1).map encS)))] []) ⟨⟨rfl, trivial⟩, trivial⟩ (by exact fun S hn h hh => aops_slice_lst (1) (l14.length) ((l14.drop 1).map encS) tSl25 wants_none h.1 ⟨_, rfl⟩ (List.length_map ..).symm hc45 (Nat.le_of_eq (List.length_map ..).symm) slL_hi rfl (aops_nil ⟨rfl, rfl⟩)) rfl (vs 2 rfl .nil)))))))) (by kernel_rfl) ?_
        refine rn 1 rfl ?_
        exact jX ((l14.drop 1), l15, (l16 ++ ([x42] : List (List UInt8)))) h (gr [1] rfl (hR rfl rfl .nil) rfl)
      refine dr mixed (vs 1 rfl (nD rfl rfl rfl (vs 1 rfl (vb hb41 rfl (vs 1 rfl (nD rfl rfl rfl (vs 1 rfl (vb hb17 rfl (vs 9 rfl .nil))))))))) (by kernel_rfl) ?_
      obtain ⟨x46, hx47, h⟩ := bind_some h
      refine rn 1 rfl ?_
      refine ck h (fun hc48 h => ?_)
      refine ck h (fun hc49 h => ?_)
      refine awp_ghost ghost_res ?_
      refine fa ?_
      refine dr mixed (vs 2 rfl (iD hx47 rfl rfl rfl (vs 1 rfl (xD (OD.mk [(58, (sV x46))] [] [(59, (V.lst 1 (([x46] : List (List UInt8)).map encS)))] []) ⟨⟨rfl, trivial⟩, trivial⟩ (by exact fun S hn h hh => aops_buildSlice_imm [(0, (sV x46))] [[(sV x46)]] tEl25 tZ9 wants_none rfl rfl rfl rfl (evp_cons h.1 evp_nil) rfl rfl (by simp) (imms_rows (.cons (.cons (Imm.con _) .nil) .nil)) rfl (aops_nil ⟨rfl, rfl⟩)) rfl (xD (OD.mk [(55, (V.own 0 l16.length)), (59, (V.lst 1 (([x46] : List (List UInt8)).map encS)))] [(0, (Ob.arr 9 1 (l16.map encS))), (1, Ob.res)] [(60, (V.own 1 (l16 ++ ([x46] : List (List UInt8))).length))] [(1, (Ob.arr 9 1 ((l16 ++ ([x46] : List (List UInt8))).map encS))), (0, Ob.dead)]) ⟨⟨rfl, rfl, trivial⟩, ⟨rfl, rfl, trivial⟩⟩ (by exact fun S hn h hh => aops_append_at 1 rfl hn hh.2.1 (([x46] : List (List UInt8)).map encS) ((l16 ++ ([x46] : List (List UInt8))).map encS) tEl25 tIsSl25 rfl rfl wants_none h.1 hh.1 (by simp) h.2.1 (.lst (rows_one one_encS)) (map_snoc encS l16 ([x46] : List (List UInt8))) (List.length_map ..) hc48 rfl (aops_nil ⟨rfl, rfl⟩)) rfl (vs 1 rfl (xD (OD.mk [(61, (V.lst 1 (l15.map encS)))] [] [(62, (V.lst 1 ((l15.drop 1).map encS)))] []) ⟨⟨rfl, trivial⟩, trivial⟩ (by exact fun S hn h hh => aops_slice_lst (1) (l15.length) ((l15.drop 1).map encS) tSl25 wants_none h.1 ⟨_, rfl⟩ (List.length_map ..).symm hc49 (Nat.le_of_eq (List.length_map ..).symm) slL_hi rfl (aops_nil ⟨rfl, rfl⟩)) rfl (vs 2 rfl .nil)))))))) (by kernel_rfl) ?_
      refine rn 1 rfl ?_
      exact jX (l14, (l15.drop 1), (l16 ++ ([x46] : List (List UInt8)))) h (gr [1] rfl (hR rfl rfl .nil) rfl)
    refine rn 1 rfl ?_
    exact jX l16 h (gr [0] rfl (hR rfl rfl .nil) rfl)
  intro l10 h
  refine rn 5 rfl ?_
  refine awp_ghost (ghost_frzEs 0 [2, 5, 63] rfl (rows_imm imms_encS) (List.forall_mem_cons.2 ⟨rfl, (List.forall_mem_cons.2 ⟨rfl, (List.forall_mem_cons.2 ⟨rfl, (fun _ hx => nomatch hx)⟩)⟩)⟩) (List.length_map ..).symm) ?_
  refine fa ?_
  exact rt h rfl
theorem W72 : ∀ (F : Nat) (a1 : (List (List UInt8))) (r : (List (List UInt8))) (h : M72 F a1 = some r), Pure Try.prog 72 [(V.lst 1 (a1.map encS))] (V.lst 1 (r.map encS)) := by
  intro F
  induction F with
  | zero => intros; simp [M72] at *
  | succ F ih => exact fun a1 r h => W72_B (M72 F) ih F a1 r h
theorem W34 (F : Nat) (a1 : (List ((List UInt8) × Bool))) (r : (List (List UInt8))) (h : M34 F a1 = some r) : Pure Try.prog 34 [(V.imap (a1.map encM9_4))] (V.lst 1 (r.map encS)) := by
  refine pin (fun r => (V.lst 1 (r.map encS))) r rfl Try.func34 rfl rfl rfl rfl rfl (fun w0 m0 hg => ?_)
  unfold M34 at h
  refine rn 12 rfl ?_
  refine aops_range tMap72 wants_none rfl rfl ?_
  refine fo (rn 2 rfl ?_)
  refine lC (fun (p : (List (List UInt8)) × (List ((List UInt8) × Bool))) => (⟨[(3, (V.own 0 (p.1).length)), (6, (V.ptr 1 1 0 0))], [(0, (Ob.arr 9 1 ((p.1).map encS))), (1, (Ob.iter [] ((p.2).map encM9_4)))], 2⟩ : St)) (fun n (p : (List (List UInt8)) × (List ((List UInt8) × Bool))) => RM n p.2 (M34_L1 F p.2 p.1 = some r)) (fun p h => RM.zero h) (a1.length + 1) (([] : List (List UInt8)), a1) (RM.start h) (Ghost.trans (ghost_nilE 3 9 1 rfl) (ghost_ren 2 (fun i => ([1, 0] : List Nat).getD i 0) _ _ (by decide) (EnvSub.get (.cons (Sub.ownE rfl rfl (by simp)) (.cons (Sub.ptr rfl rfl) .nil))) (HpSub.get (.cons rfl (ObSub.rows (rows_imm imms_encS)) (.cons rfl ObSub.itr .nil))) rfl)) (fun n p h => ?_)
  obtain ⟨l4, l5⟩ := p
  refine rn 2 rfl ?_
  refine nxt rfl rfl wants_none rfl (fun hl1 => ?_) (fun e6 l7 hq1 hp1 => ?_)
  · replace h := h.2
    subst hl1
    unfold M34_L1 at h
    obtain ⟨y9, hx10, h⟩ := bind_some h
    refine rn 8 rfl ?_
    refine aops_ghost (ghost_frzEs 0 [15, 3] rfl (rows_imm imms_encS) (List.forall_mem_cons.2 ⟨rfl, (List.forall_mem_cons.2 ⟨rfl, (fun _ hx => nomatch hx)⟩)⟩) (List.length_map ..).symm) ?_
    refine aops_call (V.lst 1 (y9.map encS)) [(V.lst 1 (l4.map encS))] fOk72 wants_none (evm_cons rfl evm_nil) (.cons (Imm.lst _ _) .nil) (W72 F l4 y9 hx10) rfl ?_
    refine fo (rn 2 rfl ?_)
    exact rt h rfl
  have hm1 := h
  replace h := ord_M34_L1 hp1 h.2
  unfold M34_L1 at h
  refine rn 8 rfl ?_
  refine aops_entry wants_none rfl rfl rfl ?_
  refine fo (rn 6 rfl ?_)
  refine aops_buildSlice [(0, (sV e6.1))] [[(sV e6.1)]] tEl25 tZ9 rfl rfl rfl rfl wants_none (evp_cons rfl evp_nil) rfl rfl (by simp) rfl ?_
  refine fo ?_
  refine apO encS h rfl rfl rfl rfl rfl rfl rfl rfl (fun h => ?_)
  refine rn 3 rfl ?_
  exact jX ((l4 ++ ([e6.1] : List (List UInt8))), l7) (RM.step hm1 hq1 h) (gr [3, 1] rfl (hR rfl rfl (hI rfl rfl .nil)) rfl)
theorem W10 (F : Nat) (a1 : TGraph) (a2 : Int) (a3 : (List (List UInt8))) (r : ((List (List UInt8)) × Int)) (h : M10 F a1 a2 a3 = some r) : Pure Try.prog 10 [(V.agg (encTGraph a1)), (iV a2), (V.lst 1 (a3.map encS))] (V.tup [(V.lst 1 ((r.1).map encS)), (iV (r.2))]) := by
  refine pin (fun r => (V.tup [(V.lst 1 ((r.1).map encS)), (iV (r.2))])) r rfl Try.func10 rfl rfl rfl rfl rfl (fun w0 m0 hg => ?_)
  unfold M10 at h
  refine rn 12 rfl ?_
  refine cl h rfl rfl rfl (W33 _ _ _ _ _) rfl (fun y4 hx5 h => ?_)
  refine rn 7 rfl ?_
  refine spC h rfl (fun hb6 h => ?_) (fun hb6 h => ?_)
  · refine rn 6 rfl ?_
    exact rt h rfl
  refine rn 5 rfl ?_
  refine cl h rfl rfl rfl (W35 _ _ _) rfl (fun y7 hx8 h => ?_)
  refine rn 1 rfl ?_
  refine cl h rfl rfl rfl (W36 _ _ _) rfl (fun y9 hx10 h => ?_)
  refine rn 1 rfl ?_
  refine cl h rfl rfl rfl (W34 _ _) rfl (fun y11 hx12 h => ?_)
  refine rn 3 rfl ?_
  exact rt h rfl
theorem W11 (F : Nat) (r : Bool) (h : M11 F = some r) : Pure Try.prog 11 [] (bV r) := by
  unfold M11 at h
  replace h := Option.some.inj h
  subst h
  exact told_pure
end Go.Proofs.Ytpbkggamiipdmaa

namespace Go.Proofs.Ytpbkggamiipdmaa
open Go Go.Pv
set_option linter.unusedVariables false
set_option maxRecDepth 100000
theorem W19 (F : Nat) (a1 : TGraph) (a2 : Int) (a3 : (List (List UInt8))) (r : ((List (List UInt8)) × Int)) (h : M19 F a1 a2 a3 = some r) : Pure Try.prog 19 [(V.agg (encTGraph a1)), (iV a2), (V.lst 1 (a3.map encS))] (V.tup [(V.lst 1 ((r.1).map encS)), (iV (r.2))]) := by
  refine pin (fun r => (V.tup [(V.lst 1 ((r.1).map encS)), (iV (r.2))])) r rfl Try.func19 rfl rfl rfl rfl rfl (fun w0 m0 hg => ?_)
  unfold M19 at h
  refine rn 11 rfl ?_
  refine cl h rfl rfl rfl (W31 _ _ _ _) rfl (fun y4 hx5 h => ?_)
  refine rn 12 rfl ?_
  refine spC h rfl (fun hb6 h => ?_) (fun hb6 h => ?_)
  · refine rn 6 rfl ?_
    exact rt h rfl
  obtain ⟨x7, hx8, h⟩ := bind_some h
  refine rn 7 rfl ?_
  refine opC 8 hx8 rfl ?_
  refine rn 2 rfl ?_
  refine cl h rfl rfl rfl (W32 _ _ _) rfl (fun y9 hx10 h => ?_)
  obtain ⟨x11, hx12, h⟩ := bind_some h
  refine opO 24 hx12 rfl ?_
  refine rn 3 rfl ?_
  refine ln rfl rfl ?_
  refine rn 2 rfl ?_
  refine jK h (fun (p : (List (List UInt8))) => (⟨[(10, (V.own 0 p.length))], [(0, (Ob.arr 9 1 (p.map encS)))], 1⟩ : St)) (fun k13 (p : (List (List UInt8))) => k13 p = some r) (fun k13 h => ?_) ?_
  · refine rn 1 rfl ?_
    refine wl (A := x11.made) 27 rfl (fun hA28 => ?_)
    refine lC (fun (p : Int × (List (List UInt8))) => (⟨[(3, (V.ptr 0 4 0 0)), (10, (V.own 1 (p.2).length)), (27, (V.lst 1 (x11.made.map encB))), (28, (iV ((x11.made.length : Nat) : Int))), (29, (iV (p.1)))], [(0, (Ob.arr 27 4 [(encTGraph a1)])), (1, (Ob.arr 9 1 ((p.2).map encS)))], 2⟩ : St)) (fun n (p : Int × (List (List UInt8))) => RG x11.made (fun tl nn => M19_L1 F a1 k13 tl nn p.2 = some r) n p.1) (fun p h => RG.zero h) (x11.made.length + 1) (0, ([] : List (List UInt8))) (RG.start h) (Ghost.trans (ghost_nilE 10 9 1 rfl) (ghost_ren 2 (fun i => ([0, 1] : List Nat).getD i 0) _ _ (by decide) (EnvSub.get (.cons (Sub.ptr rfl rfl) (.cons (Sub.ownE rfl rfl (by simp)) (.cons (Sub.imm (Imm.lst _ _)) (.cons (Sub.imm (Imm.con _)) (.cons (Sub.imm (Imm.con _)) .nil)))))) (HpSub.get (.cons rfl (ObSub.box (.cons (Sub.imm (Imm.lst _ _)) (.cons (Sub.imm (Imm.lst _ _)) (.cons (Sub.imm (Imm.lst _ _)) (.cons (Sub.imm (Imm.lst _ _)) .nil))))) (.cons rfl (ObSub.rows (rows_imm imms_encS)) .nil))) rfl)) (fun n p h => ?_)
    obtain ⟨n17, l18⟩ := p
    refine rn 5 rfl ?_
    refine spL rfl (fun hb19 => ?_) (fun hb19 => ?_)
    · obtain ⟨x20, tl, hx21, h, hk1⟩ := RG.t hA28 h hb19
      unfold M19_L1 at h
      refine rn 6 rfl ?_
      refine ixh hx21 rfl rfl ?_
      refine rn 8 rfl ?_
      refine jK h (fun (p : (List (List UInt8))) => (⟨[(3, (V.ptr 0 4 0 0)), (10, (V.own 1 p.length)), (27, (V.lst 1 (x11.made.map encB))), (28, (iV ((x11.made.length : Nat) : Int))), (29, (iV n17))], [(0, (Ob.arr 27 4 [(encTGraph a1)])), (1, (Ob.arr 9 1 (p.map encS)))], 2⟩ : St)) (fun k22 (p : (List (List UInt8))) => k22 p = some r) (fun k22 h => ?_) ?_
      · refine spC h rfl (fun hb24 h => ?_) (fun hb24 h => ?_)
        · refine rn 5 rfl ?_
          refine ixl h rfl rfl (fun x25 hx26 h => ?_)
          refine rn 2 rfl ?_
          refine aops_buildSlice [(0, (sV x25.Name))] [[(sV x25.Name)]] tEl25 tZ9 rfl rfl rfl rfl wants_none (evp_cons rfl evp_nil) rfl rfl (by simp) rfl ?_
          refine fo ?_
          refine apO encS h rfl rfl rfl rfl rfl rfl rfl rfl (fun h => ?_)
          refine rn 2 rfl ?_
          exact jX (l18 ++ ([x25.Name] : List (List UInt8))) h (gr [0, 3] rfl (hB rfl rfl rfl (hR rfl rfl .nil)) rfl)
        refine rn 1 rfl ?_
        exact jX l18 h (gr [0, 1] rfl (hB rfl rfl rfl (hR rfl rfl .nil)) rfl)
      intro l23 h
      refine rn 5 rfl ?_
      exact jX ((w64 (n17 + 1)), l23) (hk1 _ h) (gr [0, 1] rfl (hB rfl rfl rfl (hR rfl rfl .nil)) rfl)
    replace h := RG.f h hb19
    unfold M19_L1 at h
    refine rn 1 rfl ?_
    exact jX l18 h (gr [1] rfl (hR rfl rfl .nil) rfl)
  intro l14 h
  refine rn 6 rfl ?_
  refine awp_ghost (ghost_frzEs 0 [6, 10, 45] rfl (rows_imm imms_encS) (List.forall_mem_cons.2 ⟨rfl, (List.forall_mem_cons.2 ⟨rfl, (List.forall_mem_cons.2 ⟨rfl, (fun _ hx => nomatch hx)⟩)⟩)⟩) (List.length_map ..).symm) ?_
  refine fa ?_
  exact rt h rfl
theorem W20 (F : Nat) (a1 : TGraph) (a2 : Int) (a3 : (List (List UInt8))) (r : ((List (List UInt8)) × Int)) (h : M20 F a1 a2 a3 = some r) : Pure Try.prog 20 [(V.agg (encTGraph a1)), (iV a2), (V.lst 1 (a3.map encS))] (V.tup [(V.lst 1 ((r.1).map encS)), (iV (r.2))]) := by
  refine pin (fun r => (V.tup [(V.lst 1 ((r.1).map encS)), (iV (r.2))])) r rfl Try.func20 rfl rfl rfl rfl rfl (fun w0 m0 hg => ?_)
  unfold M20 at h
  refine rn 12 rfl ?_
  refine cl h rfl rfl rfl (W33 _ _ _ _ _) rfl (fun y4 hx5 h => ?_)
  refine rn 7 rfl ?_
  refine spC h rfl (fun hb6 h => ?_) (fun hb6 h => ?_)
  · refine rn 6 rfl ?_
    exact rt h rfl
  refine rn 5 rfl ?_
  refine cl h rfl rfl rfl (W35 _ _ _) rfl (fun y7 hx8 h => ?_)
  refine rn 1 rfl ?_
  refine cl h rfl rfl rfl (W36 _ _ _) rfl (fun y9 hx10 h => ?_)
  refine rn 1 rfl ?_
  refine cl h rfl rfl rfl (W34 _ _) rfl (fun y11 hx12 h => ?_)
  refine rn 3 rfl ?_
  exact rt h rfl
theorem W42 (F : Nat) (a1 : List (List UInt8)) (r : List (List UInt8)) (h : M42 F a1 = some r) : Mut Try.prog 42 [(V.own 0 a1.length)] 1 [(0, (Ob.arr 9 1 (a1.map encS)))] (resV []) 1 [(0, (Ob.arr 9 1 (r.map encS)))] := by
  unfold M42 at h
  by_cases hc : a1.length < 4611686018427387904
  · rw [if_pos hc] at h
    replace h := Option.some.inj h
    subst h
    exact (mut_sortStr a1 rfl (fun b off cap a w hH hb hc => Go.Proofs.Try.slices_Sort_string b off cap a w hH hb hc) (fun p w => Go.Proofs.Try.slices_Sort_string_none p 0 w) hc).heap hget_one
  · rw [if_neg hc] at h; simp at h
theorem W43 (F : Nat) (a1 : List (List UInt8)) (r : List (List UInt8)) (h : M43 F a1 = some r) : Mut Try.prog 43 [(V.own 0 a1.length)] 1 [(0, (Ob.arr 9 1 (a1.map encS)))] (resV [(V.own 0 r.length)]) 1 [(0, (Ob.arr 9 1 (r.map encS)))] := by
  unfold M43 at h
  by_cases hc : a1.length ≤ 140737488355328
  · rw [if_pos hc] at h
    replace h := Option.some.inj h
    subst h
    exact (mut_compactS str (fun _ => rfl) [] a1 rfl (fun b off cap a w hH h1 h2 => Go.Proofs.Try.slices_Compact_string b off cap a w hH h1 h2) (fun p w => Go.Proofs.Try.slices_Compact_string_empty p 0 w) hc).heap hget_one
  · rw [if_neg hc] at h; simp at h
theorem W21 (F : Nat) (a1 : TGraph) (a2 : Int) (a3 : (List (List UInt8))) (r : ((List (List UInt8)) × Int)) (h : M21 F a1 a2 a3 = some r) : Pure Try.prog 21 [(V.agg (encTGraph a1)), (iV a2), (V.lst 1 (a3.map encS))] (V.tup [(V.lst 1 ((r.1).map encS)), (iV (r.2))]) := by
  refine pin (fun r => (V.tup [(V.lst 1 ((r.1).map encS)), (iV (r.2))])) r rfl Try.func21 rfl rfl rfl rfl rfl (fun w0 m0 hg => ?_)
  unfold M21 at h
  refine rn 11 rfl ?_
  refine cl h rfl rfl rfl (W31 _ _ _ _) rfl (fun y4 hx5 h => ?_)
  refine rn 12 rfl ?_
  refine spC h rfl (fun hb6 h => ?_) (fun hb6 h => ?_)
  · refine rn 6 rfl ?_
    exact rt h rfl
  obtain ⟨x7, hx8, h⟩ := bind_some h
  refine rn 7 rfl ?_
  refine opC 8 hx8 rfl ?_
  refine rn 2 rfl ?_
  refine cl h rfl rfl rfl (W32 _ _ _) rfl (fun y9 hx10 h => ?_)
  obtain ⟨x11, hx12, h⟩ := bind_some h
  refine opO 24 hx12 rfl ?_
  refine rn 3 rfl ?_
  refine ln rfl rfl ?_
  refine rn 2 rfl ?_
  refine jK h (fun (p : (List (List UInt8))) => (⟨[(10, (V.own 0 p.length))], [(0, (Ob.arr 9 1 (p.map encS)))], 1⟩ : St)) (fun k13 (p : (List (List UInt8))) => k13 p = some r) (fun k13 h => ?_) ?_
  · refine rn 1 rfl ?_
    refine wl (A := x11.funcs) 27 rfl (fun hA28 => ?_)
    refine lC (fun (p : Int × (List (List UInt8))) => (⟨[(3, (V.ptr 0 4 0 0)), (10, (V.own 1 (p.2).length)), (27, (V.lst 1 (x11.funcs.map encB))), (28, (iV ((x11.funcs.length : Nat) : Int))), (29, (iV (p.1)))], [(0, (Ob.arr 27 4 [(encTGraph a1)])), (1, (Ob.arr 9 1 ((p.2).map encS)))], 2⟩ : St)) (fun n (p : Int × (List (List UInt8))) => RG x11.funcs (fun tl nn => M21_L1 F a1 k13 tl nn p.2 = some r) n p.1) (fun p h => RG.zero h) (x11.funcs.length + 1) (0, ([] : List (List UInt8))) (RG.start h) (Ghost.trans (ghost_nilE 10 9 1 rfl) (ghost_ren 2 (fun i => ([0, 1] : List Nat).getD i 0) _ _ (by decide) (EnvSub.get (.cons (Sub.ptr rfl rfl) (.cons (Sub.ownE rfl rfl (by simp)) (.cons (Sub.imm (Imm.lst _ _)) (.cons (Sub.imm (Imm.con _)) (.cons (Sub.imm (Imm.con _)) .nil)))))) (HpSub.get (.cons rfl (ObSub.box (.cons (Sub.imm (Imm.lst _ _)) (.cons (Sub.imm (Imm.lst _ _)) (.cons (Sub.imm (Imm.lst _ _)) (.cons (Sub.imm (Imm.lst _ _)) .nil))))) (.cons rfl (ObSub.rows (rows_imm imms_encS)) .nil))) rfl)) (fun n p h => ?_)
    obtain ⟨n17, l18⟩ := p
    refine rn 5 rfl ?_
    refine spL rfl (fun hb19 => ?_) (fun hb19 => ?_)
    · obtain ⟨x20, tl, hx21, h, hk1⟩ := RG.t hA28 h hb19
      unfold M21_L1 at h
      refine rn 6 rfl ?_
      refine ixh hx21 rfl rfl ?_
      refine rn 8 rfl ?_
      refine jK h (fun (p : (List (List UInt8))) => (⟨[(3, (V.ptr 0 4 0 0)), (10, (V.own 1 p.length)), (27, (V.lst 1 (x11.funcs.map encB))), (28, (iV ((x11.funcs.length : Nat) : Int))), (29, (iV n17))], [(0, (Ob.arr 27 4 [(encTGraph a1)])), (1, (Ob.arr 9 1 (p.map encS)))], 2⟩ : St)) (fun k22 (p : (List (List UInt8))) => k22 p = some r) (fun k22 h => ?_) ?_
      · refine spC h rfl (fun hb24 h => ?_) (fun hb24 h => ?_)
        · refine rn 5 rfl ?_
          refine ixl h rfl rfl (fun x25 hx26 h => ?_)
          refine rn 2 rfl ?_
          refine aops_buildSlice [(0, (sV x25.Component))] [[(sV x25.Component)]] tEl25 tZ9 rfl rfl rfl rfl wants_none (evp_cons rfl evp_nil) rfl rfl (by simp) rfl ?_
          refine fo ?_
          refine apO encS h rfl rfl rfl rfl rfl rfl rfl rfl (fun h => ?_)
          refine rn 2 rfl ?_
          exact jX (l18 ++ ([x25.Component] : List (List UInt8))) h (gr [0, 3] rfl (hB rfl rfl rfl (hR rfl rfl .nil)) rfl)
        refine rn 1 rfl ?_
        exact jX l18 h (gr [0, 1] rfl (hB rfl rfl rfl (hR rfl rfl .nil)) rfl)
      intro l23 h
      refine rn 5 rfl ?_
      exact jX ((w64 (n17 + 1)), l23) (hk1 _ h) (gr [0, 1] rfl (hB rfl rfl rfl (hR rfl rfl .nil)) rfl)
    replace h := RG.f h hb19
    unfold M21_L1 at h
    refine rn 1 rfl ?_
    exact jX l18 h (gr [1] rfl (hR rfl rfl .nil) rfl)
  intro l14 h
  obtain ⟨y29, hx30, h⟩ := bind_some h
  refine rn 3 rfl ?_
  refine ck h (fun hc31 h => ?_)
  refine aops_mcallS (V.tup []) [(V.own 0 l14.length)] (fun i => ([0] : List Nat).getD i 0) (fun i => ([0] : List Nat).getD i 0) 1 1 [(0, (Ob.arr 9 1 (y29.map encS)))] fOk42 wants_none rfl (evm_cons rfl evm_nil) (.cons (Sub.own rfl rfl) .nil) (.cons rfl (ObSub.rows (rows_imm imms_encS)) .nil) (W42 F l14 y29 hx30) rfl rfl rfl rfl (Sub.immT (Imm.tup .nil)) (.cons rfl (ObSub.rowsT (rows_imm imms_encS)) .nil) _ rfl ?_
  refine aops_ghost (ghost_tell 10 (V.own 0 y29.length) rfl (Sub.ownI hc31)) ?_
  refine aops_ghost (ghost_tell 45 (V.own 0 y29.length) rfl (Sub.ownI hc31)) ?_
  obtain ⟨y32, hx33, h⟩ := bind_some h
  refine fo (rn 4 rfl ?_)
  refine aops_mcallS (V.own 0 y32.length) [(V.own 0 y29.length)] (fun i => ([0] : List Nat).getD i 0) (fun i => ([0] : List Nat).getD i 0) 1 1 [(0, (Ob.arr 9 1 (y32.map encS)))] fOk43 wants_none rfl (evm_cons rfl evm_nil) (.cons (Sub.own rfl rfl) .nil) (.cons rfl (ObSub.rows (rows_imm imms_encS)) .nil) (W43 F y29 y32 hx33) rfl rfl rfl rfl (Sub.ownT rfl rfl) (.cons rfl (ObSub.rowsT (rows_imm imms_encS)) .nil) _ rfl ?_
  refine fo (rn 3 rfl ?_)
  refine awp_ghost (ghost_frzEs 0 [6, 48] rfl (rows_imm imms_encS) (List.forall_mem_cons.2 ⟨rfl, (List.forall_mem_cons.2 ⟨rfl, (fun _ hx => nomatch hx)⟩)⟩) (List.length_map ..).symm) ?_
  refine fa ?_
  exact rt h rfl
theorem W22 (F : Nat) (a1 : TGraph) (a2 : Int) (a3 : (List (List UInt8))) (r : ((List (List UInt8)) × Int)) (h : M22 F a1 a2 a3 = some r) : Pure Try.prog 22 [(V.agg (encTGraph a1)), (iV a2), (V.lst 1 (a3.map encS))] (V.tup [(V.lst 1 ((r.1).map encS)), (iV (r.2))]) := by
  refine pin (fun r => (V.tup [(V.lst 1 ((r.1).map encS)), (iV (r.2))])) r rfl Try.func22 rfl rfl rfl rfl rfl (fun w0 m0 hg => ?_)
  unfold M22 at h
  refine rn 12 rfl ?_
  refine cl h rfl rfl rfl (W33 _ _ _ _ _) rfl (fun y4 hx5 h => ?_)
  refine rn 7 rfl ?_
  refine spC h rfl (fun hb6 h => ?_) (fun hb6 h => ?_)
  · refine rn 6 rfl ?_
    exact rt h rfl
  refine rn 5 rfl ?_
  refine cl h rfl rfl rfl (W35 _ _ _) rfl (fun y7 hx8 h => ?_)
  refine rn 13 rfl ?_
  refine cl h rfl rfl rfl (W36 _ _ _) rfl (fun y9 hx10 h => ?_)
  refine rn 1 rfl ?_
  refine aops_range tMap72 wants_none rfl rfl ?_
  refine fo (rn 2 rfl ?_)
  refine lC (fun (p : (List ((List UInt8) × Bool)) × (List ((List UInt8) × Bool))) => (⟨[(9, (V.ptr 0 6 0 0)), (10, (V.map 1)), (27, (V.ptr 2 1 0 0))], [(0, (Ob.arr 78 6 [(encTprovenderref6_net y7)])), (1, (Ob.map ((p.1).map encM9_4))), (2, (Ob.iter [] ((p.2).map encM9_4)))], 3⟩ : St)) (fun n (p : (List ((List UInt8) × Bool)) × (List ((List UInt8) × Bool))) => RM n p.2 (M22_L1 F y7 p.2 p.1 = some r)) (fun p h => RM.zero h) (y9.reached.length + 1) (([] : List ((List UInt8) × Bool)), y9.reached) (RM.start h) (gr [1, 2, 3] rfl (hB rfl rfl rfl (hM rfl rfl (hI rfl rfl .nil))) rfl) (fun n p h => ?_)
  obtain ⟨m13, l14⟩ := p
  refine rn 2 rfl ?_
  refine nxt rfl rfl wants_none rfl (fun hl1 => ?_) (fun e15 l16 hq1 hp1 => ?_)
  · replace h := h.2
    subst hl1
    unfold M22_L1 at h
    obtain ⟨y17, hx18, h⟩ := bind_some h
    refine rn 8 rfl ?_
    refine aops_ghost (ghost_frzMx (es := m13.map encM9_4) 1 rfl encM9_4_imm (.put (t := 38) rfl Sub.frzM (.put (t := 10) rfl Sub.frzM .refl)) .refl) ?_
    refine aops_call (V.lst 1 (y17.map encS)) [(V.imap (m13.map encM9_4))] fOk34 wants_none (evm_cons rfl evm_nil) (.cons (Imm.imap _) .nil) (W34 F m13 y17 hx18) rfl ?_
    refine fo (rn 3 rfl ?_)
    exact rt h rfl
  have hm1 := h
  replace h := ord_M22_L1 hp1 h.2
  unfold M22_L1 at h
  refine rn 8 rfl ?_
  refine aops_entry wants_none rfl rfl rfl ?_
  refine fo (rn 8 rfl ?_)
  refine aops_lookup _ (V.agg [(sV ([] : List UInt8)), (sV ([] : List UInt8)), (V.lst 4 (([] : List TCall).map encTCall)), (V.lst 1 (([] : List (List UInt8)).map encS))]) (V.agg (encTFunc ((mget y7.funcs e15.1).getD (TFunc.mk ([] : List UInt8) ([] : List UInt8) ([] : (List TCall)) ([] : (List (List UInt8))))))) tMap76 tKey9 tZo69 (irel_aggZ (.con (.con (.sl (.sl .nil))))) wants_none rfl .imm (.con rfl) ⟨_, rfl⟩ encM9_69_good (encM9_69_look y7.funcs e15.1) (getD_map (encM9_69_val) (mget y7.funcs e15.1) (TFunc.mk ([] : List UInt8) ([] : List UInt8) ([] : (List TCall)) ([] : (List (List UInt8))))) rfl ?_
  refine fo (rn 1 rfl ?_)
  refine aops_mapUpdate (es := m13.map encM9_4) ((mput m13 ((mget y7.funcs e15.1).getD (TFunc.mk ([] : List UInt8) ([] : List UInt8) ([] : (List TCall)) ([] : (List (List UInt8))))).Component true).map encM9_4) tMap72 tKey9 wants_none rfl rfl (.con rfl) ⟨_, rfl⟩ encM9_4_good rfl (encM9_4_puts m13 (((mget y7.funcs e15.1).getD (TFunc.mk ([] : List UInt8) ([] : List UInt8) ([] : (List TCall)) ([] : (List (List UInt8))))).Component) true) ?_
  refine aops_ghost (ghost_permM 1 rfl (canonM_map encM9_4 (mput m13 ((mget y7.funcs e15.1).getD (TFunc.mk ([] : List UInt8) ([] : List UInt8) ([] : (List TCall)) ([] : (List (List UInt8))))).Component true))) ?_
  refine fo (rn 2 rfl ?_)
  exact jX ((canonM (mput m13 ((mget y7.funcs e15.1).getD (TFunc.mk ([] : List UInt8) ([] : List UInt8) ([] : (List TCall)) ([] : (List (List UInt8))))).Component true)), l16) (RM.step hm1 hq1 h) (gr [0, 1, 2] rfl (hB rfl rfl rfl (hM rfl rfl (hI rfl rfl .nil))) rfl)
theorem W15 (F : Nat) (a1 : (List (List UInt8))) (a2 : (List (List UInt8))) (r : Bool) (h : M15 F a1 a2 = some r) : Pure Try.prog 15 [(V.lst 1 (a1.map encS)), (V.lst 1 (a2.map encS))] (bV r) := by
  refine pin (fun r => (bV r)) r rfl Try.func15 rfl rfl rfl rfl rfl (fun w0 m0 hg => ?_)
  unfold M15 at h
  refine rn 8 rfl ?_
  refine ln rfl rfl ?_
  refine rn 1 rfl ?_
  refine ln rfl rfl ?_
  refine rn 2 rfl ?_
  refine spC h rfl (fun hb3 h => ?_) (fun hb3 h => ?_)
  · refine rn 4 rfl ?_
    exact rt h rfl
  refine rn 5 rfl ?_
  refine ln rfl rfl ?_
  refine rn 2 rfl ?_
  refine jK h (fun _ : Unit => (⟨[], [], 0⟩ : St)) (fun k4 (_ : Unit) => k4 = some r) (fun k4 h => ?_) ?_
  · refine rn 1 rfl ?_
    refine wl (A := a1) 0 rfl (fun hA13 => ?_)
    refine lC (fun (p : Int) => (⟨[(0, (V.lst 1 (a1.map encS))), (1, (V.lst 1 (a2.map encS))), (12, (iV ((a1.length : Nat) : Int))), (13, (iV p))], [], 0⟩ : St)) (fun n (p : Int) => RG a1 (fun tl nn => M15_L1 F a2 k4 tl nn = some r) n p) (fun p h => RG.zero h) (a1.length + 1) 0 (RG.start h) (g0 rfl rfl) (fun n n6 h => ?_)
    refine rn 5 rfl ?_
    refine spL rfl (fun hb7 => ?_) (fun hb7 => ?_)
    · obtain ⟨x8, tl, hx9, h, hk1⟩ := RG.t hA13 h hb7
      unfold M15_L1 at h
      obtain ⟨x10, hx11, h⟩ := bind_some h
      refine rn 9 rfl ?_
      refine dr mixed (vs 2 rfl (iD hx9 rfl rfl rfl (vs 3 rfl (iD hx11 rfl rfl rfl (vs 2 rfl .nil))))) (by kernel_rfl) ?_
      refine spC h rfl (fun hb12 h => ?_) (fun hb12 h => ?_)
      · refine rn 4 rfl ?_
        exact rt h rfl
      refine rn 6 rfl ?_
      exact jX (w64 (n6 + 1)) (hk1 _ h) (g0 rfl rfl)
    replace h := RG.f h hb7
    unfold M15_L1 at h
    refine rn 1 rfl ?_
    exact jX () h (g0 rfl rfl)
  intro _ h
  refine rn 4 rfl ?_
  exact rt h rfl
theorem W5 (F : Nat) (a1 : TGraph) (a2 : Int) (a3 : (List (List UInt8))) (r : Bool) (h : M5 F a1 a2 a3 = some r) : Pure Try.prog 5 [(V.agg (encTGraph a1)), (iV a2), (V.lst 1 (a3.map encS))] (bV r) := by
  refine pin (fun r => (bV r)) r rfl Try.func5 rfl rfl rfl rfl rfl (fun w0 m0 hg => ?_)
  unfold M5 at h
  refine rn 10 rfl ?_
  refine cl h rfl rfl rfl (W9 _ _ _ _) rfl (fun y4 hx5 h => ?_)
  refine rn 11 rfl ?_
  refine cl h rfl rfl rfl (W10 _ _ _ _) rfl (fun y6 hx7 h => ?_)
  refine rn 11 rfl ?_
  refine cl h rfl rfl rfl (W19 _ _ _ _) rfl (fun y8 hx9 h => ?_)
  refine rn 11 rfl ?_
  refine cl h rfl rfl rfl (W20 _ _ _ _) rfl (fun y10 hx11 h => ?_)
  refine rn 11 rfl ?_
  refine cl h rfl rfl rfl (W21 _ _ _ _) rfl (fun y12 hx13 h => ?_)
  refine rn 11 rfl ?_
  refine cl h rfl rfl rfl (W22 _ _ _ _) rfl (fun y14 hx15 h => ?_)
  refine rn 10 rfl ?_
  refine cl h rfl rfl rfl (W15 _ _ _) rfl (fun y16 hx17 h => ?_)
  refine rn 1 rfl ?_
  refine spO 64 h rfl (fun hb18 h => ?_) (fun hb18 h => ?_)
  · refine rn 5 rfl ?_
    refine spO 69 h rfl (fun hb19 h => ?_) (fun hb19 h => ?_)
    · refine rn 2 rfl ?_
      refine cl h rfl rfl rfl (W15 _ _ _) rfl (fun y20 hx21 h => ?_)
      refine rn 2 rfl ?_
      refine spO 74 h rfl (fun hb22 h => ?_) (fun hb22 h => ?_)
      · refine rn 5 rfl ?_
        refine spO 79 h rfl (fun hb23 h => ?_) (fun hb23 h => ?_)
        · refine rn 2 rfl ?_
          refine cl h rfl rfl rfl (W15 _ _ _) rfl (fun y24 hx25 h => ?_)
          refine rn 2 rfl ?_
          refine spO 84 h rfl (fun hb26 h => ?_) (fun hb26 h => ?_)
          · refine rn 5 rfl ?_
            refine spO 89 h rfl (fun hb27 h => ?_) (fun hb27 h => ?_)
            · refine cl h rfl rfl rfl (W11 _) rfl (fun y28 hx29 h => ?_)
              refine rn 3 rfl ?_
              exact rt h rfl
            refine rn 4 rfl ?_
            exact rt h rfl
          refine rn 9 rfl ?_
          exact rt h rfl
        refine rn 14 rfl ?_
        exact rt h rfl
      refine rn 19 rfl ?_
      exact rt h rfl
    refine rn 24 rfl ?_
    exact rt h rfl
  refine rn 29 rfl ?_
  exact rt h rfl
end Go.Proofs.Ytpbkggamiipdmaa
