/- Part of the proof: Z5W5b. -/
import Derived.Test.YtpbkggamiipdmaaGreatS5Z5OrdA
import Derived.Test.YtpbkggamiipdmaaGreatS5Z5Sh
import Derived.Test.YtpbkggamiipdmaaGreatS5ZP5
import Derived.Test.YtpbkggamiipdmaaGreatS5Z5W5a
import Derived.KernelRfl
namespace Go.Proofs.YtpbkggamiipdmaaGreat
open Go Go.Pv
set_option linter.unusedVariables false
set_option maxRecDepth 100000
theorem W84 (F : Nat) (a1 : Tprovenderref6_net) (a2 : (List UInt8)) (a3 : (List UInt8)) (r : TSummary) (h : M84 F a1 a2 a3 = some r) : Pure Tryz.prog 84 [(V.agg (encTprovenderref6_net a1)), (sV a2), (sV a3)] (V.agg (encTSummary r)) := by
 refine pin (fun r => (V.agg (encTSummary r))) r rfl Tryz.func84 rfl rfl rfl rfl rfl (fun w0 m0 hg => ?_)
 unfold M84 at h
 refine rn 9 rfl ?_
 refine aops_insert (es := ([] : List ((List UInt8) × Bool)).map encM9_4) ((mput ([] : List ((List UInt8) × Bool)) a2 true).map encM9_4) tMap89 tKey9 wants_none rfl rfl (.con rfl) ⟨_, rfl⟩ encM9_4_good rfl (encM9_4_puts ([] : List ((List UInt8) × Bool)) a2 true) ?_
 refine fo (rn 6 rfl ?_)
 refine aops_buildSlice [(0, (sV a2))] [[(sV a2)]] tEl25 tZ9 rfl rfl rfl rfl wants_none (evp_cons rfl evp_nil) rfl rfl (by simp) rfl ?_
 refine fo (rn 12 rfl ?_)
 refine jK h (fun (p : (List ((List UInt8) × Bool)) × (List (TOuter × Bool))) => (⟨[(1, (sV a2)), (6, (V.ptr 0 3 0 0)), (7, (V.map 1)), (9, (V.map 2))], [(0, (Ob.arr 45 3 [[(sV ([] : List UInt8)), nV, nV]])), (1, (Ob.map ((p.1).map encM9_4))), (2, (Ob.map ((p.2).map encM160_4)))], 3⟩ : St)) (fun k4 p => k4 p.1 p.2 = some r) (fun k4 h => ?_) ?_
 ·refine rn 1 rfl ?_
  refine lC (fun (p : Int × (List ((List UInt8) × Bool)) × (List (List UInt8)) × (List (TOuter × Bool))) => (⟨[(1, (sV a2)), (2, (sV a3)), (3, (V.ptr 0 6 0 0)), (6, (V.ptr 1 3 0 0)), (7, (V.map 2)), (8, (V.own 3 (p.2.2.1).length)), (9, (V.map 4)), (10, (iV (p.1)))], [(0, (Ob.arr 155 6 [(encTprovenderref6_net a1)])), (1, (Ob.arr 45 3 [[(sV ([] : List UInt8)), nV, nV]])), (2, (Ob.map ((p.2.1).map encM9_4))), (3, (Ob.arr 9 1 ((p.2.2.1).map encS))), (4, (Ob.map ((p.2.2.2).map encM160_4)))], 5⟩ : St)) (fun n p => M84_L1 F a1 a3 k4 n p.1 p.2.1 p.2.2.1 p.2.2.2 = some r) (fun p h => by simp [M84_L1] at h) F (0, (mput ([] : List ((List UInt8) × Bool)) a2 true), ([a2] : List (List UInt8)), ([] : List (TOuter × Bool))) h (ghost_ren 5 (fun i => ([0, 1, 2, 3, 4] : List Nat).getD i 0) _ _ (by decide) (EnvSub.get (.cons (Sub.imm (Imm.con _)) (.cons (Sub.imm (Imm.con _)) (.cons (Sub.ptr rfl rfl) (.cons (Sub.ptr rfl rfl) (.cons (Sub.map rfl rfl) (.cons (Sub.ownE rfl rfl (by simp)) (.cons (Sub.map rfl rfl) (.cons (Sub.imm (Imm.con _)) .nil))))))))) (HpSub.get (.cons rfl (ObSub.box (.cons (Sub.imm (Imm.lst _ _)) (.cons (Sub.imm (Imm.lst _ _)) (.cons (Sub.imm (Imm.lst _ _)) (.cons (Sub.imm (Imm.lst _ _)) (.cons (Sub.imm (Imm.imap _)) (.cons (Sub.imm (Imm.imap _)) .nil))))))) (.cons rfl (ObSub.box (.cons (Sub.imm (Imm.con _)) (.cons (Sub.imm (Imm.con _)) (.cons (Sub.imm (Imm.con _)) .nil)))) (.cons rfl (ObSub.maps encM9_4_imm) (.cons rfl (ObSub.rows (rows_imm imms_encS)) (.cons rfl (ObSub.maps encM160_4_imm) .nil)))))) rfl) (fun n p h => ?_)
  obtain ⟨n11, m12, l13, m14⟩ := p
  unfold M84_L1 at h
  refine rn 8 rfl ?_
  refine spC h rfl (fun hb15 h => ?_) (fun hb15 h => ?_)
  ·refine rn 2 rfl ?_
   refine jK h (fun (p : (List ((List UInt8) × Bool)) × (List (List UInt8)) × (List (TOuter × Bool))) => (⟨[(1, (sV a2)), (2, (sV a3)), (3, (V.ptr 0 6 0 0)), (6, (V.ptr 1 3 0 0)), (7, (V.map 2)), (8, (V.own 3 (p.2.1).length)), (9, (V.map 4)), (10, (iV n11))], [(0, (Ob.arr 155 6 [(encTprovenderref6_net a1)])), (1, (Ob.arr 45 3 [[(sV ([] : List UInt8)), nV, nV]])), (2, (Ob.map ((p.1).map encM9_4))), (3, (Ob.arr 9 1 ((p.2.1).map encS))), (4, (Ob.map ((p.2.2).map encM160_4)))], 5⟩ : St)) (fun k16 p => k16 p.1 p.2.1 p.2.2 = some r) (fun k16 h => ?_) ?_
   ·obtain ⟨x20, hx21, h⟩ := bind_some h
    refine rn 2 rfl ?_
    refine dr mixed (vs 4 rfl (oD (a := l13) hx21 rfl rfl rfl rfl (lD hx21 rfl rfl rfl rfl rfl (xD (OD.mk [(32, (V.imap (a1.links.map encM9_212))), (36, (sV x20))] [] [(37, (V.lst 3 (((mget a1.links x20).getD ([] : (List Tprovenderref6_link))).map encTprovenderref6_link)))] []) ⟨⟨rfl, rfl, trivial⟩, trivial⟩ (by exact fun S hn h hh => aops_lookup _ (V.lst 3 (([] : (List Tprovenderref6_link)).map encTprovenderref6_link)) (V.lst 3 (((mget a1.links x20).getD ([] : (List Tprovenderref6_link))).map encTprovenderref6_link)) tMap152 tKey9 tZo212 (fun _ => .nil _ _ _) wants_none h.1 .imm (.con h.2.1) ⟨_, rfl⟩ encM9_212_good (encM9_212_look a1.links x20) (getD_map (encM9_212_val) (mget a1.links x20) ([] : (List Tprovenderref6_link))) rfl (aops_nil ⟨rfl, rfl⟩)) rfl (nD rfl rfl rfl (vs 1 rfl .nil)))))) (by kernel_rfl) ?_
    refine jK h (fun (p : (List ((List UInt8) × Bool)) × (List (List UInt8)) × (List (TOuter × Bool))) => (⟨[(1, (sV a2)), (2, (sV a3)), (3, (V.ptr 0 6 0 0)), (6, (V.ptr 1 3 0 0)), (7, (V.map 2)), (8, (V.own 3 (p.2.1).length)), (9, (V.map 4)), (10, (iV n11))], [(0, (Ob.arr 155 6 [(encTprovenderref6_net a1)])), (1, (Ob.arr 45 3 [[(sV ([] : List UInt8)), nV, nV]])), (2, (Ob.map ((p.1).map encM9_4))), (3, (Ob.arr 9 1 ((p.2.1).map encS))), (4, (Ob.map ((p.2.2).map encM160_4)))], 5⟩ : St)) (fun k22 p => k22 p.1 p.2.1 p.2.2 = some r) (fun k22 h => ?_) ?_
    ·refine rn 1 rfl ?_
     refine wl (A := ((mget a1.links x20).getD ([] : (List Tprovenderref6_link)))) 37 rfl (fun hA77 => ?_)
     refine lC (fun (p : Int × (List ((List UInt8) × Bool)) × (List (List UInt8)) × (List (TOuter × Bool))) => (⟨[(1, (sV a2)), (2, (sV a3)), (3, (V.ptr 0 6 0 0)), (6, (V.ptr 1 3 0 0)), (7, (V.map 2)), (8, (V.own 3 (p.2.2.1).length)), (9, (V.map 4)), (10, (iV n11)), (37, (V.lst 3 (((mget a1.links x20).getD ([] : (List Tprovenderref6_link))).map encTprovenderref6_link))), (38, (iV ((((mget a1.links x20).getD ([] : (List Tprovenderref6_link))).length : Nat) : Int))), (39, (iV (p.1)))], [(0, (Ob.arr 155 6 [(encTprovenderref6_net a1)])), (1, (Ob.arr 45 3 [[(sV ([] : List UInt8)), nV, nV]])), (2, (Ob.map ((p.2.1).map encM9_4))), (3, (Ob.arr 9 1 ((p.2.2.1).map encS))), (4, (Ob.map ((p.2.2.2).map encM160_4)))], 5⟩ : St)) (fun n p => RG ((mget a1.links x20).getD ([] : (List Tprovenderref6_link))) (fun tl nn => M84_L2 F a1 a3 n11 k22 tl p.2.1 p.2.2.1 p.2.2.2 = some r) n p.1) (fun p h => RG.zero h) (((mget a1.links x20).getD ([] : (List Tprovenderref6_link))).length + 1) (0, m12, l13, m14) (RG.start h) (gr [0, 1, 2, 3, 4] rfl (hB rfl rfl rfl (hB rfl rfl rfl (hM rfl rfl (hR rfl rfl (hM rfl rfl .nil))))) rfl) (fun n p h => ?_)
     obtain ⟨n30, m31, l32, m33⟩ := p
     refine rn 5 rfl ?_
     refine spL rfl (fun hb34 => ?_) (fun hb34 => ?_)
     ·obtain ⟨x39, tl, hx40, h, hk2⟩ := RG.t hA77 h hb34
      unfold M84_L2 at h
      refine rn 2 rfl ?_
      refine jK h (fun (p : (List ((List UInt8) × Bool)) × (List (List UInt8)) × (List (TOuter × Bool))) => (⟨[(1, (sV a2)), (2, (sV a3)), (3, (V.ptr 0 6 0 0)), (6, (V.ptr 1 3 0 0)), (7, (V.map 2)), (8, (V.own 3 (p.2.1).length)), (9, (V.map 4)), (10, (iV n11)), (37, (V.lst 3 (((mget a1.links x20).getD ([] : (List Tprovenderref6_link))).map encTprovenderref6_link))), (38, (iV ((((mget a1.links x20).getD ([] : (List Tprovenderref6_link))).length : Nat) : Int))), (39, (iV n30))], [(0, (Ob.arr 155 6 [(encTprovenderref6_net a1)])), (1, (Ob.arr 45 3 [[(sV ([] : List UInt8)), nV, nV]])), (2, (Ob.map ((p.1).map encM9_4))), (3, (Ob.arr 9 1 ((p.2.1).map encS))), (4, (Ob.map ((p.2.2).map encM160_4)))], 5⟩ : St)) (fun k35 p => k35 p.1 p.2.1 p.2.2 = some r) (fun k35 h => ?_) ?_
      ·refine rn 3 rfl ?_
       refine ixh hx40 rfl rfl ?_
       obtain ⟨x41, hx42, h⟩ := bind_some h
       obtain ⟨x43, hx44, h⟩ := bind_some h
       refine rn 5 rfl ?_
       refine awp_ghost ghost_res ?_
       refine fa ?_
       refine dr mixed (vs 4 rfl (oD (a := l32) hx42 rfl rfl rfl rfl (lD hx42 rfl rfl rfl rfl rfl (xD (OD.mk [(44, (V.imap (a1.funcs.map encM9_94))), (48, (sV x41))] [] [(49, (V.agg (encTFunc ((mget a1.funcs x41).getD (TFunc.mk ([] : List UInt8) ([] : List UInt8) ([] : (List TCall)) ([] : (List (List UInt8))))))))] []) ⟨⟨rfl, rfl, trivial⟩, trivial⟩ (by exact fun S hn h hh => aops_lookup _ (V.agg [(sV ([] : List UInt8)), (sV ([] : List UInt8)), (V.lst 4 (([] : List TCall).map encTCall)), (V.lst 1 (([] : List (List UInt8)).map encS))]) (V.agg (encTFunc ((mget a1.funcs x41).getD (TFunc.mk ([] : List UInt8) ([] : List UInt8) ([] : (List TCall)) ([] : (List (List UInt8))))))) tMap153 tKey9 tZo94 (irel_aggZ (.con (.con (.sl (.sl .nil))))) wants_none h.1 .imm (.con h.2.1) ⟨_, rfl⟩ encM9_94_good (encM9_94_look a1.funcs x41) (getD_map (encM9_94_val) (mget a1.funcs x41) (TFunc.mk ([] : List UInt8) ([] : List UInt8) ([] : (List TCall)) ([] : (List (List UInt8))))) rfl (aops_nil ⟨rfl, rfl⟩)) rfl (vs 4 rfl (iD hx44 rfl rfl rfl (vs 1 rfl (xD (OD.mk [] [(6, Ob.res)] [(13, (V.ptr 6 4 0 0))] [(6, (Ob.arr 109 4 [[(iV 0), (sV ([] : List UInt8)), (sV ([] : List UInt8)), (sV ([] : List UInt8))]]))]) ⟨trivial, ⟨rfl, trivial⟩⟩ (by exact fun S hn h hh => aops_alloc_at 6 rfl hn hh.1 tZ109 rfl rfl wants_none rfl (aops_nil ⟨rfl, rfl⟩)) rfl (vs 1 rfl .nil))))))))) (by kernel_rfl) ?_
       refine rn 7 rfl ?_
       refine jK h (fun (p : (List (TOuter × Bool))) => (⟨[(1, (sV a2)), (2, (sV a3)), (3, (V.ptr 0 6 0 0)), (6, (V.ptr 1 3 0 0)), (7, (V.map 2)), (8, (V.own 3 l32.length)), (9, (V.map 4)), (10, (iV n11)), (12, (V.ptr 5 3 0 0)), (37, (V.lst 3 (((mget a1.links x20).getD ([] : (List Tprovenderref6_link))).map encTprovenderref6_link))), (38, (iV ((((mget a1.links x20).getD ([] : (List Tprovenderref6_link))).length : Nat) : Int))), (39, (iV n30))], [(0, (Ob.arr 155 6 [(encTprovenderref6_net a1)])), (1, (Ob.arr 45 3 [[(sV ([] : List UInt8)), nV, nV]])), (2, (Ob.map (m31.map encM9_4))), (3, (Ob.arr 9 1 (l32.map encS))), (4, (Ob.map (p.map encM160_4))), (5, (Ob.arr 219 3 [(encTprovenderref6_link x39)]))], 6⟩ : St)) (fun k45 p => k45 p = some r) (fun k45 h => ?_) ?_
       ·refine spC h rfl (fun hb47 h => ?_) (fun hb47 h => ?_)
        ·refine rn 7 rfl ?_
         refine aops_mapUpdate (es := m33.map encM160_4) ((mput m33 (TOuter.mk x43.Target x43.Method) true).map encM160_4) tMap247 tKey160 wants_none rfl rfl (.agg (cv160 (TOuter.mk x43.Target x43.Method)) rfl) ⟨_, rfl⟩ encM160_4_good rfl (encM160_4_puts m33 (TOuter.mk x43.Target x43.Method) true) ?_
         refine fo (rn 1 rfl ?_)
         exact jX (mput m33 (TOuter.mk x43.Target x43.Method) true) h (gr [0, 1, 2, 3, 4, 5] rfl (hB rfl rfl rfl (hB rfl rfl rfl (hM rfl rfl (hR rfl rfl (hM rfl rfl (hB rfl rfl rfl .nil)))))) rfl)
        refine rn 1 rfl ?_
        exact jX m33 h (gr [0, 1, 2, 3, 4, 5] rfl (hB rfl rfl rfl (hB rfl rfl rfl (hM rfl rfl (hR rfl rfl (hM rfl rfl (hB rfl rfl rfl .nil)))))) rfl)
       intro m46 h
       refine rn 4 rfl ?_
       refine ln rfl rfl ?_
       refine rn 2 rfl ?_
       refine jK h (fun (p : (List ((List UInt8) × Bool)) × (List (List UInt8)) × (List (TOuter × Bool))) => (⟨[(1, (sV a2)), (2, (sV a3)), (3, (V.ptr 0 6 0 0)), (6, (V.ptr 1 3 0 0)), (7, (V.map 2)), (8, (V.own 3 (p.2.1).length)), (9, (V.map 4)), (10, (iV n11)), (37, (V.lst 3 (((mget a1.links x20).getD ([] : (List Tprovenderref6_link))).map encTprovenderref6_link))), (38, (iV ((((mget a1.links x20).getD ([] : (List Tprovenderref6_link))).length : Nat) : Int))), (39, (iV n30))], [(0, (Ob.arr 155 6 [(encTprovenderref6_net a1)])), (1, (Ob.arr 45 3 [[(sV ([] : List UInt8)), nV, nV]])), (2, (Ob.map ((p.1).map encM9_4))), (3, (Ob.arr 9 1 ((p.2.1).map encS))), (4, (Ob.map ((p.2.2).map encM160_4)))], 5⟩ : St)) (fun k48 p => k48 p.1 p.2.1 p.2.2 = some r) (fun k48 h => ?_) ?_
       ·refine rn 1 rfl ?_
        refine wl (A := x39.aims) 66 rfl (fun hA76 => ?_)
        refine lC (fun (p : Int × (List ((List UInt8) × Bool)) × (List (List UInt8)) × (List (TOuter × Bool))) => (⟨[(1, (sV a2)), (2, (sV a3)), (3, (V.ptr 0 6 0 0)), (6, (V.ptr 1 3 0 0)), (7, (V.map 2)), (8, (V.own 3 (p.2.2.1).length)), (9, (V.map 4)), (10, (iV n11)), (37, (V.lst 3 (((mget a1.links x20).getD ([] : (List Tprovenderref6_link))).map encTprovenderref6_link))), (38, (iV ((((mget a1.links x20).getD ([] : (List Tprovenderref6_link))).length : Nat) : Int))), (39, (iV n30)), (66, (V.lst 2 (x39.aims.map encTprovenderref6_aim))), (67, (iV ((x39.aims.length : Nat) : Int))), (68, (iV (p.1)))], [(0, (Ob.arr 155 6 [(encTprovenderref6_net a1)])), (1, (Ob.arr 45 3 [[(sV ([] : List UInt8)), nV, nV]])), (2, (Ob.map ((p.2.1).map encM9_4))), (3, (Ob.arr 9 1 ((p.2.2.1).map encS))), (4, (Ob.map ((p.2.2.2).map encM160_4)))], 5⟩ : St)) (fun n p => RG x39.aims (fun tl nn => M84_L3 F a1 a3 k48 tl p.2.1 p.2.2.1 p.2.2.2 = some r) n p.1) (fun p h => RG.zero h) (x39.aims.length + 1) (0, m31, l32, m46) (RG.start h) (gr [0, 1, 2, 3, 4] rfl (hB rfl rfl rfl (hB rfl rfl rfl (hM rfl rfl (hR rfl rfl (hM rfl rfl .nil))))) rfl) (fun n p h => ?_)
        obtain ⟨n56, m57, l58, m59⟩ := p
        refine rn 5 rfl ?_
        refine spL rfl (fun hb60 => ?_) (fun hb60 => ?_)
        ·obtain ⟨x65, tl, hx66, h, hk3⟩ := RG.t hA76 h hb60
         unfold M84_L3 at h
         refine rn 2 rfl ?_
         refine jK h (fun (p : (List ((List UInt8) × Bool)) × (List (List UInt8)) × (List (TOuter × Bool))) => (⟨[(1, (sV a2)), (2, (sV a3)), (3, (V.ptr 0 6 0 0)), (6, (V.ptr 1 3 0 0)), (7, (V.map 2)), (8, (V.own 3 (p.2.1).length)), (9, (V.map 4)), (10, (iV n11)), (37, (V.lst 3 (((mget a1.links x20).getD ([] : (List Tprovenderref6_link))).map encTprovenderref6_link))), (38, (iV ((((mget a1.links x20).getD ([] : (List Tprovenderref6_link))).length : Nat) : Int))), (39, (iV n30)), (66, (V.lst 2 (x39.aims.map encTprovenderref6_aim))), (67, (iV ((x39.aims.length : Nat) : Int))), (68, (iV n56))], [(0, (Ob.arr 155 6 [(encTprovenderref6_net a1)])), (1, (Ob.arr 45 3 [[(sV ([] : List UInt8)), nV, nV]])), (2, (Ob.map ((p.1).map encM9_4))), (3, (Ob.arr 9 1 ((p.2.1).map encS))), (4, (Ob.map ((p.2.2).map encM160_4)))], 5⟩ : St)) (fun k61 p => k61 p.1 p.2.1 p.2.2 = some r) (fun k61 h => ?_) ?_
         ·refine rn 3 rfl ?_
          refine ixh hx66 rfl rfl ?_
          refine rn 11 rfl ?_
          refine aops_lookup _ (V.agg [(sV ([] : List UInt8)), (sV ([] : List UInt8)), (V.lst 4 (([] : List TCall).map encTCall)), (V.lst 1 (([] : List (List UInt8)).map encS))]) (V.agg (encTFunc ((mget a1.funcs x65.to).getD (TFunc.mk ([] : List UInt8) ([] : List UInt8) ([] : (List TCall)) ([] : (List (List UInt8))))))) tMap153 tKey9 tZo94 (irel_aggZ (.con (.con (.sl (.sl .nil))))) wants_none rfl .imm (.con rfl) ⟨_, rfl⟩ encM9_94_good (encM9_94_look a1.funcs x65.to) (getD_map (encM9_94_val) (mget a1.funcs x65.to) (TFunc.mk ([] : List UInt8) ([] : List UInt8) ([] : (List TCall)) ([] : (List (List UInt8))))) rfl ?_
          refine fo (rn 4 rfl ?_)
          refine spC h rfl (fun hb67 h => ?_) (fun hb67 h => ?_)
          ·refine rn 7 rfl ?_
           refine jK h (fun (p : (List (TOuter × Bool))) => (⟨[(1, (sV a2)), (2, (sV a3)), (3, (V.ptr 0 6 0 0)), (6, (V.ptr 1 3 0 0)), (7, (V.map 2)), (8, (V.own 3 l58.length)), (9, (V.map 4)), (10, (iV n11)), (37, (V.lst 3 (((mget a1.links x20).getD ([] : (List Tprovenderref6_link))).map encTprovenderref6_link))), (38, (iV ((((mget a1.links x20).getD ([] : (List Tprovenderref6_link))).length : Nat) : Int))), (39, (iV n30)), (66, (V.lst 2 (x39.aims.map encTprovenderref6_aim))), (67, (iV ((x39.aims.length : Nat) : Int))), (68, (iV n56))], [(0, (Ob.arr 155 6 [(encTprovenderref6_net a1)])), (1, (Ob.arr 45 3 [[(sV ([] : List UInt8)), nV, nV]])), (2, (Ob.map (m57.map encM9_4))), (3, (Ob.arr 9 1 (l58.map encS))), (4, (Ob.map (p.map encM160_4)))], 5⟩ : St)) (fun k68 p => k68 p = some r) (fun k68 h => ?_) ?_
           ·refine spC h rfl (fun hb70 h => ?_) (fun hb70 h => ?_)
            ·refine rn 5 rfl ?_
             refine aops_mapUpdate (es := m59.map encM160_4) ((mput m59 (TOuter.mk x65.to ([] : List UInt8)) true).map encM160_4) tMap247 tKey160 wants_none rfl rfl (.agg (cv160 (TOuter.mk x65.to ([] : List UInt8))) rfl) ⟨_, rfl⟩ encM160_4_good rfl (encM160_4_puts m59 (TOuter.mk x65.to ([] : List UInt8)) true) ?_
             refine fo (rn 1 rfl ?_)
             exact jX (mput m59 (TOuter.mk x65.to ([] : List UInt8)) true) h (gr [0, 1, 2, 3, 4] rfl (hB rfl rfl rfl (hB rfl rfl rfl (hM rfl rfl (hR rfl rfl (hM rfl rfl .nil))))) rfl)
            refine rn 1 rfl ?_
            exact jX m59 h (gr [0, 1, 2, 3, 4] rfl (hB rfl rfl rfl (hB rfl rfl rfl (hM rfl rfl (hR rfl rfl (hM rfl rfl .nil))))) rfl)
           intro m69 h
           refine rn 1 rfl ?_
           exact jX (m57, l58, m69) h (gr [0, 1, 2, 3, 4] rfl (hB rfl rfl rfl (hB rfl rfl rfl (hM rfl rfl (hR rfl rfl (hM rfl rfl .nil))))) rfl)
          refine rn 6 rfl ?_
          refine aops_lookup _ (bV false) (bV ((mget m57 x65.to).getD false)) tMap89 tKey9 tZo4 (irel_con _) wants_none rfl (.own rfl) (.con rfl) ⟨_, rfl⟩ encM9_4_good (encM9_4_look m57 x65.to) (getD_map (encM9_4_val) (mget m57 x65.to) false) rfl ?_
          refine fo (rn 2 rfl ?_)
          refine jK h (fun (p : (List ((List UInt8) × Bool)) × (List (List UInt8))) => (⟨[(1, (sV a2)), (2, (sV a3)), (3, (V.ptr 0 6 0 0)), (6, (V.ptr 1 3 0 0)), (7, (V.map 2)), (8, (V.own 3 (p.2).length)), (9, (V.map 4)), (10, (iV n11)), (37, (V.lst 3 (((mget a1.links x20).getD ([] : (List Tprovenderref6_link))).map encTprovenderref6_link))), (38, (iV ((((mget a1.links x20).getD ([] : (List Tprovenderref6_link))).length : Nat) : Int))), (39, (iV n30)), (66, (V.lst 2 (x39.aims.map encTprovenderref6_aim))), (67, (iV ((x39.aims.length : Nat) : Int))), (68, (iV n56))], [(0, (Ob.arr 155 6 [(encTprovenderref6_net a1)])), (1, (Ob.arr 45 3 [[(sV ([] : List UInt8)), nV, nV]])), (2, (Ob.map ((p.1).map encM9_4))), (3, (Ob.arr 9 1 ((p.2).map encS))), (4, (Ob.map (m59.map encM160_4)))], 5⟩ : St)) (fun k71 p => k71 p.1 p.2 = some r) (fun k71 h => ?_) ?_
          ·refine spC h rfl (fun hb74 h => ?_) (fun hb74 h => ?_)
           ·refine rn 5 rfl ?_
            refine aops_mapUpdate (es := m57.map encM9_4) ((mput m57 x65.to true).map encM9_4) tMap89 tKey9 wants_none rfl rfl (.con rfl) ⟨_, rfl⟩ encM9_4_good rfl (encM9_4_puts m57 x65.to true) ?_
            refine fo (rn 5 rfl ?_)
            refine aops_buildSlice [(0, (sV x65.to))] [[(sV x65.to)]] tEl25 tZ9 rfl rfl rfl rfl wants_none (evp_cons rfl evp_nil) rfl rfl (by simp) rfl ?_
            refine fo ?_
            refine apO encS h rfl rfl rfl rfl rfl rfl rfl rfl (fun h => ?_)
            refine rn 2 rfl ?_
            exact jX ((mput m57 x65.to true), (l58 ++ ([x65.to] : List (List UInt8)))) h (gr [0, 1, 2, 7, 4] rfl (hB rfl rfl rfl (hB rfl rfl rfl (hM rfl rfl (hR rfl rfl (hM rfl rfl .nil))))) rfl)
           refine rn 1 rfl ?_
           exact jX (m57, l58) h (gr [0, 1, 2, 3, 4] rfl (hB rfl rfl rfl (hB rfl rfl rfl (hM rfl rfl (hR rfl rfl (hM rfl rfl .nil))))) rfl)
          rintro ⟨m72, l73⟩ h
          refine rn 1 rfl ?_
          exact jX (m72, l73, m59) h (gr [0, 1, 2, 3, 4] rfl (hB rfl rfl rfl (hB rfl rfl rfl (hM rfl rfl (hR rfl rfl (hM rfl rfl .nil))))) rfl)
         rintro ⟨m62, l63, m64⟩ h
         refine rn 4 rfl ?_
         exact jX ((w64 (n56 + 1)), m62, l63, m64) (hk3 _ h) (gr [0, 1, 2, 3, 4] rfl (hB rfl rfl rfl (hB rfl rfl rfl (hM rfl rfl (hR rfl rfl (hM rfl rfl .nil))))) rfl)
        replace h := RG.f h hb60
        unfold M84_L3 at h
        refine rn 1 rfl ?_
        exact jX (m57, l58, m59) h (gr [0, 1, 2, 3, 4] rfl (hB rfl rfl rfl (hB rfl rfl rfl (hM rfl rfl (hR rfl rfl (hM rfl rfl .nil))))) rfl)
       rintro ⟨m49, l50, m51⟩ h
       refine rn 1 rfl ?_
       exact jX (m49, l50, m51) h (gr [0, 1, 2, 3, 4] rfl (hB rfl rfl rfl (hB rfl rfl rfl (hM rfl rfl (hR rfl rfl (hM rfl rfl .nil))))) rfl)
      rintro ⟨m36, l37, m38⟩ h
      refine rn 4 rfl ?_
      exact jX ((w64 (n30 + 1)), m36, l37, m38) (hk2 _ h) (gr [0, 1, 2, 3, 4] rfl (hB rfl rfl rfl (hB rfl rfl rfl (hM rfl rfl (hR rfl rfl (hM rfl rfl .nil))))) rfl)
     replace h := RG.f h hb34
     unfold M84_L2 at h
     refine rn 1 rfl ?_
     exact jX (m31, l32, m33) h (gr [0, 1, 2, 3, 4] rfl (hB rfl rfl rfl (hB rfl rfl rfl (hM rfl rfl (hR rfl rfl (hM rfl rfl .nil))))) rfl)
    rintro ⟨m23, l24, m25⟩ h
    refine rn 1 rfl ?_
    exact jX (m23, l24, m25) h (gr [0, 1, 2, 3, 4] rfl (hB rfl rfl rfl (hB rfl rfl rfl (hM rfl rfl (hR rfl rfl (hM rfl rfl .nil))))) rfl)
   rintro ⟨m17, l18, m19⟩ h
   refine rn 5 rfl ?_
   exact jX ((w64 (n11 + 1)), m17, l18, m19) h (gr [0, 1, 2, 3, 4] rfl (hB rfl rfl rfl (hB rfl rfl rfl (hM rfl rfl (hR rfl rfl (hM rfl rfl .nil))))) rfl)
  refine rn 1 rfl ?_
  exact jX (m12, m14) h (gr [1, 2, 4] rfl (hB rfl rfl rfl (hM rfl rfl (hM rfl rfl .nil))) rfl)
 rintro ⟨m5, m6⟩ h
 obtain ⟨y78, hx79, h⟩ := bind_some h
 refine rn 4 rfl ?_
 refine aops_ghost (ghost_frzMx (es := m5.map encM9_4) 1 rfl encM9_4_imm (.put (t := 103) rfl Sub.frzM (.put (t := 7) rfl Sub.frzM .refl)) .refl) ?_
 refine aops_call (V.lst 1 (y78.map encS)) [(V.imap (m5.map encM9_4))] fOk105 wants_none (evm_cons rfl evm_nil) (.cons (Imm.imap _) .nil) (W105 F m5 y78 hx79) rfl ?_
 refine fo (rn 8 rfl ?_)
 refine aops_ghost (ghost_frzMx (es := m6.map encM160_4) 2 rfl encM160_4_imm (.put (t := 106) rfl Sub.frzM (.put (t := 9) rfl Sub.frzM .refl)) .refl) ?_
 refine aops_range tMap247 wants_none rfl rfl ?_
 refine fo (rn 2 rfl ?_)
 refine lC (fun (p : (List (TOuter × Bool)) × (List TOuter)) => (⟨[(6, (V.ptr 0 3 0 0)), (16, (V.ptr 1 3 0 0)), (107, (V.ptr 2 1 0 0))], [(0, (Ob.arr 45 3 [[(sV ([] : List UInt8)), nV, nV]])), (1, (Ob.arr 45 3 [[(sV a2), (V.lst 1 (y78.map encS)), (V.own 3 (p.2).length)]])), (2, (Ob.iter [] ((p.1).map encM160_4))), (3, (Ob.arr 160 2 ((p.2).map encTOuter)))], 4⟩ : St)) (fun n p => RM n p.1 (M84_L4 F a2 y78 p.1 p.2 = some r)) (fun p h => RM.zero h) (m6.length + 1) (m6, ([] : List TOuter)) (RM.start h) (Ghost.trans (ghost_nilC 3 160 2 (Ob.arr 45 3 [[(sV a2), (V.lst 1 (y78.map encS)), (V.own 5 0)]]) (ObSub.box (.cons Sub.keepNil (.cons Sub.keepNil (.cons Sub.mkNil .nil))))) (ghost_ren 4 (fun i => ([0, 3, 4, 5] : List Nat).getD i 0) _ _ (by decide) (EnvSub.get (.cons (Sub.ptr rfl rfl) (.cons (Sub.ptr rfl rfl) (.cons (Sub.ptr rfl rfl) .nil)))) (HpSub.get (.cons rfl (ObSub.box (.cons (Sub.imm (Imm.con _)) (.cons (Sub.imm (Imm.con _)) (.cons (Sub.imm (Imm.con _)) .nil)))) (.cons rfl (ObSub.box (.cons (Sub.imm (Imm.con _)) (.cons (Sub.imm (Imm.lst _ _)) (.cons (Sub.ownE rfl rfl (by simp)) .nil)))) (.cons rfl ObSub.itr (.cons rfl (ObSub.rows (rows_imm imms_encTOuter)) .nil))))) rfl)) (fun n p h => ?_)
 obtain ⟨l82, l83⟩ := p
 refine rn 2 rfl ?_
 refine nxt rfl rfl wants_none rfl (fun hl4 => ?_) (fun e84 l85 hq4 hp4 => ?_)
 ·replace h := h.2
  subst hl4
  unfold M84_L4 at h
  refine rn 10 rfl ?_
  refine awp_ghost (ghost_frzC 3 0 (Ob.arr 45 3 [[(sV a2), (V.lst 1 (y78.map encS)), (V.lst 2 (l83.map encTOuter))]]) rfl (rows_imm imms_encTOuter) (ObSub.box (.cons Sub.keep (.cons Sub.keep (.cons (Sub.frzAll (rows := l83.map encTOuter) (List.length_map ..).symm) .nil))))) ?_
  refine fa ?_
  exact rt h rfl
 have hm4 := h
 replace h := ord_M84_L4 hp4 h.2
 unfold M84_L4 at h
 refine rn 5 rfl ?_
 refine jK h (fun (p : (List TOuter)) => (⟨[(6, (V.ptr 0 3 0 0)), (16, (V.ptr 1 3 0 0)), (107, (V.ptr 2 1 0 0))], [(0, (Ob.arr 45 3 [[(sV ([] : List UInt8)), nV, nV]])), (1, (Ob.arr 45 3 [[(sV a2), (V.lst 1 (y78.map encS)), (V.own 3 p.length)]])), (2, (Ob.iter [] (l85.map encM160_4))), (3, (Ob.arr 160 2 (p.map encTOuter)))], 4⟩ : St)) (fun k86 p => k86 p = some r) (fun k86 h => ?_) ?_
 ·refine rn 3 rfl ?_
  refine aops_entry wants_none rfl rfl rfl ?_
  refine aops_ghost (ghost_tell 110 (V.tup [(V.agg (encTOuter e84.1)), (bV e84.2)]) rfl (Sub.tupKey rfl)) ?_
  refine fo (rn 12 rfl ?_)
  refine jK h (fun (p : Int) => (⟨[(6, (V.ptr 0 3 0 0)), (16, (V.ptr 1 3 0 0)), (17, (V.ptr 2 2 0 0)), (18, (iV p)), (107, (V.ptr 3 1 0 0))], [(0, (Ob.arr 45 3 [[(sV ([] : List UInt8)), nV, nV]])), (1, (Ob.arr 45 3 [[(sV a2), (V.lst 1 (y78.map encS)), (V.own 4 l83.length)]])), (2, (Ob.arr 160 2 [(encTOuter e84.1)])), (3, (Ob.iter [] (l85.map encM160_4))), (4, (Ob.arr 160 2 (l83.map encTOuter)))], 5⟩ : St)) (fun k88 p => k88 p = some r) (fun k88 h => ?_) ?_
  ·refine rn 1 rfl ?_
   refine ck h (fun hF102 h => ?_)
   refine lC (fun (p : Int) => (⟨[(6, (V.ptr 0 3 0 0)), (16, (V.ptr 1 3 0 0)), (17, (V.ptr 2 2 0 0)), (18, (iV p)), (107, (V.ptr 3 1 0 0))], [(0, (Ob.arr 45 3 [[(sV ([] : List UInt8)), nV, nV]])), (1, (Ob.arr 45 3 [[(sV a2), (V.lst 1 (y78.map encS)), (V.own 4 l83.length)]])), (2, (Ob.arr 160 2 [(encTOuter e84.1)])), (3, (Ob.iter [] (l85.map encM160_4))), (4, (Ob.arr 160 2 (l83.map encTOuter)))], 5⟩ : St)) (fun n p => M84_L5 F l83 e84 k88 n p = some r) (fun p h => by simp [M84_L5] at h) F ((l83.length : Nat) : Int) h (gr [0, 1, 4, 2, 3] rfl (hB rfl rfl rfl (hB rfl rfl rfl (hB rfl rfl rfl (hI rfl rfl (hR rfl rfl .nil))))) rfl) (fun n n91 h => ?_)
   unfold M84_L5 at h
   refine rn 2 rfl ?_
   refine bs h (fun hb92 h => ?_) (fun hb92 h => ?_)
   ·obtain ⟨x93, hx94, h⟩ := bind_some h
    refine bs h (fun hb95 h => ?_) (fun hb95 h => ?_)
    ·refine dr mixed (vs 2 rfl (vb hb92 rfl (vs 4 rfl (oD (a := l83) hx94 rfl rfl rfl rfl (vs 1 rfl (lD hx94 rfl rfl rfl rfl rfl (vs 3 rfl (vb hb95 rfl (vs 24 rfl .nil))))))))) (by kernel_rfl) ?_
     refine rn 9 rfl ?_
     exact jX (w64 (n91 - 1)) h (gr [0, 1, 2, 3, 4] rfl (hB rfl rfl rfl (hB rfl rfl rfl (hB rfl rfl rfl (hI rfl rfl (hR rfl rfl .nil))))) rfl)
    obtain ⟨x96, hx97, h⟩ := bind_some h
    refine bs h (fun hb98 h => ?_) (fun hb98 h => ?_)
    ·obtain ⟨x99, hx100, h⟩ := bind_some h
     refine dr mixed (vs 2 rfl (vb hb92 rfl (vs 4 rfl (oD (a := l83) hx94 rfl rfl rfl rfl (vs 1 rfl (lD hx94 rfl rfl rfl rfl rfl (vs 3 rfl (vb hb95 rfl (vs 4 rfl (oD (a := l83) hx97 rfl rfl rfl rfl (vs 1 rfl (lD hx97 rfl rfl rfl rfl rfl (vs 3 rfl (vb hb98 rfl (vs 4 rfl (oD (a := l83) hx100 rfl rfl rfl rfl (vs 1 rfl (lD hx100 rfl rfl rfl rfl rfl (vs 6 rfl .nil))))))))))))))))))) (by kernel_rfl) ?_
     refine spC h rfl (fun hb101 h => ?_) (fun hb101 h => ?_)
     ·refine rn 8 rfl ?_
      exact jX (w64 (n91 - 1)) h (gr [0, 1, 2, 3, 4] rfl (hB rfl rfl rfl (hB rfl rfl rfl (hB rfl rfl rfl (hI rfl rfl (hR rfl rfl .nil))))) rfl)
     refine rn 1 rfl ?_
     exact jX n91 h (gr [0, 1, 2, 3, 4] rfl (hB rfl rfl rfl (hB rfl rfl rfl (hB rfl rfl rfl (hI rfl rfl (hR rfl rfl .nil))))) rfl)
    refine dr mixed (vs 2 rfl (vb hb92 rfl (vs 4 rfl (oD (a := l83) hx94 rfl rfl rfl rfl (vs 1 rfl (lD hx94 rfl rfl rfl rfl rfl (vs 3 rfl (vb hb95 rfl (vs 4 rfl (oD (a := l83) hx97 rfl rfl rfl rfl (vs 1 rfl (lD hx97 rfl rfl rfl rfl rfl (vs 3 rfl (vb hb98 rfl (vs 13 rfl .nil))))))))))))))) (by kernel_rfl) ?_
    refine rn 2 rfl ?_
    exact jX n91 h (gr [0, 1, 2, 3, 4] rfl (hB rfl rfl rfl (hB rfl rfl rfl (hB rfl rfl rfl (hI rfl rfl (hR rfl rfl .nil))))) rfl)
   refine dr mixed (vs 2 rfl (vb hb92 rfl (vs 35 rfl .nil))) (by kernel_rfl) ?_
   refine rn 2 rfl ?_
   exact jX n91 h (gr [0, 1, 2, 3, 4] rfl (hB rfl rfl rfl (hB rfl rfl rfl (hB rfl rfl rfl (hI rfl rfl (hR rfl rfl .nil))))) rfl)
  intro n89 h
  refine awp_ghost (ghost_frzC 4 1 (Ob.arr 45 3 [[(sV a2), (V.lst 1 (y78.map encS)), (V.lst 2 (l83.map encTOuter))]]) rfl (rows_imm imms_encTOuter) (ObSub.box (.cons Sub.keep (.cons Sub.keep (.cons (Sub.frzAll (rows := l83.map encTOuter) (List.length_map ..).symm) .nil))))) ?_
  refine ck h (fun hc103 h => ?_)
  refine ck h (fun hc104 h => ?_)
  refine ck h (fun hc105 h => ?_)
  refine ck h (fun hc106 h => ?_)
  refine ck h (fun hc107 h => ?_)
  refine awp_ghost ghost_res ?_
  refine awp_ghost ghost_res ?_
  refine awp_ghost ghost_res ?_
  refine awp_ghost ghost_res ?_
  refine fa ?_
  refine dr mixed (xD (OD.mk [] [(5, Ob.res)] [(155, (V.own 5 0))] [(5, (Ob.arr 160 2 (([] : List TOuter).map encTOuter)))]) ⟨trivial, ⟨rfl, trivial⟩⟩ (by exact fun S hn h hh => aops_emptySlice_at 5 rfl hn hh.1 tEl43 wants_none rfl (aops_nil ⟨rfl, rfl⟩)) rfl (vs 3 rfl (xD (OD.mk [(157, (V.lst 2 (l83.map encTOuter))), (158, (iV n89))] [] [(159, (V.lst 2 ((l83.take n89.toNat).map encTOuter)))] []) ⟨⟨rfl, rfl, trivial⟩, trivial⟩ (by exact fun S hn h hh => aops_slice_lst (0) (n89.toNat) ((l83.take n89.toNat).map encTOuter) tSl43 wants_none h.1 rfl ⟨_, (by rw [Int.toNat_of_nonneg hc103.1]; exact h.2.1)⟩ (Nat.zero_le _) (by simpa using hc103.2) slL_lo rfl (aops_nil ⟨rfl, rfl⟩)) rfl (xD (OD.mk [(155, (V.own 5 0)), (159, (V.lst 2 ((l83.take n89.toNat).map encTOuter)))] [(5, (Ob.arr 160 2 (([] : List TOuter).map encTOuter))), (6, Ob.res)] [(160, (V.own 6 (([] : List TOuter) ++ (l83.take n89.toNat)).length))] [(6, (Ob.arr 160 2 ((([] : List TOuter) ++ (l83.take n89.toNat)).map encTOuter))), (5, Ob.dead)]) ⟨⟨rfl, rfl, trivial⟩, ⟨rfl, rfl, trivial⟩⟩ (by exact fun S hn h hh => aops_append_at 6 rfl hn hh.2.1 ((l83.take n89.toNat).map encTOuter) ((([] : List TOuter) ++ (l83.take n89.toNat)).map encTOuter) tEl43 tIsSl43 rfl rfl wants_none h.1 hh.1 (by simp) h.2.1 (.lst (rows_one one_encTOuter)) (map_snoc encTOuter ([] : List TOuter) (l83.take n89.toNat)) (List.length_map ..) hc104 rfl (aops_nil ⟨rfl, rfl⟩)) rfl (vs 1 rfl (xD (OD.mk [(161, (V.agg (encTOuter e84.1)))] [] [(162, (V.lst 2 (([e84.1] : List TOuter).map encTOuter)))] []) ⟨⟨rfl, trivial⟩, trivial⟩ (by exact fun S hn h hh => aops_buildSlice_imm [(0, (V.agg (encTOuter e84.1)))] [(encTOuter e84.1)] tEl43 tZ160 wants_none rfl rfl rfl rfl (evp_cons h.1 evp_nil) rfl rfl (by simp) (imms_rows (.cons (imms_encTOuter _) .nil)) rfl (aops_nil ⟨rfl, rfl⟩)) rfl (xD (OD.mk [(160, (V.own 6 (([] : List TOuter) ++ (l83.take n89.toNat)).length)), (162, (V.lst 2 (([e84.1] : List TOuter).map encTOuter)))] [(6, (Ob.arr 160 2 ((([] : List TOuter) ++ (l83.take n89.toNat)).map encTOuter))), (7, Ob.res)] [(163, (V.own 7 ((([] : List TOuter) ++ (l83.take n89.toNat)) ++ ([e84.1] : List TOuter)).length))] [(7, (Ob.arr 160 2 (((([] : List TOuter) ++ (l83.take n89.toNat)) ++ ([e84.1] : List TOuter)).map encTOuter))), (6, Ob.dead)]) ⟨⟨rfl, rfl, trivial⟩, ⟨rfl, rfl, trivial⟩⟩ (by exact fun S hn h hh => aops_append_at 7 rfl hn hh.2.1 (([e84.1] : List TOuter).map encTOuter) (((([] : List TOuter) ++ (l83.take n89.toNat)) ++ ([e84.1] : List TOuter)).map encTOuter) tEl43 tIsSl43 rfl rfl wants_none h.1 hh.1 (by simp) h.2.1 (.lst (rows_one one_encTOuter)) (map_snoc encTOuter (([] : List TOuter) ++ (l83.take n89.toNat)) ([e84.1] : List TOuter)) (List.length_map ..) hc105 rfl (aops_nil ⟨rfl, rfl⟩)) rfl (vs 3 rfl (xD (OD.mk [(165, (V.lst 2 (l83.map encTOuter))), (166, (iV n89))] [] [(167, (V.lst 2 ((l83.drop n89.toNat).map encTOuter)))] []) ⟨⟨rfl, rfl, trivial⟩, trivial⟩ (by exact fun S hn h hh => aops_slice_lst (n89.toNat) (l83.length) ((l83.drop n89.toNat).map encTOuter) tSl43 wants_none h.1 ⟨_, (by rw [Int.toNat_of_nonneg hc106.1]; exact h.2.1)⟩ (List.length_map ..).symm hc106.2 (Nat.le_of_eq (List.length_map ..).symm) slL_hi rfl (aops_nil ⟨rfl, rfl⟩)) rfl (xD (OD.mk [(163, (V.own 7 ((([] : List TOuter) ++ (l83.take n89.toNat)) ++ ([e84.1] : List TOuter)).length)), (167, (V.lst 2 ((l83.drop n89.toNat).map encTOuter)))] [(7, (Ob.arr 160 2 (((([] : List TOuter) ++ (l83.take n89.toNat)) ++ ([e84.1] : List TOuter)).map encTOuter))), (8, Ob.res)] [(168, (V.own 8 (((([] : List TOuter) ++ (l83.take n89.toNat)) ++ ([e84.1] : List TOuter)) ++ (l83.drop n89.toNat)).length))] [(8, (Ob.arr 160 2 ((((([] : List TOuter) ++ (l83.take n89.toNat)) ++ ([e84.1] : List TOuter)) ++ (l83.drop n89.toNat)).map encTOuter))), (7, Ob.dead)]) ⟨⟨rfl, rfl, trivial⟩, ⟨rfl, rfl, trivial⟩⟩ (by exact fun S hn h hh => aops_append_at 8 rfl hn hh.2.1 ((l83.drop n89.toNat).map encTOuter) ((((([] : List TOuter) ++ (l83.take n89.toNat)) ++ ([e84.1] : List TOuter)) ++ (l83.drop n89.toNat)).map encTOuter) tEl43 tIsSl43 rfl rfl wants_none h.1 hh.1 (by simp) h.2.1 (.lst (rows_one one_encTOuter)) (map_snoc encTOuter ((([] : List TOuter) ++ (l83.take n89.toNat)) ++ ([e84.1] : List TOuter)) (l83.drop n89.toNat)) (List.length_map ..) hc107 rfl (aops_nil ⟨rfl, rfl⟩)) rfl (vs 2 rfl .nil))))))))))) (by kernel_rfl) ?_
  refine rn 1 rfl ?_
  exact jX (((([] : List TOuter) ++ (l83.take n89.toNat)) ++ ([e84.1] : List TOuter)) ++ (l83.drop n89.toNat)) h (gr [0, 1, 3, 8] rfl (hB rfl rfl rfl (hB rfl rfl rfl (hI rfl rfl (hR rfl rfl .nil)))) rfl)
 intro l87 h
 exact jX (l85, l87) (RM.step hm4 hq4 h) (gr [0, 1, 2, 3] rfl (hB rfl rfl rfl (hB rfl rfl rfl (hI rfl rfl (hR rfl rfl .nil)))) rfl)
theorem W20 (F : Nat) (a1 : TGraph) (a2 : (List UInt8)) (a3 : (List (List UInt8))) (r : ((List TSummary) × Int)) (h : M20 F a1 a2 a3 = some r) : Pure Tryz.prog 20 [(V.agg (encTGraph a1)), (sV a2), (V.lst 1 (a3.map encS))] (V.tup [(V.lst 3 ((r.1).map encTSummary)), (iV (r.2))]) := by
 refine pin (fun r => (V.tup [(V.lst 3 ((r.1).map encTSummary)), (iV (r.2))])) r rfl Tryz.func20 rfl rfl rfl rfl rfl (fun w0 m0 hg => ?_)
 unfold M20 at h
 refine rn 10 rfl ?_
 refine cl h rfl rfl rfl (W18 _ _) rfl (fun y4 hx5 h => ?_)
 refine rn 7 rfl ?_
 refine spC h rfl (fun hb6 h => ?_) (fun hb6 h => ?_)
 ·refine rn 6 rfl ?_
  exact rt h rfl
 refine rn 5 rfl ?_
 refine cl h rfl rfl rfl (W81 _ _) rfl (fun y7 hx8 h => ?_)
 refine rn 7 rfl ?_
 refine spC h rfl (fun hb9 h => ?_) (fun hb9 h => ?_)
 ·refine rn 6 rfl ?_
  exact rt h rfl
 refine rn 5 rfl ?_
 refine cl h rfl rfl rfl (W82 _ _) rfl (fun y10 hx11 h => ?_)
 refine rn 2 rfl ?_
 refine spC h rfl (fun hb12 h => ?_) (fun hb12 h => ?_)
 ·refine rn 5 rfl ?_
  exact rt h rfl
 refine rn 5 rfl ?_
 refine cl h rfl rfl rfl (W83 _ _ _) rfl (fun y13 hx14 h => ?_)
 refine rn 12 rfl ?_
 refine ln rfl rfl ?_
 refine rn 2 rfl ?_
 refine jK h (fun (p : (List TSummary)) => (⟨[(11, (V.own 0 p.length))], [(0, (Ob.arr 45 3 (p.map encTSummary)))], 1⟩ : St)) (fun k15 p => k15 p = some r) (fun k15 h => ?_) ?_
 ·refine rn 1 rfl ?_
  refine wl (A := a1.Funcs) 31 rfl (fun hA30 => ?_)
  refine lC (fun (p : Int × (List TSummary)) => (⟨[(1, (sV a2)), (10, (V.ptr 0 6 0 0)), (11, (V.own 1 (p.2).length)), (31, (V.lst 4 (a1.Funcs.map encTFunc))), (32, (iV ((a1.Funcs.length : Nat) : Int))), (33, (iV (p.1)))], [(0, (Ob.arr 155 6 [(encTprovenderref6_net y13)])), (1, (Ob.arr 45 3 ((p.2).map encTSummary)))], 2⟩ : St)) (fun n p => RG a1.Funcs (fun tl nn => M20_L1 F a2 y13 k15 tl p.2 = some r) n p.1) (fun p h => RG.zero h) (a1.Funcs.length + 1) (0, ([] : List TSummary)) (RG.start h) (Ghost.trans (ghost_nilE 11 45 3 rfl) (ghost_ren 2 (fun i => ([1, 2] : List Nat).getD i 0) _ _ (by decide) (EnvSub.get (.cons (Sub.imm (Imm.con _)) (.cons (Sub.ptr rfl rfl) (.cons (Sub.ownE rfl rfl (by simp)) (.cons (Sub.imm (Imm.lst _ _)) (.cons (Sub.imm (Imm.con _)) (.cons (Sub.imm (Imm.con _)) .nil))))))) (HpSub.get (.cons rfl (ObSub.box (.cons (Sub.imm (Imm.lst _ _)) (.cons (Sub.imm (Imm.lst _ _)) (.cons (Sub.imm (Imm.lst _ _)) (.cons (Sub.imm (Imm.lst _ _)) (.cons (Sub.imm (Imm.imap _)) (.cons (Sub.imm (Imm.imap _)) .nil))))))) (.cons rfl (ObSub.rows (rows_imm imms_encTSummary)) .nil))) rfl)) (fun n p h => ?_)
  obtain ⟨n19, l20⟩ := p
  refine rn 5 rfl ?_
  refine spL rfl (fun hb21 => ?_) (fun hb21 => ?_)
  ·obtain ⟨x22, tl, hx23, h, hk1⟩ := RG.t hA30 h hb21
   unfold M20_L1 at h
   refine rn 5 rfl ?_
   refine ixh hx23 rfl rfl ?_
   refine rn 11 rfl ?_
   refine jK h (fun (p : (List TSummary)) => (⟨[(1, (sV a2)), (10, (V.ptr 0 6 0 0)), (11, (V.own 1 p.length)), (31, (V.lst 4 (a1.Funcs.map encTFunc))), (32, (iV ((a1.Funcs.length : Nat) : Int))), (33, (iV n19))], [(0, (Ob.arr 155 6 [(encTprovenderref6_net y13)])), (1, (Ob.arr 45 3 (p.map encTSummary)))], 2⟩ : St)) (fun k24 p => k24 p = some r) (fun k24 h => ?_) ?_
   ·refine spC h rfl (fun hb26 h => ?_) (fun hb26 h => ?_)
    ·refine rn 6 rfl ?_
     refine cl h rfl rfl rfl (W84 _ _ _ _) rfl (fun y27 hx28 h => ?_)
     refine aops_buildSlice [(0, (V.agg (encTSummary y27)))] [(encTSummary y27)] tEl39 tZ45 rfl rfl rfl rfl wants_none (evp_cons rfl evp_nil) rfl rfl (by simp) rfl ?_
     refine fo ?_
     refine apO encTSummary h rfl rfl rfl rfl rfl rfl rfl rfl (fun h => ?_)
     refine rn 2 rfl ?_
     exact jX (l20 ++ ([y27] : List TSummary)) h (gr [0, 4] rfl (hB rfl rfl rfl (hR rfl rfl .nil)) rfl)
    refine rn 1 rfl ?_
    exact jX l20 h (gr [0, 1] rfl (hB rfl rfl rfl (hR rfl rfl .nil)) rfl)
   intro l25 h
   refine rn 5 rfl ?_
   exact jX ((w64 (n19 + 1)), l25) (hk1 _ h) (gr [0, 1] rfl (hB rfl rfl rfl (hR rfl rfl .nil)) rfl)
  replace h := RG.f h hb21
  unfold M20_L1 at h
  refine rn 1 rfl ?_
  exact jX l20 h (gr [1] rfl (hR rfl rfl .nil) rfl)
 intro l16 h
 refine rn 6 rfl ?_
 refine awp_ghost (ghost_frzEs 0 [6, 11, 50] rfl (rows_imm imms_encTSummary) (List.forall_mem_cons.2 ⟨rfl, (List.forall_mem_cons.2 ⟨rfl, (List.forall_mem_cons.2 ⟨rfl, (fun _ hx => nomatch hx)⟩)⟩)⟩) (List.length_map ..).symm) ?_
 refine fa ?_
 exact rt h rfl
theorem W26 (F : Nat) (a1 : (List (List UInt8))) (a2 : (List (List UInt8))) (r : Bool) (h : M26 F a1 a2 = some r) : Pure Tryz.prog 26 [(V.lst 1 (a1.map encS)), (V.lst 1 (a2.map encS))] (bV r) := by
 refine pin (fun r => (bV r)) r rfl Tryz.func26 rfl rfl rfl rfl rfl (fun w0 m0 hg => ?_)
 unfold M26 at h
 refine rn 8 rfl ?_
 refine ln rfl rfl ?_
 refine rn 1 rfl ?_
 refine ln rfl rfl ?_
 refine rn 2 rfl ?_
 refine spC h rfl (fun hb3 h => ?_) (fun hb3 h => ?_)
 ·refine rn 4 rfl ?_
  exact rt h rfl
 refine rn 5 rfl ?_
 refine ln rfl rfl ?_
 refine rn 2 rfl ?_
 refine jK h (fun _ : Unit => (⟨[], [], 0⟩ : St)) (fun k4 (_ : Unit) => k4 = some r) (fun k4 h => ?_) ?_
 ·refine rn 1 rfl ?_
  refine wl (A := a1) 0 rfl (fun hA13 => ?_)
  refine lC (fun (p : Int) => (⟨[(0, (V.lst 1 (a1.map encS))), (1, (V.lst 1 (a2.map encS))), (12, (iV ((a1.length : Nat) : Int))), (13, (iV p))], [], 0⟩ : St)) (fun n p => RG a1 (fun tl nn => M26_L1 F a2 k4 tl nn = some r) n p) (fun p h => RG.zero h) (a1.length + 1) 0 (RG.start h) (g0 rfl rfl) (fun n n6 h => ?_)
  refine rn 5 rfl ?_
  refine spL rfl (fun hb7 => ?_) (fun hb7 => ?_)
  ·obtain ⟨x8, tl, hx9, h, hk1⟩ := RG.t hA13 h hb7
   unfold M26_L1 at h
   obtain ⟨x10, hx11, h⟩ := bind_some h
   refine rn 9 rfl ?_
   refine dr mixed (vs 2 rfl (iD hx9 rfl rfl rfl (vs 3 rfl (iD hx11 rfl rfl rfl (vs 2 rfl .nil))))) (by kernel_rfl) ?_
   refine spC h rfl (fun hb12 h => ?_) (fun hb12 h => ?_)
   ·refine rn 4 rfl ?_
    exact rt h rfl
   refine rn 6 rfl ?_
   exact jX (w64 (n6 + 1)) (hk1 _ h) (g0 rfl rfl)
  replace h := RG.f h hb7
  unfold M26_L1 at h
  refine rn 1 rfl ?_
  exact jX () h (g0 rfl rfl)
 intro _ h
 refine rn 4 rfl ?_
 exact rt h rfl
theorem W85 (F : Nat) (a1 : (List TOuter)) (a2 : (List TOuter)) (r : Bool) (h : M85 F a1 a2 = some r) : Pure Tryz.prog 85 [(V.lst 2 (a1.map encTOuter)), (V.lst 2 (a2.map encTOuter))] (bV r) := by
 refine pin (fun r => (bV r)) r rfl Tryz.func85 rfl rfl rfl rfl rfl (fun w0 m0 hg => ?_)
 unfold M85 at h
 refine rn 8 rfl ?_
 refine ln rfl rfl ?_
 refine rn 1 rfl ?_
 refine ln rfl rfl ?_
 refine rn 2 rfl ?_
 refine spC h rfl (fun hb3 h => ?_) (fun hb3 h => ?_)
 ·refine rn 4 rfl ?_
  exact rt h rfl
 refine rn 5 rfl ?_
 refine ln rfl rfl ?_
 refine rn 2 rfl ?_
 refine jK h (fun _ : Unit => (⟨[], [], 0⟩ : St)) (fun k4 (_ : Unit) => k4 = some r) (fun k4 h => ?_) ?_
 ·refine rn 1 rfl ?_
  refine wl (A := a1) 0 rfl (fun hA13 => ?_)
  refine lC (fun (p : Int) => (⟨[(0, (V.lst 2 (a1.map encTOuter))), (1, (V.lst 2 (a2.map encTOuter))), (12, (iV ((a1.length : Nat) : Int))), (13, (iV p))], [], 0⟩ : St)) (fun n p => RG a1 (fun tl nn => M85_L1 F a2 k4 tl nn = some r) n p) (fun p h => RG.zero h) (a1.length + 1) 0 (RG.start h) (g0 rfl rfl) (fun n n6 h => ?_)
  refine rn 5 rfl ?_
  refine spL rfl (fun hb7 => ?_) (fun hb7 => ?_)
  ·obtain ⟨x8, tl, hx9, h, hk1⟩ := RG.t hA13 h hb7
   unfold M85_L1 at h
   obtain ⟨x10, hx11, h⟩ := bind_some h
   refine rn 9 rfl ?_
   refine dr mixed (vs 2 rfl (iD hx9 rfl rfl rfl (vs 3 rfl (iD hx11 rfl rfl rfl (vs 1 rfl (xD (OD.mk [(19, (V.agg (encTOuter x8))), (23, (V.agg (encTOuter x10)))] [] [(24, (bV (!(decide (x8 = x10)))))] []) ⟨⟨rfl, rfl, trivial⟩, trivial⟩ (by exact fun S hn h hh => aops_eqS true (xs := cv160 x8) (ys := cv160 x10) (b := (decide (x8 = x10))) eqk160 ⟨_, rfl⟩ ⟨_, rfl⟩ (eq_b cv160 _ _ (inj_cv160 _ _)) tEqG160 wants_none h.1 h.2.1 rfl (aops_nil ⟨rfl, rfl⟩)) rfl .nil)))))) (by kernel_rfl) ?_
   refine spC h rfl (fun hb12 h => ?_) (fun hb12 h => ?_)
   ·refine rn 4 rfl ?_
    exact rt h rfl
   refine rn 6 rfl ?_
   exact jX (w64 (n6 + 1)) (hk1 _ h) (g0 rfl rfl)
  replace h := RG.f h hb7
  unfold M85_L1 at h
  refine rn 1 rfl ?_
  exact jX () h (g0 rfl rfl)
 intro _ h
 refine rn 4 rfl ?_
 exact rt h rfl
theorem W22 (F : Nat) (a1 : TSummary) (a2 : TSummary) (r : Bool) (h : M22 F a1 a2 = some r) : Pure Tryz.prog 22 [(V.agg (encTSummary a1)), (V.agg (encTSummary a2))] (bV r) := by
 refine pin (fun r => (bV r)) r rfl Tryz.func22 rfl rfl rfl rfl rfl (fun w0 m0 hg => ?_)
 unfold M22 at h
 refine rn 14 rfl ?_
 refine spO 10 h rfl (fun hb3 h => ?_) (fun hb3 h => ?_)
 ·refine rn 4 rfl ?_
  refine cl h rfl rfl rfl (W26 _ _ _) rfl (fun y4 hx5 h => ?_)
  refine rn 2 rfl ?_
  refine spO 17 h rfl (fun hb6 h => ?_) (fun hb6 h => ?_)
  ·refine rn 4 rfl ?_
   refine cl h rfl rfl rfl (W85 _ _ _) rfl (fun y7 hx8 h => ?_)
   refine rn 3 rfl ?_
   exact rt h rfl
  refine rn 8 rfl ?_
  exact rt h rfl
 refine rn 15 rfl ?_
 exact rt h rfl
theorem W21 (F : Nat) (a1 : (List TSummary)) (a2 : (List TSummary)) (r : Bool) (h : M21 F a1 a2 = some r) : Pure Tryz.prog 21 [(V.lst 3 (a1.map encTSummary)), (V.lst 3 (a2.map encTSummary)), (V.fn (.func 22) [] [])] (bV r) := by
 refine pin (fun r => (bV r)) r rfl Tryz.func21 rfl rfl rfl rfl rfl (fun w0 m0 hg => ?_)
 unfold M21 at h
 refine rn 8 rfl ?_
 refine ln rfl rfl ?_
 refine rn 1 rfl ?_
 refine ln rfl rfl ?_
 refine rn 2 rfl ?_
 refine spC h rfl (fun hb3 h => ?_) (fun hb3 h => ?_)
 ·refine rn 4 rfl ?_
  exact rt h rfl
 refine rn 5 rfl ?_
 refine ln rfl rfl ?_
 refine rn 2 rfl ?_
 refine jK h (fun _ : Unit => (⟨[], [], 0⟩ : St)) (fun k4 (_ : Unit) => k4 = some r) (fun k4 h => ?_) ?_
 ·refine rn 1 rfl ?_
  refine wl (A := a1) 0 rfl (fun hA15 => ?_)
  refine lC (fun (p : Int) => (⟨[(1, (V.lst 3 (a2.map encTSummary))), (2, (V.fn (.func 22) [] [])), (15, (V.lst 3 (a1.map encTSummary))), (16, (iV ((a1.length : Nat) : Int))), (17, (iV p))], [], 0⟩ : St)) (fun n p => RG a1 (fun tl nn => M21_L1 F a2 k4 tl nn = some r) n p) (fun p h => RG.zero h) (a1.length + 1) 0 (RG.start h) (g0 rfl rfl) (fun n n6 h => ?_)
  refine rn 5 rfl ?_
  refine spL rfl (fun hb7 => ?_) (fun hb7 => ?_)
  ·obtain ⟨x8, tl, hx9, h, hk1⟩ := RG.t hA15 h hb7
   unfold M21_L1 at h
   refine rn 6 rfl ?_
   refine ixh hx9 rfl rfl ?_
   refine rn 9 rfl ?_
   refine ixl h rfl rfl (fun x10 hx11 h => ?_)
   refine rn 9 rfl ?_
   refine cl h rfl rfl rfl (W22 _ _ _) rfl (fun y12 hx13 h => ?_)
   refine rn 2 rfl ?_
   refine spC h rfl (fun hb14 h => ?_) (fun hb14 h => ?_)
   ·refine rn 4 rfl ?_
    exact rt h rfl
   refine rn 6 rfl ?_
   exact jX (w64 (n6 + 1)) (hk1 _ h) (g0 rfl rfl)
  replace h := RG.f h hb7
  unfold M21_L1 at h
  refine rn 1 rfl ?_
  exact jX () h (g0 rfl rfl)
 intro _ h
 refine rn 4 rfl ?_
 exact rt h rfl
theorem W14 (F : Nat) (r : Bool) (h : M14 F = some r) : Pure Tryz.prog 14 [] (bV r) := by
 unfold M14 at h
 replace h := Option.some.inj h
 subst h
 exact told_pure
theorem W5 (F : Nat) (a1 : TGraph) (a2 : (List UInt8)) (a3 : (List (List UInt8))) (r : Bool) (h : M5 F a1 a2 a3 = some r) : Pure Tryz.prog 5 [(V.agg (encTGraph a1)), (sV a2), (V.lst 1 (a3.map encS))] (bV r) := by
 refine pin (fun r => (bV r)) r rfl Tryz.func5 rfl rfl rfl rfl rfl (fun w0 m0 hg => ?_)
 unfold M5 at h
 refine rn 10 rfl ?_
 refine cl h rfl rfl rfl (W19 _ _ _ _) rfl (fun y4 hx5 h => ?_)
 refine rn 11 rfl ?_
 refine cl h rfl rfl rfl (W20 _ _ _ _) rfl (fun y6 hx7 h => ?_)
 refine rn 12 rfl ?_
 refine spO 28 h rfl (fun hb8 h => ?_) (fun hb8 h => ?_)
 ·refine rn 2 rfl ?_
  refine cl h rfl rfl rfl (W21 _ _ _) rfl (fun y9 hx10 h => ?_)
  refine rn 2 rfl ?_
  refine spO 33 h rfl (fun hb11 h => ?_) (fun hb11 h => ?_)
  ·refine cl h rfl rfl rfl (W14 _) rfl (fun y12 hx13 h => ?_)
   refine rn 3 rfl ?_
   exact rt h rfl
  refine rn 4 rfl ?_
  exact rt h rfl
 refine rn 9 rfl ?_
 exact rt h rfl
end Go.Proofs.YtpbkggamiipdmaaGreat
