/- Part of the proof: ZC6W6b. -/
import Derived.Test.YtpbkggamiipdmaaGreatC6PvX
import Derived.Test.YtpbkggamiipdmaaGreatC6ZC6Sh
import Derived.Test.YtpbkggamiipdmaaGreatC6ZP6c
import Derived.Test.YtpbkggamiipdmaaGreatC6ZC6W6a
import Derived.KernelRfl
namespace Go.Proofs.YtpbkggamiipdmaaGreat
open Go Go.Pv
set_option linter.unusedVariables false
set_option maxRecDepth 100000
theorem W84 (F : Nat) (a1 : q6b) (a2 : (List UInt8)) (a3 : (List UInt8)) (r : q5a) (h : M84 F a1 a2 a3 = some r) : Pure Tryz.prog 84 [(V.agg (q8c a1)), (sV a2), (sV a3)] (V.agg (q4d r)) := by
 refine pin (fun r => (V.agg (q4d r))) r rfl Tryz.func84 rfl rfl rfl rfl rfl (fun w0 m0 hg => ?_)
 unfold M84 at h
 refine rn 9 rfl ?_
 refine aops_insert (es := ([] : List ((List UInt8) × Bool)).map q5b) ((mput ([] : List ((List UInt8) × Bool)) a2 true).map q5b) q2k tKey9 q4a rfl rfl (.con rfl) ⟨_, rfl⟩ q6e rfl (q4i ([] : List ((List UInt8) × Bool)) a2 true) ?_
 refine fo (rn 6 rfl ?_)
 refine q2e [(0, (sV a2))] [[(sV a2)]] tEl25 tZ9 rfl rfl rfl rfl q4a (q2f rfl q1h) rfl rfl (by simp) rfl ?_
 refine fo (rn 12 rfl ?_)
 refine jK h (fun (p : (List ((List UInt8) × Bool)) × (List (q6a × Bool))) => (⟨[(1, (sV a2)), (6, (V.ptr 0 3 0 0)), (7, (V.map 1)), (9, (V.map 2))], [(0, (Ob.arr 45 3 [[(sV ([] : List UInt8)), nV, nV]])), (1, (Ob.map ((p.1).map q5b))), (2, (Ob.map ((p.2).map q5d)))], 3⟩ : St)) (fun k4 p => k4 p.1 p.2 = some r) (fun k4 h => ?_) ?_
 ·refine rn 1 rfl ?_
  refine lC (fun (p : Int × (List ((List UInt8) × Bool)) × (List (List UInt8)) × (List (q6a × Bool))) => (⟨[(1, (sV a2)), (2, (sV a3)), (3, (V.ptr 0 6 0 0)), (6, (V.ptr 1 3 0 0)), (7, (V.map 2)), (8, (V.own 3 (p.2.2.1).length)), (9, (V.map 4)), (10, (iV (p.1)))], [(0, (Ob.arr 155 6 [(q8c a1)])), (1, (Ob.arr 45 3 [[(sV ([] : List UInt8)), nV, nV]])), (2, (Ob.map ((p.2.1).map q5b))), (3, (Ob.arr 9 1 ((p.2.2.1).map encS))), (4, (Ob.map ((p.2.2.2).map q5d)))], 5⟩ : St)) (fun n p => M84_L1 F a1 a3 k4 n p.1 p.2.1 p.2.2.1 p.2.2.2 = some r) (fun p h => by simp [M84_L1] at h) F (0, (mput ([] : List ((List UInt8) × Bool)) a2 true), ([a2] : List (List UInt8)), ([] : List (q6a × Bool))) h (q9f 5 (fun i => ([0, 1, 2, 3, 4] : List Nat).getD i 0) _ _ (by decide) (q0k.get (.cons (Sub.imm (Imm.con _)) (.cons (Sub.imm (Imm.con _)) (.cons (Sub.ptr rfl rfl) (.cons (Sub.ptr rfl rfl) (.cons (Sub.map rfl rfl) (.cons (Sub.ownE rfl rfl (by simp)) (.cons (Sub.map rfl rfl) (.cons (Sub.imm (Imm.con _)) .nil))))))))) (HpSub.get (.cons rfl (ObSub.box (.cons (Sub.imm (Imm.lst _ _)) (.cons (Sub.imm (Imm.lst _ _)) (.cons (Sub.imm (Imm.lst _ _)) (.cons (Sub.imm (Imm.lst _ _)) (.cons (Sub.imm (Imm.imap _)) (.cons (Sub.imm (Imm.imap _)) .nil))))))) (.cons rfl (ObSub.box (.cons (Sub.imm (Imm.con _)) (.cons (Sub.imm (Imm.con _)) (.cons (Sub.imm (Imm.con _)) .nil)))) (.cons rfl (ObSub.maps q6m) (.cons rfl (ObSub.rows (q9a q3j)) (.cons rfl (ObSub.maps q8n) .nil)))))) rfl) (fun n p h => ?_)
  obtain ⟨n11, m12, l13, m14⟩ := p
  unfold M84_L1 at h
  refine rn 8 rfl ?_
  refine spC h rfl (fun hb15 h => ?_) (fun hb15 h => ?_)
  ·refine rn 2 rfl ?_
   refine jK h (fun (p : (List ((List UInt8) × Bool)) × (List (List UInt8)) × (List (q6a × Bool))) => (⟨[(1, (sV a2)), (2, (sV a3)), (3, (V.ptr 0 6 0 0)), (6, (V.ptr 1 3 0 0)), (7, (V.map 2)), (8, (V.own 3 (p.2.1).length)), (9, (V.map 4)), (10, (iV n11))], [(0, (Ob.arr 155 6 [(q8c a1)])), (1, (Ob.arr 45 3 [[(sV ([] : List UInt8)), nV, nV]])), (2, (Ob.map ((p.1).map q5b))), (3, (Ob.arr 9 1 ((p.2.1).map encS))), (4, (Ob.map ((p.2.2).map q5d)))], 5⟩ : St)) (fun k16 p => k16 p.1 p.2.1 p.2.2 = some r) (fun k16 h => ?_) ?_
   ·obtain ⟨x20, hx21, h⟩ := bind_some h
    refine rn 2 rfl ?_
    refine dr mixed (vs 4 rfl (oD (a := l13) hx21 rfl rfl rfl rfl (lD hx21 rfl rfl rfl rfl rfl (xD (OD.mk [(32, (V.imap (a1.links.map q4m))), (36, (sV x20))] [] [(37, (V.lst 3 (((mget a1.links x20).getD ([] : (List q1a))).map q1b)))] []) ⟨⟨rfl, rfl, trivial⟩, trivial⟩ (by exact fun S hn h hh => q3e _ (V.lst 3 (([] : (List q1a)).map q1b)) (V.lst 3 (((mget a1.links x20).getD ([] : (List q1a))).map q1b)) tMap152 tKey9 tZo212 (fun _ => .nil _ _ _) q4a h.1 .imm (.con h.2.1) ⟨_, rfl⟩ encM9_212_good (encM9_212_look a1.links x20) (q1f (encM9_212_val) (mget a1.links x20) ([] : (List q1a))) rfl (q5c ⟨rfl, rfl⟩)) rfl (nD rfl rfl rfl (vs 1 rfl .nil)))))) (by kernel_rfl) ?_
    refine jK h (fun (p : (List ((List UInt8) × Bool)) × (List (List UInt8)) × (List (q6a × Bool))) => (⟨[(1, (sV a2)), (2, (sV a3)), (3, (V.ptr 0 6 0 0)), (6, (V.ptr 1 3 0 0)), (7, (V.map 2)), (8, (V.own 3 (p.2.1).length)), (9, (V.map 4)), (10, (iV n11))], [(0, (Ob.arr 155 6 [(q8c a1)])), (1, (Ob.arr 45 3 [[(sV ([] : List UInt8)), nV, nV]])), (2, (Ob.map ((p.1).map q5b))), (3, (Ob.arr 9 1 ((p.2.1).map encS))), (4, (Ob.map ((p.2.2).map q5d)))], 5⟩ : St)) (fun k22 p => k22 p.1 p.2.1 p.2.2 = some r) (fun k22 h => ?_) ?_
    ·refine rn 1 rfl ?_
     refine wl (A := ((mget a1.links x20).getD ([] : (List q1a)))) 37 rfl (fun hA77 => ?_)
     refine lC (fun (p : Int × (List ((List UInt8) × Bool)) × (List (List UInt8)) × (List (q6a × Bool))) => (⟨[(1, (sV a2)), (2, (sV a3)), (3, (V.ptr 0 6 0 0)), (6, (V.ptr 1 3 0 0)), (7, (V.map 2)), (8, (V.own 3 (p.2.2.1).length)), (9, (V.map 4)), (10, (iV n11)), (37, (V.lst 3 (((mget a1.links x20).getD ([] : (List q1a))).map q1b))), (38, (iV ((((mget a1.links x20).getD ([] : (List q1a))).length : Nat) : Int))), (39, (iV (p.1)))], [(0, (Ob.arr 155 6 [(q8c a1)])), (1, (Ob.arr 45 3 [[(sV ([] : List UInt8)), nV, nV]])), (2, (Ob.map ((p.2.1).map q5b))), (3, (Ob.arr 9 1 ((p.2.2.1).map encS))), (4, (Ob.map ((p.2.2.2).map q5d)))], 5⟩ : St)) (fun n p => RG ((mget a1.links x20).getD ([] : (List q1a))) (fun tl nn => M84_L2 F a1 a3 n11 k22 tl p.2.1 p.2.2.1 p.2.2.2 = some r) n p.1) (fun p h => RG.zero h) (((mget a1.links x20).getD ([] : (List q1a))).length + 1) (0, m12, l13, m14) (RG.start h) (gr [0, 1, 2, 3, 4] rfl (hB rfl rfl rfl (hB rfl rfl rfl (hM rfl rfl (hR rfl rfl (hM rfl rfl .nil))))) rfl) (fun n p h => ?_)
     obtain ⟨n30, m31, l32, m33⟩ := p
     refine rn 5 rfl ?_
     refine spL rfl (fun hb34 => ?_) (fun hb34 => ?_)
     ·obtain ⟨x39, tl, hx40, h, hk2⟩ := RG.t hA77 h hb34
      unfold M84_L2 at h
      refine rn 2 rfl ?_
      refine jK h (fun (p : (List ((List UInt8) × Bool)) × (List (List UInt8)) × (List (q6a × Bool))) => (⟨[(1, (sV a2)), (2, (sV a3)), (3, (V.ptr 0 6 0 0)), (6, (V.ptr 1 3 0 0)), (7, (V.map 2)), (8, (V.own 3 (p.2.1).length)), (9, (V.map 4)), (10, (iV n11)), (37, (V.lst 3 (((mget a1.links x20).getD ([] : (List q1a))).map q1b))), (38, (iV ((((mget a1.links x20).getD ([] : (List q1a))).length : Nat) : Int))), (39, (iV n30))], [(0, (Ob.arr 155 6 [(q8c a1)])), (1, (Ob.arr 45 3 [[(sV ([] : List UInt8)), nV, nV]])), (2, (Ob.map ((p.1).map q5b))), (3, (Ob.arr 9 1 ((p.2.1).map encS))), (4, (Ob.map ((p.2.2).map q5d)))], 5⟩ : St)) (fun k35 p => k35 p.1 p.2.1 p.2.2 = some r) (fun k35 h => ?_) ?_
      ·refine rn 3 rfl ?_
       refine ixh hx40 rfl rfl ?_
       obtain ⟨x41, hx42, h⟩ := bind_some h
       obtain ⟨x43, hx44, h⟩ := bind_some h
       refine rn 5 rfl ?_
       refine q7c q5f ?_
       refine fa ?_
       refine dr mixed (vs 4 rfl (oD (a := l32) hx42 rfl rfl rfl rfl (lD hx42 rfl rfl rfl rfl rfl (xD (OD.mk [(44, (V.imap (a1.funcs.map q7i))), (48, (sV x41))] [] [(49, (V.agg (q4c ((mget a1.funcs x41).getD (TFunc.mk ([] : List UInt8) ([] : List UInt8) ([] : (List TCall)) ([] : (List (List UInt8))))))))] []) ⟨⟨rfl, rfl, trivial⟩, trivial⟩ (by exact fun S hn h hh => q3e _ (V.agg [(sV ([] : List UInt8)), (sV ([] : List UInt8)), (V.lst 4 (([] : List TCall).map q9d)), (V.lst 1 (([] : List (List UInt8)).map encS))]) (V.agg (q4c ((mget a1.funcs x41).getD (TFunc.mk ([] : List UInt8) ([] : List UInt8) ([] : (List TCall)) ([] : (List (List UInt8))))))) tMap153 tKey9 tZo94 (irel_aggZ (.con (.con (.sl (.sl .nil))))) q4a h.1 .imm (.con h.2.1) ⟨_, rfl⟩ encM9_94_good (encM9_94_look a1.funcs x41) (q1f (q1n) (mget a1.funcs x41) (TFunc.mk ([] : List UInt8) ([] : List UInt8) ([] : (List TCall)) ([] : (List (List UInt8))))) rfl (q5c ⟨rfl, rfl⟩)) rfl (vs 4 rfl (iD hx44 rfl rfl rfl (vs 1 rfl (xD (OD.mk [] [(6, Ob.res)] [(13, (V.ptr 6 4 0 0))] [(6, (Ob.arr 109 4 [[(iV 0), (sV ([] : List UInt8)), (sV ([] : List UInt8)), (sV ([] : List UInt8))]]))]) ⟨trivial, ⟨rfl, trivial⟩⟩ (by exact fun S hn h hh => aops_alloc_at 6 rfl hn hh.1 tZ109 rfl rfl q4a rfl (q5c ⟨rfl, rfl⟩)) rfl (vs 1 rfl .nil))))))))) (by kernel_rfl) ?_
       refine rn 7 rfl ?_
       refine jK h (fun (p : (List (q6a × Bool))) => (⟨[(1, (sV a2)), (2, (sV a3)), (3, (V.ptr 0 6 0 0)), (6, (V.ptr 1 3 0 0)), (7, (V.map 2)), (8, (V.own 3 l32.length)), (9, (V.map 4)), (10, (iV n11)), (12, (V.ptr 5 3 0 0)), (37, (V.lst 3 (((mget a1.links x20).getD ([] : (List q1a))).map q1b))), (38, (iV ((((mget a1.links x20).getD ([] : (List q1a))).length : Nat) : Int))), (39, (iV n30))], [(0, (Ob.arr 155 6 [(q8c a1)])), (1, (Ob.arr 45 3 [[(sV ([] : List UInt8)), nV, nV]])), (2, (Ob.map (m31.map q5b))), (3, (Ob.arr 9 1 (l32.map encS))), (4, (Ob.map (p.map q5d))), (5, (Ob.arr 219 3 [(q1b x39)]))], 6⟩ : St)) (fun k45 p => k45 p = some r) (fun k45 h => ?_) ?_
       ·refine spC h rfl (fun hb47 h => ?_) (fun hb47 h => ?_)
        ·refine rn 7 rfl ?_
         refine q0e (es := m33.map q5d) ((mput m33 (q6a.mk x43.Target x43.Method) true).map q5d) tMap247 tKey160 q4a rfl rfl (.agg (cv160 (q6a.mk x43.Target x43.Method)) rfl) ⟨_, rfl⟩ encM160_4_good rfl (encM160_4_puts m33 (q6a.mk x43.Target x43.Method) true) ?_
         refine fo (rn 1 rfl ?_)
         exact jX (mput m33 (q6a.mk x43.Target x43.Method) true) h (gr [0, 1, 2, 3, 4, 5] rfl (hB rfl rfl rfl (hB rfl rfl rfl (hM rfl rfl (hR rfl rfl (hM rfl rfl (hB rfl rfl rfl .nil)))))) rfl)
        refine rn 1 rfl ?_
        exact jX m33 h (gr [0, 1, 2, 3, 4, 5] rfl (hB rfl rfl rfl (hB rfl rfl rfl (hM rfl rfl (hR rfl rfl (hM rfl rfl (hB rfl rfl rfl .nil)))))) rfl)
       intro m46 h
       refine rn 4 rfl ?_
       refine ln rfl rfl ?_
       refine rn 2 rfl ?_
       refine jK h (fun (p : (List ((List UInt8) × Bool)) × (List (List UInt8)) × (List (q6a × Bool))) => (⟨[(1, (sV a2)), (2, (sV a3)), (3, (V.ptr 0 6 0 0)), (6, (V.ptr 1 3 0 0)), (7, (V.map 2)), (8, (V.own 3 (p.2.1).length)), (9, (V.map 4)), (10, (iV n11)), (37, (V.lst 3 (((mget a1.links x20).getD ([] : (List q1a))).map q1b))), (38, (iV ((((mget a1.links x20).getD ([] : (List q1a))).length : Nat) : Int))), (39, (iV n30))], [(0, (Ob.arr 155 6 [(q8c a1)])), (1, (Ob.arr 45 3 [[(sV ([] : List UInt8)), nV, nV]])), (2, (Ob.map ((p.1).map q5b))), (3, (Ob.arr 9 1 ((p.2.1).map encS))), (4, (Ob.map ((p.2.2).map q5d)))], 5⟩ : St)) (fun k48 p => k48 p.1 p.2.1 p.2.2 = some r) (fun k48 h => ?_) ?_
       ·refine rn 1 rfl ?_
        refine wl (A := x39.aims) 66 rfl (fun hA76 => ?_)
        refine lC (fun (p : Int × (List ((List UInt8) × Bool)) × (List (List UInt8)) × (List (q6a × Bool))) => (⟨[(1, (sV a2)), (2, (sV a3)), (3, (V.ptr 0 6 0 0)), (6, (V.ptr 1 3 0 0)), (7, (V.map 2)), (8, (V.own 3 (p.2.2.1).length)), (9, (V.map 4)), (10, (iV n11)), (37, (V.lst 3 (((mget a1.links x20).getD ([] : (List q1a))).map q1b))), (38, (iV ((((mget a1.links x20).getD ([] : (List q1a))).length : Nat) : Int))), (39, (iV n30)), (66, (V.lst 2 (x39.aims.map q0c))), (67, (iV ((x39.aims.length : Nat) : Int))), (68, (iV (p.1)))], [(0, (Ob.arr 155 6 [(q8c a1)])), (1, (Ob.arr 45 3 [[(sV ([] : List UInt8)), nV, nV]])), (2, (Ob.map ((p.2.1).map q5b))), (3, (Ob.arr 9 1 ((p.2.2.1).map encS))), (4, (Ob.map ((p.2.2.2).map q5d)))], 5⟩ : St)) (fun n p => RG x39.aims (fun tl nn => M84_L3 F a1 a3 k48 tl p.2.1 p.2.2.1 p.2.2.2 = some r) n p.1) (fun p h => RG.zero h) (x39.aims.length + 1) (0, m31, l32, m46) (RG.start h) (gr [0, 1, 2, 3, 4] rfl (hB rfl rfl rfl (hB rfl rfl rfl (hM rfl rfl (hR rfl rfl (hM rfl rfl .nil))))) rfl) (fun n p h => ?_)
        obtain ⟨n56, m57, l58, m59⟩ := p
        refine rn 5 rfl ?_
        refine spL rfl (fun hb60 => ?_) (fun hb60 => ?_)
        ·obtain ⟨x65, tl, hx66, h, hk3⟩ := RG.t hA76 h hb60
         unfold M84_L3 at h
         refine rn 2 rfl ?_
         refine jK h (fun (p : (List ((List UInt8) × Bool)) × (List (List UInt8)) × (List (q6a × Bool))) => (⟨[(1, (sV a2)), (2, (sV a3)), (3, (V.ptr 0 6 0 0)), (6, (V.ptr 1 3 0 0)), (7, (V.map 2)), (8, (V.own 3 (p.2.1).length)), (9, (V.map 4)), (10, (iV n11)), (37, (V.lst 3 (((mget a1.links x20).getD ([] : (List q1a))).map q1b))), (38, (iV ((((mget a1.links x20).getD ([] : (List q1a))).length : Nat) : Int))), (39, (iV n30)), (66, (V.lst 2 (x39.aims.map q0c))), (67, (iV ((x39.aims.length : Nat) : Int))), (68, (iV n56))], [(0, (Ob.arr 155 6 [(q8c a1)])), (1, (Ob.arr 45 3 [[(sV ([] : List UInt8)), nV, nV]])), (2, (Ob.map ((p.1).map q5b))), (3, (Ob.arr 9 1 ((p.2.1).map encS))), (4, (Ob.map ((p.2.2).map q5d)))], 5⟩ : St)) (fun k61 p => k61 p.1 p.2.1 p.2.2 = some r) (fun k61 h => ?_) ?_
         ·refine rn 3 rfl ?_
          refine ixh hx66 rfl rfl ?_
          refine rn 11 rfl ?_
          refine q3e _ (V.agg [(sV ([] : List UInt8)), (sV ([] : List UInt8)), (V.lst 4 (([] : List TCall).map q9d)), (V.lst 1 (([] : List (List UInt8)).map encS))]) (V.agg (q4c ((mget a1.funcs x65.to).getD (TFunc.mk ([] : List UInt8) ([] : List UInt8) ([] : (List TCall)) ([] : (List (List UInt8))))))) tMap153 tKey9 tZo94 (irel_aggZ (.con (.con (.sl (.sl .nil))))) q4a rfl .imm (.con rfl) ⟨_, rfl⟩ encM9_94_good (encM9_94_look a1.funcs x65.to) (q1f (q1n) (mget a1.funcs x65.to) (TFunc.mk ([] : List UInt8) ([] : List UInt8) ([] : (List TCall)) ([] : (List (List UInt8))))) rfl ?_
          refine fo (rn 4 rfl ?_)
          refine spC h rfl (fun hb67 h => ?_) (fun hb67 h => ?_)
          ·refine rn 7 rfl ?_
           refine jK h (fun (p : (List (q6a × Bool))) => (⟨[(1, (sV a2)), (2, (sV a3)), (3, (V.ptr 0 6 0 0)), (6, (V.ptr 1 3 0 0)), (7, (V.map 2)), (8, (V.own 3 l58.length)), (9, (V.map 4)), (10, (iV n11)), (37, (V.lst 3 (((mget a1.links x20).getD ([] : (List q1a))).map q1b))), (38, (iV ((((mget a1.links x20).getD ([] : (List q1a))).length : Nat) : Int))), (39, (iV n30)), (66, (V.lst 2 (x39.aims.map q0c))), (67, (iV ((x39.aims.length : Nat) : Int))), (68, (iV n56))], [(0, (Ob.arr 155 6 [(q8c a1)])), (1, (Ob.arr 45 3 [[(sV ([] : List UInt8)), nV, nV]])), (2, (Ob.map (m57.map q5b))), (3, (Ob.arr 9 1 (l58.map encS))), (4, (Ob.map (p.map q5d)))], 5⟩ : St)) (fun k68 p => k68 p = some r) (fun k68 h => ?_) ?_
           ·refine spC h rfl (fun hb70 h => ?_) (fun hb70 h => ?_)
            ·refine rn 5 rfl ?_
             refine q0e (es := m59.map q5d) ((mput m59 (q6a.mk x65.to ([] : List UInt8)) true).map q5d) tMap247 tKey160 q4a rfl rfl (.agg (cv160 (q6a.mk x65.to ([] : List UInt8))) rfl) ⟨_, rfl⟩ encM160_4_good rfl (encM160_4_puts m59 (q6a.mk x65.to ([] : List UInt8)) true) ?_
             refine fo (rn 1 rfl ?_)
             exact jX (mput m59 (q6a.mk x65.to ([] : List UInt8)) true) h (gr [0, 1, 2, 3, 4] rfl (hB rfl rfl rfl (hB rfl rfl rfl (hM rfl rfl (hR rfl rfl (hM rfl rfl .nil))))) rfl)
            refine rn 1 rfl ?_
            exact jX m59 h (gr [0, 1, 2, 3, 4] rfl (hB rfl rfl rfl (hB rfl rfl rfl (hM rfl rfl (hR rfl rfl (hM rfl rfl .nil))))) rfl)
           intro m69 h
           refine rn 1 rfl ?_
           exact jX (m57, l58, m69) h (gr [0, 1, 2, 3, 4] rfl (hB rfl rfl rfl (hB rfl rfl rfl (hM rfl rfl (hR rfl rfl (hM rfl rfl .nil))))) rfl)
          refine rn 6 rfl ?_
          refine q3e _ (bV false) (bV ((mget m57 x65.to).getD false)) q2k tKey9 tZo4 (q3g _) q4a rfl (.own rfl) (.con rfl) ⟨_, rfl⟩ q6e (q3h m57 x65.to) (q1f (q0g) (mget m57 x65.to) false) rfl ?_
          refine fo (rn 2 rfl ?_)
          refine jK h (fun (p : (List ((List UInt8) × Bool)) × (List (List UInt8))) => (⟨[(1, (sV a2)), (2, (sV a3)), (3, (V.ptr 0 6 0 0)), (6, (V.ptr 1 3 0 0)), (7, (V.map 2)), (8, (V.own 3 (p.2).length)), (9, (V.map 4)), (10, (iV n11)), (37, (V.lst 3 (((mget a1.links x20).getD ([] : (List q1a))).map q1b))), (38, (iV ((((mget a1.links x20).getD ([] : (List q1a))).length : Nat) : Int))), (39, (iV n30)), (66, (V.lst 2 (x39.aims.map q0c))), (67, (iV ((x39.aims.length : Nat) : Int))), (68, (iV n56))], [(0, (Ob.arr 155 6 [(q8c a1)])), (1, (Ob.arr 45 3 [[(sV ([] : List UInt8)), nV, nV]])), (2, (Ob.map ((p.1).map q5b))), (3, (Ob.arr 9 1 ((p.2).map encS))), (4, (Ob.map (m59.map q5d)))], 5⟩ : St)) (fun k71 p => k71 p.1 p.2 = some r) (fun k71 h => ?_) ?_
          ·refine spC h rfl (fun hb74 h => ?_) (fun hb74 h => ?_)
           ·refine rn 5 rfl ?_
            refine q0e (es := m57.map q5b) ((mput m57 x65.to true).map q5b) q2k tKey9 q4a rfl rfl (.con rfl) ⟨_, rfl⟩ q6e rfl (q4i m57 x65.to true) ?_
            refine fo (rn 5 rfl ?_)
            refine q2e [(0, (sV x65.to))] [[(sV x65.to)]] tEl25 tZ9 rfl rfl rfl rfl q4a (q2f rfl q1h) rfl rfl (by simp) rfl ?_
            refine fo ?_
            refine apO encS h rfl rfl rfl rfl rfl rfl rfl rfl (fun h => ?_)
            refine rn 2 rfl ?_
            exact jX ((mput m57 x65.to true), (l58 ++ ([x65.to] : List (List UInt8)))) h (gr [0, 1, 2, 7, 4] rfl (hB rfl rfl rfl (hB rfl rfl rfl (hM rfl rfl (hR rfl rfl (hM rfl rfl .nil))))) rfl)
           refine rn 1 rfl ?_
           exact jX (m57, l58) h (gr [0, 1, 2, 3, 4] rfl (hB rfl rfl rfl (hB rfl rfl rfl (hM rfl rfl (hR rfl rfl (hM rfl rfl .nil))))) rfl)
          rintro ⟨m72, l73⟩ h
          refine rn 1 rfl ?_
          exact jX (m72, l73, m59) h (gr [0, 1, 2, 3, 4] rfl (hB rfl rfl rfl (hB rfl rfl rfl (hM rfl rfl (hR rfl rfl (hM rfl rfl .nil))))) rfl)
         rintro ⟨m62, l63, m64⟩ h
         refine rn 4 rfl ?_
         exact jX ((w64 (n56 + 1)), m62, l63, m64) (hk3 _ h) (gr [0, 1, 2, 3, 4] rfl (hB rfl rfl rfl (hB rfl rfl rfl (hM rfl rfl (hR rfl rfl (hM rfl rfl .nil))))) rfl)
        replace h := RG.f h hb60
        unfold M84_L3 at h
        refine rn 1 rfl ?_
        exact jX (m57, l58, m59) h (gr [0, 1, 2, 3, 4] rfl (hB rfl rfl rfl (hB rfl rfl rfl (hM rfl rfl (hR rfl rfl (hM rfl rfl .nil))))) rfl)
       rintro ⟨m49, l50, m51⟩ h
       refine rn 1 rfl ?_
       exact jX (m49, l50, m51) h (gr [0, 1, 2, 3, 4] rfl (hB rfl rfl rfl (hB rfl rfl rfl (hM rfl rfl (hR rfl rfl (hM rfl rfl .nil))))) rfl)
      rintro ⟨m36, l37, m38⟩ h
      refine rn 4 rfl ?_
      exact jX ((w64 (n30 + 1)), m36, l37, m38) (hk2 _ h) (gr [0, 1, 2, 3, 4] rfl (hB rfl rfl rfl (hB rfl rfl rfl (hM rfl rfl (hR rfl rfl (hM rfl rfl .nil))))) rfl)
     replace h := RG.f h hb34
     unfold M84_L2 at h
     refine rn 1 rfl ?_
     exact jX (m31, l32, m33) h (gr [0, 1, 2, 3, 4] rfl (hB rfl rfl rfl (hB rfl rfl rfl (hM rfl rfl (hR rfl rfl (hM rfl rfl .nil))))) rfl)
    rintro ⟨m23, l24, m25⟩ h
    refine rn 1 rfl ?_
    exact jX (m23, l24, m25) h (gr [0, 1, 2, 3, 4] rfl (hB rfl rfl rfl (hB rfl rfl rfl (hM rfl rfl (hR rfl rfl (hM rfl rfl .nil))))) rfl)
   rintro ⟨m17, l18, m19⟩ h
   refine rn 5 rfl ?_
   exact jX ((w64 (n11 + 1)), m17, l18, m19) h (gr [0, 1, 2, 3, 4] rfl (hB rfl rfl rfl (hB rfl rfl rfl (hM rfl rfl (hR rfl rfl (hM rfl rfl .nil))))) rfl)
  refine rn 1 rfl ?_
  exact jX (m12, m14) h (gr [1, 2, 4] rfl (hB rfl rfl rfl (hM rfl rfl (hM rfl rfl .nil))) rfl)
 rintro ⟨m5, m6⟩ h
 obtain ⟨y78, hx79, h⟩ := bind_some h
 refine rn 4 rfl ?_
 refine q3f (ghost_frzMx (es := m5.map q5b) 1 rfl q6m (.put (t := 103) rfl Sub.frzM (.put (t := 7) rfl Sub.frzM .refl)) .refl) ?_
 refine aops_call (V.lst 1 (y78.map encS)) [(V.imap (m5.map q5b))] fOk105 q4a (q7f rfl q9l) (.cons (Imm.imap _) .nil) (W105 F m5 y78 hx79) rfl ?_
 refine fo (rn 8 rfl ?_)
 refine q3f (ghost_frzMx (es := m6.map q5d) 2 rfl q8n (.put (t := 106) rfl Sub.frzM (.put (t := 9) rfl Sub.frzM .refl)) .refl) ?_
 refine aops_range tMap247 q4a rfl rfl ?_
 refine fo (rn 2 rfl ?_)
 refine lC (fun (p : (List (q6a × Bool)) × (List q6a)) => (⟨[(6, (V.ptr 0 3 0 0)), (16, (V.ptr 1 3 0 0)), (107, (V.ptr 2 1 0 0))], [(0, (Ob.arr 45 3 [[(sV ([] : List UInt8)), nV, nV]])), (1, (Ob.arr 45 3 [[(sV a2), (V.lst 1 (y78.map encS)), (V.own 3 (p.2).length)]])), (2, (Ob.iter [] ((p.1).map q5d))), (3, (Ob.arr 160 2 ((p.2).map q2c)))], 4⟩ : St)) (fun n p => RM n p.1 (M84_L4 F a2 y78 p.1 p.2 = some r)) (fun p h => RM.zero h) (m6.length + 1) (m6, ([] : List q6a)) (RM.start h) (Ghost.trans (ghost_nilC 3 160 2 (Ob.arr 45 3 [[(sV a2), (V.lst 1 (y78.map encS)), (V.own 5 0)]]) (ObSub.box (.cons Sub.keepNil (.cons Sub.keepNil (.cons Sub.mkNil .nil))))) (q9f 4 (fun i => ([0, 3, 4, 5] : List Nat).getD i 0) _ _ (by decide) (q0k.get (.cons (Sub.ptr rfl rfl) (.cons (Sub.ptr rfl rfl) (.cons (Sub.ptr rfl rfl) .nil)))) (HpSub.get (.cons rfl (ObSub.box (.cons (Sub.imm (Imm.con _)) (.cons (Sub.imm (Imm.con _)) (.cons (Sub.imm (Imm.con _)) .nil)))) (.cons rfl (ObSub.box (.cons (Sub.imm (Imm.con _)) (.cons (Sub.imm (Imm.lst _ _)) (.cons (Sub.ownE rfl rfl (by simp)) .nil)))) (.cons rfl ObSub.itr (.cons rfl (ObSub.rows (q9a q5h)) .nil))))) rfl)) (fun n p h => ?_)
 obtain ⟨l82, l83⟩ := p
 refine rn 2 rfl ?_
 refine nxt rfl rfl q4a rfl (fun hl4 => ?_) (fun e84 l85 hq4 hp4 => ?_)
 ·replace h := h.2
  subst hl4
  unfold M84_L4 at h
  refine rn 10 rfl ?_
  refine q7c (q6l 3 0 (Ob.arr 45 3 [[(sV a2), (V.lst 1 (y78.map encS)), (V.lst 2 (l83.map q2c))]]) rfl (q9a q5h) (ObSub.box (.cons Sub.keep (.cons Sub.keep (.cons (Sub.frzAll (rows := l83.map q2c) (List.length_map ..).symm) .nil))))) ?_
  refine fa ?_
  exact rt h rfl
 have hm4 := h
 replace h := ord_M84_L4 hp4 h.2
 unfold M84_L4 at h
 refine rn 5 rfl ?_
 refine jK h (fun (p : (List q6a)) => (⟨[(6, (V.ptr 0 3 0 0)), (16, (V.ptr 1 3 0 0)), (107, (V.ptr 2 1 0 0))], [(0, (Ob.arr 45 3 [[(sV ([] : List UInt8)), nV, nV]])), (1, (Ob.arr 45 3 [[(sV a2), (V.lst 1 (y78.map encS)), (V.own 3 p.length)]])), (2, (Ob.iter [] (l85.map q5d))), (3, (Ob.arr 160 2 (p.map q2c)))], 4⟩ : St)) (fun k86 p => k86 p = some r) (fun k86 h => ?_) ?_
 ·refine rn 3 rfl ?_
  refine aops_entry q4a rfl rfl rfl ?_
  refine q3f (ghost_tell 110 (V.tup [(V.agg (q2c e84.1)), (bV e84.2)]) rfl (Sub.tupKey rfl)) ?_
  refine fo (rn 12 rfl ?_)
  refine jK h (fun (p : Int) => (⟨[(6, (V.ptr 0 3 0 0)), (16, (V.ptr 1 3 0 0)), (17, (V.ptr 2 2 0 0)), (18, (iV p)), (107, (V.ptr 3 1 0 0))], [(0, (Ob.arr 45 3 [[(sV ([] : List UInt8)), nV, nV]])), (1, (Ob.arr 45 3 [[(sV a2), (V.lst 1 (y78.map encS)), (V.own 4 l83.length)]])), (2, (Ob.arr 160 2 [(q2c e84.1)])), (3, (Ob.iter [] (l85.map q5d))), (4, (Ob.arr 160 2 (l83.map q2c)))], 5⟩ : St)) (fun k88 p => k88 p = some r) (fun k88 h => ?_) ?_
  ·refine rn 1 rfl ?_
   refine ck h (fun hF102 h => ?_)
   refine lC (fun (p : Int) => (⟨[(6, (V.ptr 0 3 0 0)), (16, (V.ptr 1 3 0 0)), (17, (V.ptr 2 2 0 0)), (18, (iV p)), (107, (V.ptr 3 1 0 0))], [(0, (Ob.arr 45 3 [[(sV ([] : List UInt8)), nV, nV]])), (1, (Ob.arr 45 3 [[(sV a2), (V.lst 1 (y78.map encS)), (V.own 4 l83.length)]])), (2, (Ob.arr 160 2 [(q2c e84.1)])), (3, (Ob.iter [] (l85.map q5d))), (4, (Ob.arr 160 2 (l83.map q2c)))], 5⟩ : St)) (fun n p => M84_L5 F l83 e84 k88 n p = some r) (fun p h => by simp [M84_L5] at h) F ((l83.length : Nat) : Int) h (gr [0, 1, 4, 2, 3] rfl (hB rfl rfl rfl (hB rfl rfl rfl (hB rfl rfl rfl (hI rfl rfl (hR rfl rfl .nil))))) rfl) (fun n n91 h => ?_)
   unfold M84_L5 at h
   refine rn 2 rfl ?_
   refine bs h (fun hb92 h => ?_) (fun hb92 h => ?_)
   ·obtain ⟨x93, hx94, h⟩ := bind_some h
    refine bs h (fun hb95 h => ?_) (fun hb95 h => ?_)
    ·refine dr mixed (vs 2 rfl (vb hb92 rfl (vs 4 rfl (oD (a := l83) hx94 rfl rfl rfl rfl (vs 1 rfl (lD hx94 rfl rfl rfl rfl rfl (vs 3 rfl (vb hb95 rfl (vs 24 rfl .nil))))))))) (by kernel_rfl) ?_
     refine rn 9 rfl ?_
     exact jX (w64 (n91 - 1)) h (gr [0, 1, 2, 3, 4] rfl (hB rfl rfl rfl (hB rfl rfl rfl (hB rfl rfl rfl (hI rfl rfl (hR rfl rfl .nil))))) rfl)
    obtain ⟨x96, hx97, h⟩ := bind_some h
    refine bs h (fun hb98 h => ?_) (fun hb98 h => ?_)
    ·obtain ⟨x99, hx100, h⟩ := bind_some h
     refine dr mixed (vs 2 rfl (vb hb92 rfl (vs 4 rfl (oD (a := l83) hx94 rfl rfl rfl rfl (vs 1 rfl (lD hx94 rfl rfl rfl rfl rfl (vs 3 rfl (vb hb95 rfl (vs 4 rfl (oD (a := l83) hx97 rfl rfl rfl rfl (vs 1 rfl (lD hx97 rfl rfl rfl rfl rfl (vs 3 rfl (vb hb98 rfl (vs 4 rfl (oD (a := l83) hx100 rfl rfl rfl rfl (vs 1 rfl (lD hx100 rfl rfl rfl rfl rfl (vs 6 rfl .nil))))))))))))))))))) (by kernel_rfl) ?_
     refine spC h rfl (fun hb101 h => ?_) (fun hb101 h => ?_)
     ·refine rn 8 rfl ?_
      exact jX (w64 (n91 - 1)) h (gr [0, 1, 2, 3, 4] rfl (hB rfl rfl rfl (hB rfl rfl rfl (hB rfl rfl rfl (hI rfl rfl (hR rfl rfl .nil))))) rfl)
     refine rn 1 rfl ?_
     exact jX n91 h (gr [0, 1, 2, 3, 4] rfl (hB rfl rfl rfl (hB rfl rfl rfl (hB rfl rfl rfl (hI rfl rfl (hR rfl rfl .nil))))) rfl)
    refine dr mixed (vs 2 rfl (vb hb92 rfl (vs 4 rfl (oD (a := l83) hx94 rfl rfl rfl rfl (vs 1 rfl (lD hx94 rfl rfl rfl rfl rfl (vs 3 rfl (vb hb95 rfl (vs 4 rfl (oD (a := l83) hx97 rfl rfl rfl rfl (vs 1 rfl (lD hx97 rfl rfl rfl rfl rfl (vs 3 rfl (vb hb98 rfl (vs 13 rfl .nil))))))))))))))) (by kernel_rfl) ?_
    refine rn 2 rfl ?_
    exact jX n91 h (gr [0, 1, 2, 3, 4] rfl (hB rfl rfl rfl (hB rfl rfl rfl (hB rfl rfl rfl (hI rfl rfl (hR rfl rfl .nil))))) rfl)
   refine dr mixed (vs 2 rfl (vb hb92 rfl (vs 35 rfl .nil))) (by kernel_rfl) ?_
   refine rn 2 rfl ?_
   exact jX n91 h (gr [0, 1, 2, 3, 4] rfl (hB rfl rfl rfl (hB rfl rfl rfl (hB rfl rfl rfl (hI rfl rfl (hR rfl rfl .nil))))) rfl)
  intro n89 h
  refine q7c (q6l 4 1 (Ob.arr 45 3 [[(sV a2), (V.lst 1 (y78.map encS)), (V.lst 2 (l83.map q2c))]]) rfl (q9a q5h) (ObSub.box (.cons Sub.keep (.cons Sub.keep (.cons (Sub.frzAll (rows := l83.map q2c) (List.length_map ..).symm) .nil))))) ?_
  refine ck h (fun hc103 h => ?_)
  refine ck h (fun hc104 h => ?_)
  refine ck h (fun hc105 h => ?_)
  refine ck h (fun hc106 h => ?_)
  refine ck h (fun hc107 h => ?_)
  refine q7c q5f ?_
  refine q7c q5f ?_
  refine q7c q5f ?_
  refine q7c q5f ?_
  refine fa ?_
  refine dr mixed (xD (OD.mk [] [(5, Ob.res)] [(155, (V.own 5 0))] [(5, (Ob.arr 160 2 (([] : List q6a).map q2c)))]) ⟨trivial, ⟨rfl, trivial⟩⟩ (by exact fun S hn h hh => aops_emptySlice_at 5 rfl hn hh.1 tEl43 q4a rfl (q5c ⟨rfl, rfl⟩)) rfl (vs 3 rfl (xD (OD.mk [(157, (V.lst 2 (l83.map q2c))), (158, (iV n89))] [] [(159, (V.lst 2 ((l83.take n89.toNat).map q2c)))] []) ⟨⟨rfl, rfl, trivial⟩, trivial⟩ (by exact fun S hn h hh => q6h (0) (n89.toNat) ((l83.take n89.toNat).map q2c) tSl43 q4a h.1 rfl ⟨_, (by rw [Int.toNat_of_nonneg hc103.1]; exact h.2.1)⟩ (Nat.zero_le _) (by simpa using hc103.2) slL_lo rfl (q5c ⟨rfl, rfl⟩)) rfl (xD (OD.mk [(155, (V.own 5 0)), (159, (V.lst 2 ((l83.take n89.toNat).map q2c)))] [(5, (Ob.arr 160 2 (([] : List q6a).map q2c))), (6, Ob.res)] [(160, (V.own 6 (([] : List q6a) ++ (l83.take n89.toNat)).length))] [(6, (Ob.arr 160 2 ((([] : List q6a) ++ (l83.take n89.toNat)).map q2c))), (5, Ob.dead)]) ⟨⟨rfl, rfl, trivial⟩, ⟨rfl, rfl, trivial⟩⟩ (by exact fun S hn h hh => q1g 6 rfl hn hh.2.1 ((l83.take n89.toNat).map q2c) ((([] : List q6a) ++ (l83.take n89.toNat)).map q2c) tEl43 tIsSl43 rfl rfl q4a h.1 hh.1 (by simp) h.2.1 (.lst (q4l one_encTOuter)) (q5l q2c ([] : List q6a) (l83.take n89.toNat)) (List.length_map ..) hc104 rfl (q5c ⟨rfl, rfl⟩)) rfl (vs 1 rfl (xD (OD.mk [(161, (V.agg (q2c e84.1)))] [] [(162, (V.lst 2 (([e84.1] : List q6a).map q2c)))] []) ⟨⟨rfl, trivial⟩, trivial⟩ (by exact fun S hn h hh => q7e [(0, (V.agg (q2c e84.1)))] [(q2c e84.1)] tEl43 tZ160 q4a rfl rfl rfl rfl (q2f h.1 q1h) rfl rfl (by simp) (q3i (.cons (q5h _) .nil)) rfl (q5c ⟨rfl, rfl⟩)) rfl (xD (OD.mk [(160, (V.own 6 (([] : List q6a) ++ (l83.take n89.toNat)).length)), (162, (V.lst 2 (([e84.1] : List q6a).map q2c)))] [(6, (Ob.arr 160 2 ((([] : List q6a) ++ (l83.take n89.toNat)).map q2c))), (7, Ob.res)] [(163, (V.own 7 ((([] : List q6a) ++ (l83.take n89.toNat)) ++ ([e84.1] : List q6a)).length))] [(7, (Ob.arr 160 2 (((([] : List q6a) ++ (l83.take n89.toNat)) ++ ([e84.1] : List q6a)).map q2c))), (6, Ob.dead)]) ⟨⟨rfl, rfl, trivial⟩, ⟨rfl, rfl, trivial⟩⟩ (by exact fun S hn h hh => q1g 7 rfl hn hh.2.1 (([e84.1] : List q6a).map q2c) (((([] : List q6a) ++ (l83.take n89.toNat)) ++ ([e84.1] : List q6a)).map q2c) tEl43 tIsSl43 rfl rfl q4a h.1 hh.1 (by simp) h.2.1 (.lst (q4l one_encTOuter)) (q5l q2c (([] : List q6a) ++ (l83.take n89.toNat)) ([e84.1] : List q6a)) (List.length_map ..) hc105 rfl (q5c ⟨rfl, rfl⟩)) rfl (vs 3 rfl (xD (OD.mk [(165, (V.lst 2 (l83.map q2c))), (166, (iV n89))] [] [(167, (V.lst 2 ((l83.drop n89.toNat).map q2c)))] []) ⟨⟨rfl, rfl, trivial⟩, trivial⟩ (by exact fun S hn h hh => q6h (n89.toNat) (l83.length) ((l83.drop n89.toNat).map q2c) tSl43 q4a h.1 ⟨_, (by rw [Int.toNat_of_nonneg hc106.1]; exact h.2.1)⟩ (List.length_map ..).symm hc106.2 (Nat.le_of_eq (List.length_map ..).symm) slL_hi rfl (q5c ⟨rfl, rfl⟩)) rfl (xD (OD.mk [(163, (V.own 7 ((([] : List q6a) ++ (l83.take n89.toNat)) ++ ([e84.1] : List q6a)).length)), (167, (V.lst 2 ((l83.drop n89.toNat).map q2c)))] [(7, (Ob.arr 160 2 (((([] : List q6a) ++ (l83.take n89.toNat)) ++ ([e84.1] : List q6a)).map q2c))), (8, Ob.res)] [(168, (V.own 8 (((([] : List q6a) ++ (l83.take n89.toNat)) ++ ([e84.1] : List q6a)) ++ (l83.drop n89.toNat)).length))] [(8, (Ob.arr 160 2 ((((([] : List q6a) ++ (l83.take n89.toNat)) ++ ([e84.1] : List q6a)) ++ (l83.drop n89.toNat)).map q2c))), (7, Ob.dead)]) ⟨⟨rfl, rfl, trivial⟩, ⟨rfl, rfl, trivial⟩⟩ (by exact fun S hn h hh => q1g 8 rfl hn hh.2.1 ((l83.drop n89.toNat).map q2c) ((((([] : List q6a) ++ (l83.take n89.toNat)) ++ ([e84.1] : List q6a)) ++ (l83.drop n89.toNat)).map q2c) tEl43 tIsSl43 rfl rfl q4a h.1 hh.1 (by simp) h.2.1 (.lst (q4l one_encTOuter)) (q5l q2c ((([] : List q6a) ++ (l83.take n89.toNat)) ++ ([e84.1] : List q6a)) (l83.drop n89.toNat)) (List.length_map ..) hc107 rfl (q5c ⟨rfl, rfl⟩)) rfl (vs 2 rfl .nil))))))))))) (by kernel_rfl) ?_
  refine rn 1 rfl ?_
  exact jX (((([] : List q6a) ++ (l83.take n89.toNat)) ++ ([e84.1] : List q6a)) ++ (l83.drop n89.toNat)) h (gr [0, 1, 3, 8] rfl (hB rfl rfl rfl (hB rfl rfl rfl (hI rfl rfl (hR rfl rfl .nil)))) rfl)
 intro l87 h
 exact jX (l85, l87) (RM.step hm4 hq4 h) (gr [0, 1, 2, 3] rfl (hB rfl rfl rfl (hB rfl rfl rfl (hI rfl rfl (hR rfl rfl .nil)))) rfl)
theorem W20 (F : Nat) (a1 : q1c) (a2 : (List UInt8)) (a3 : (List (List UInt8))) (r : ((List q5a) × Int)) (h : M20 F a1 a2 a3 = some r) : Pure Tryz.prog 20 [(V.agg (q3c a1)), (sV a2), (V.lst 1 (a3.map encS))] (V.tup [(V.lst 3 ((r.1).map q4d)), (iV (r.2))]) := by
 refine pin (fun r => (V.tup [(V.lst 3 ((r.1).map q4d)), (iV (r.2))])) r rfl Tryz.func20 rfl rfl rfl rfl rfl (fun w0 m0 hg => ?_)
 unfold M20 at h
 refine rn 10 rfl ?_
 refine cl h rfl rfl rfl (W18 _ _) rfl (fun y4 hx5 h => ?_)
 refine rn 7 rfl ?_
 refine spC h rfl (fun hb6 h => ?_) (fun hb6 h => ?_)
 ·refine rn 6 rfl ?_
  exact rt h rfl
 refine rn 5 rfl ?_
 refine cl h rfl rfl rfl (W81 _ _) rfl (fun y7 hx8 h => ?_)
 refine rn 7 rfl ?_
 refine spC h rfl (fun hb9 h => ?_) (fun hb9 h => ?_)
 ·refine rn 6 rfl ?_
  exact rt h rfl
 refine rn 5 rfl ?_
 refine cl h rfl rfl rfl (W82 _ _) rfl (fun y10 hx11 h => ?_)
 refine rn 2 rfl ?_
 refine spC h rfl (fun hb12 h => ?_) (fun hb12 h => ?_)
 ·refine rn 5 rfl ?_
  exact rt h rfl
 refine rn 5 rfl ?_
 refine cl h rfl rfl rfl (W83 _ _ _) rfl (fun y13 hx14 h => ?_)
 refine rn 12 rfl ?_
 refine ln rfl rfl ?_
 refine rn 2 rfl ?_
 refine jK h (fun (p : (List q5a)) => (⟨[(11, (V.own 0 p.length))], [(0, (Ob.arr 45 3 (p.map q4d)))], 1⟩ : St)) (fun k15 p => k15 p = some r) (fun k15 h => ?_) ?_
 ·refine rn 1 rfl ?_
  refine wl (A := a1.Funcs) 31 rfl (fun hA30 => ?_)
  refine lC (fun (p : Int × (List q5a)) => (⟨[(1, (sV a2)), (10, (V.ptr 0 6 0 0)), (11, (V.own 1 (p.2).length)), (31, (V.lst 4 (a1.Funcs.map q4c))), (32, (iV ((a1.Funcs.length : Nat) : Int))), (33, (iV (p.1)))], [(0, (Ob.arr 155 6 [(q8c y13)])), (1, (Ob.arr 45 3 ((p.2).map q4d)))], 2⟩ : St)) (fun n p => RG a1.Funcs (fun tl nn => M20_L1 F a2 y13 k15 tl p.2 = some r) n p.1) (fun p h => RG.zero h) (a1.Funcs.length + 1) (0, ([] : List q5a)) (RG.start h) (Ghost.trans (q1j 11 45 3 rfl) (q9f 2 (fun i => ([1, 2] : List Nat).getD i 0) _ _ (by decide) (q0k.get (.cons (Sub.imm (Imm.con _)) (.cons (Sub.ptr rfl rfl) (.cons (Sub.ownE rfl rfl (by simp)) (.cons (Sub.imm (Imm.lst _ _)) (.cons (Sub.imm (Imm.con _)) (.cons (Sub.imm (Imm.con _)) .nil))))))) (HpSub.get (.cons rfl (ObSub.box (.cons (Sub.imm (Imm.lst _ _)) (.cons (Sub.imm (Imm.lst _ _)) (.cons (Sub.imm (Imm.lst _ _)) (.cons (Sub.imm (Imm.lst _ _)) (.cons (Sub.imm (Imm.imap _)) (.cons (Sub.imm (Imm.imap _)) .nil))))))) (.cons rfl (ObSub.rows (q9a q6j)) .nil))) rfl)) (fun n p h => ?_)
  obtain ⟨n19, l20⟩ := p
  refine rn 5 rfl ?_
  refine spL rfl (fun hb21 => ?_) (fun hb21 => ?_)
  ·obtain ⟨x22, tl, hx23, h, hk1⟩ := RG.t hA30 h hb21
   unfold M20_L1 at h
   refine rn 5 rfl ?_
   refine ixh hx23 rfl rfl ?_
   refine rn 11 rfl ?_
   refine jK h (fun (p : (List q5a)) => (⟨[(1, (sV a2)), (10, (V.ptr 0 6 0 0)), (11, (V.own 1 p.length)), (31, (V.lst 4 (a1.Funcs.map q4c))), (32, (iV ((a1.Funcs.length : Nat) : Int))), (33, (iV n19))], [(0, (Ob.arr 155 6 [(q8c y13)])), (1, (Ob.arr 45 3 (p.map q4d)))], 2⟩ : St)) (fun k24 p => k24 p = some r) (fun k24 h => ?_) ?_
   ·refine spC h rfl (fun hb26 h => ?_) (fun hb26 h => ?_)
    ·refine rn 6 rfl ?_
     refine cl h rfl rfl rfl (W84 _ _ _ _) rfl (fun y27 hx28 h => ?_)
     refine q2e [(0, (V.agg (q4d y27)))] [(q4d y27)] tEl39 tZ45 rfl rfl rfl rfl q4a (q2f rfl q1h) rfl rfl (by simp) rfl ?_
     refine fo ?_
     refine apO q4d h rfl rfl rfl rfl rfl rfl rfl rfl (fun h => ?_)
     refine rn 2 rfl ?_
     exact jX (l20 ++ ([y27] : List q5a)) h (gr [0, 4] rfl (hB rfl rfl rfl (hR rfl rfl .nil)) rfl)
    refine rn 1 rfl ?_
    exact jX l20 h (gr [0, 1] rfl (hB rfl rfl rfl (hR rfl rfl .nil)) rfl)
   intro l25 h
   refine rn 5 rfl ?_
   exact jX ((w64 (n19 + 1)), l25) (hk1 _ h) (gr [0, 1] rfl (hB rfl rfl rfl (hR rfl rfl .nil)) rfl)
  replace h := RG.f h hb21
  unfold M20_L1 at h
  refine rn 1 rfl ?_
  exact jX l20 h (gr [1] rfl (hR rfl rfl .nil) rfl)
 intro l16 h
 refine rn 6 rfl ?_
 refine q7c (q8i 0 [6, 11, 50] rfl (q9a q6j) (List.forall_mem_cons.2 ⟨rfl, (List.forall_mem_cons.2 ⟨rfl, (List.forall_mem_cons.2 ⟨rfl, (fun _ hx => nomatch hx)⟩)⟩)⟩) (List.length_map ..).symm) ?_
 refine fa ?_
 exact rt h rfl
theorem W14 (F : Nat) (r : Bool) (h : M14 F = some r) : Pure Tryz.prog 14 [] (bV r) := by
 unfold M14 at h
 replace h := Option.some.inj h
 subst h
 exact told_pure
theorem W194 (F : Nat) (a1 : q2d) (a2 : List UInt8) (a3 : List UInt8) (r : Bool) (h : M194 F a1 a2 a3 = some r) : Pure Tryz.prog 194 [(V.agg (q8b a1)), (V.iptr [(sV a2)] 0), (V.iptr [(sV a3)] 0)] (bV r) := by
 refine pin (fun r => (bV r)) r rfl Tryz.func194 rfl rfl rfl rfl rfl (fun w0 m0 hg => ?_)
 unfold M194 at h
 refine rn 12 rfl ?_
 refine spO 9 h rfl (fun hb4 h => ?_) (fun hb4 h => ?_)
 ·refine rn 3 rfl ?_
  refine cl h rfl rfl rfl (W23 _ _ _) rfl (fun y5 hx6 h => ?_)
  refine rn 3 rfl ?_
  exact rt h rfl
 refine rn 7 rfl ?_
 exact rt h rfl
theorem W246 (F : Nat) (a1 : (List q2d)) (a2 : List UInt8) (a3 : List UInt8) (r : Int) (h : M246 F a1 a2 a3 = some r) : Pure Tryz.prog 246 [(V.lst 2 (a1.map q8b)), (V.fn (.func 194) [] [(V.iptr [(sV a2)] 0), (V.iptr [(sV a3)] 0)])] (iV r) := by
 refine pin (fun r => (iV r)) r rfl Tryz.func246 rfl rfl rfl rfl rfl (fun w0 m0 hg => ?_)
 unfold M246 at h
 refine rn 8 rfl ?_
 refine ln rfl rfl ?_
 refine rn 2 rfl ?_
 refine jK h (fun _ : Unit => (⟨[], [], 0⟩ : St)) (fun k4 (_ : Unit) => k4 = some r) (fun k4 h => ?_) ?_
 ·refine rn 1 rfl ?_
  refine wl (A := a1) 0 rfl (fun hA13 => ?_)
  refine lC (fun (p : Int) => (⟨[(0, (V.lst 2 (a1.map q8b))), (1, (V.fn (.func 194) [] [(V.iptr [(sV a2)] 0), (V.iptr [(sV a3)] 0)])), (7, (iV ((a1.length : Nat) : Int))), (8, (iV p))], [], 0⟩ : St)) (fun n p => RG a1 (fun tl nn => M246_L1 F a2 a3 k4 tl nn = some r) n p) (fun p h => RG.zero h) (a1.length + 1) 0 (RG.start h) (g0 rfl rfl) (fun n n6 h => ?_)
  refine rn 5 rfl ?_
  refine spL rfl (fun hb7 => ?_) (fun hb7 => ?_)
  ·obtain ⟨x8, tl, hx9, h, hk1⟩ := RG.t hA13 h hb7
   unfold M246_L1 at h
   refine rn 13 rfl ?_
   refine ixh hx9 rfl rfl ?_
   refine rn 1 rfl ?_
   refine cl h rfl rfl rfl (W194 _ _ _ _) rfl (fun y10 hx11 h => ?_)
   refine rn 1 rfl ?_
   refine spC h rfl (fun hb12 h => ?_) (fun hb12 h => ?_)
   ·refine rn 5 rfl ?_
    exact rt h rfl
   refine rn 6 rfl ?_
   exact jX (w64 (n6 + 1)) (hk1 _ h) (g0 rfl rfl)
  replace h := RG.f h hb7
  unfold M246_L1 at h
  refine rn 1 rfl ?_
  exact jX () h (g0 rfl rfl)
 intro _ h
 refine rn 4 rfl ?_
 exact rt h rfl
theorem W193 (F : Nat) (a1 : (List q2d)) (a2 : List UInt8) (a3 : List UInt8) (r : Bool) (h : M193 F a1 a2 a3 = some r) : Pure Tryz.prog 193 [(V.lst 2 (a1.map q8b)), (V.fn (.func 194) [] [(V.iptr [(sV a2)] 0), (V.iptr [(sV a3)] 0)])] (bV r) := by
 refine pin (fun r => (bV r)) r rfl Tryz.func193 rfl rfl rfl rfl rfl (fun w0 m0 hg => ?_)
 unfold M193 at h
 refine rn 8 rfl ?_
 refine cl h rfl rfl rfl (W246 _ _ _ _) rfl (fun y4 hx5 h => ?_)
 refine rn 3 rfl ?_
 exact rt h rfl
theorem W147 (F : Nat) (a1 : q7a) (a2 : (List UInt8)) (a3 : (List UInt8)) (r : Bool) (h : M147 F a1 a2 a3 = some r) : Pure Tryz.prog 147 [(V.iptr (q2a a1) 0), (sV a2), (sV a3)] (bV r) := by
 refine pin (fun r => (bV r)) r rfl Tryz.func147 rfl rfl rfl rfl rfl (fun w0 m0 hg => ?_)
 unfold M147 at h
 obtain ⟨y4, hx5, h⟩ := bind_some h
 refine rn 14 rfl ?_
 refine aops_lend_call (bV y4) [(V.lst 2 (a1.g.Ifaces.map q8b)), (V.fn (.func 194) [] [(V.iptr [(sV a2)] 0), (V.iptr [(sV a3)] 0)])] fOk193 (Ghost.trans (ghost_frzV 0 12 (V.fn (.func 194) [] [(V.iptr [(sV a2)] 0), (V.ptr 1 1 0 0)]) rfl (q3i (.cons (.cons (Imm.con _) .nil) .nil)) rfl (Sub.fnc (.cons (Sub.frzptr rfl) (.cons Sub.keep .nil)))) (ghost_frzV 1 12 (V.fn (.func 194) [] [(V.iptr [(sV a2)] 0), (V.iptr [(sV a3)] 0)]) rfl (q3i (.cons (.cons (Imm.con _) .nil) .nil)) rfl (Sub.fnc (.cons Sub.keep (.cons (Sub.frzptr rfl) .nil))))) (Flat.con _) q4a (q7f rfl (q7f rfl q9l)) (.cons (Imm.lst _ _) (.cons (Imm.fn .nil (.cons (Imm.iptr _ _) (.cons (Imm.iptr _ _) .nil))) .nil)) (W193 F a1.g.Ifaces a2 a3 y4 hx5) rfl ?_
 refine fo (rn 2 rfl ?_)
 exact rt h rfl
theorem W87 (F : Nat) (a1 : q7a) (a2 : q5a) (a3 : (List ((List UInt8) × q5a))) (r : Int) (h : M87 F a1 a2 a3 = some r) : Pure Tryz.prog 87 [(V.iptr (q2a a1) 0), (V.agg (q4d a2)), (V.imap (a3.map q5g))] (iV r) := by
 refine pin (fun r => (iV r)) r rfl Tryz.func87 rfl rfl rfl rfl rfl (fun w0 m0 hg => ?_)
 unfold M87 at h
 refine rn 10 rfl ?_
 refine q2e [(0, (sV a2.Func))] [[(sV a2.Func)]] tEl25 tZ9 rfl rfl rfl rfl q4a (q2f rfl q1h) rfl rfl (by simp) rfl ?_
 refine fo (rn 2 rfl ?_)
 refine apL encS h rfl rfl rfl (by simp) rfl (fun h => ?_)
 refine rn 3 rfl ?_
 refine jK h (fun _ : Unit => (⟨[(0, (V.iptr (q2a a1) 0)), (2, (V.imap (a3.map q5g))), (4, (V.ptr 0 3 0 0))], [(0, (Ob.arr 45 3 [(q4d a2)]))], 1⟩ : St)) (fun k5 (_ : Unit) => k5 = some r) (fun k5 h => ?_) ?_
 ·refine rn 1 rfl ?_
  refine wlO (A := (([a2.Func] : List (List UInt8)) ++ a2.Within)) 2 rfl (fun hA12 => ?_)
  refine lC (fun (p : Int) => (⟨[(0, (V.iptr (q2a a1) 0)), (2, (V.imap (a3.map q5g))), (4, (V.ptr 0 3 0 0)), (22, (V.own 1 (([a2.Func] : List (List UInt8)) ++ a2.Within).length)), (23, (iV (((([a2.Func] : List (List UInt8)) ++ a2.Within).length : Nat) : Int))), (24, (iV p))], [(0, (Ob.arr 45 3 [(q4d a2)])), (1, (Ob.arr 9 1 ((([a2.Func] : List (List UInt8)) ++ a2.Within).map encS)))], 2⟩ : St)) (fun n p => RG (([a2.Func] : List (List UInt8)) ++ a2.Within) (fun tl nn => M87_L1 F a1 k5 tl = some r) n p) (fun p h => RG.zero h) ((([a2.Func] : List (List UInt8)) ++ a2.Within).length + 1) 0 (RG.start h) (gr [0, 2] rfl (hB rfl rfl rfl (hR rfl rfl .nil)) rfl) (fun n n7 h => ?_)
  refine rn 5 rfl ?_
  refine spL rfl (fun hb8 => ?_) (fun hb8 => ?_)
  ·obtain ⟨x9, tl, hx10, h, hk1⟩ := RG.t hA12 h hb8
   unfold M87_L1 at h
   refine rn 5 rfl ?_
   refine ixoh (a := (([a2.Func] : List (List UInt8)) ++ a2.Within)) hx10 rfl rfl rfl ?_
   refine ldp hx10 rfl rfl rfl rfl ?_
   refine rn 9 rfl ?_
   refine q7h _ (iV 0) (iV ((mget a1.funcs x9).getD 0)) tMap87 tKey9 tZo3 (q3g _) q4a rfl .imm (.con rfl) ⟨_, rfl⟩ q5i (q7j a1.funcs x9) (q1f (q0i) (mget a1.funcs x9) 0) (isSome_map ..) rfl ?_
   refine fo (rn 11 rfl ?_)
   refine spC h rfl (fun hb11 h => ?_) (fun hb11 h => ?_)
   ·refine rn 4 rfl ?_
    exact rt h rfl
   refine rn 6 rfl ?_
   exact jX (w64 (n7 + 1)) (hk1 _ h) (gr [0, 1] rfl (hB rfl rfl rfl (hR rfl rfl .nil)) rfl)
  replace h := RG.f h hb8
  unfold M87_L1 at h
  refine rn 1 rfl ?_
  exact jX () h (gr [0] rfl (hB rfl rfl rfl .nil) rfl)
 intro _ h
 refine rn 5 rfl ?_
 refine ln rfl rfl ?_
 refine rn 2 rfl ?_
 refine jK h (fun _ : Unit => (⟨[(2, (V.imap (a3.map q5g))), (4, (V.ptr 0 3 0 0))], [(0, (Ob.arr 45 3 [(q4d a2)]))], 1⟩ : St)) (fun k13 (_ : Unit) => k13 = some r) (fun k13 h => ?_) ?_
 ·refine rn 1 rfl ?_
  refine wl (A := a2.Outer) 41 rfl (fun hA31 => ?_)
  refine lC (fun (p : Int) => (⟨[(0, (V.iptr (q2a a1) 0)), (2, (V.imap (a3.map q5g))), (4, (V.ptr 0 3 0 0)), (41, (V.lst 2 (a2.Outer.map q2c))), (42, (iV ((a2.Outer.length : Nat) : Int))), (43, (iV p))], [(0, (Ob.arr 45 3 [(q4d a2)]))], 1⟩ : St)) (fun n p => RG a2.Outer (fun tl nn => M87_L2 F a1 k13 tl = some r) n p) (fun p h => RG.zero h) (a2.Outer.length + 1) 0 (RG.start h) (gr [0] rfl (hB rfl rfl rfl .nil) rfl) (fun n n15 h => ?_)
  refine rn 5 rfl ?_
  refine spL rfl (fun hb16 => ?_) (fun hb16 => ?_)
  ·obtain ⟨x19, tl, hx20, h, hk2⟩ := RG.t hA31 h hb16
   unfold M87_L2 at h
   refine rn 2 rfl ?_
   refine jK h (fun (p : Bool) => (⟨[(0, (V.iptr (q2a a1) 0)), (2, (V.imap (a3.map q5g))), (4, (V.ptr 0 3 0 0)), (41, (V.lst 2 (a2.Outer.map q2c))), (42, (iV ((a2.Outer.length : Nat) : Int))), (43, (iV n15)), (76, (bV p))], [(0, (Ob.arr 45 3 [(q4d a2)]))], 1⟩ : St)) (fun k17 p => k17 p = some r) (fun k17 h => ?_) ?_
   ·refine rn 3 rfl ?_
    refine ixh hx20 rfl rfl ?_
    refine rn 5 rfl ?_
    refine dr mixed (vs 6 rfl (xD (OD.mk [(51, (V.imap (a1.funcs.map q5e))), (53, (sV x19.Target))] [] [(54, (V.tup [(iV ((mget a1.funcs x19.Target).getD 0)), (bV ((mget a1.funcs x19.Target).isSome))]))] []) ⟨⟨rfl, rfl, trivial⟩, trivial⟩ (by exact fun S hn h hh => q7h _ (iV 0) (iV ((mget a1.funcs x19.Target).getD 0)) tMap87 tKey9 tZo3 (q3g _) q4a h.1 .imm (.con h.2.1) ⟨_, rfl⟩ q5i (q7j a1.funcs x19.Target) (q1f (q0i) (mget a1.funcs x19.Target) 0) (isSome_map ..) rfl (q5c ⟨rfl, rfl⟩)) rfl (vs 5 rfl .nil))) (by kernel_rfl) ?_
    refine rn 6 rfl ?_
    refine spO 60 h rfl (fun hb21 h => ?_) (fun hb21 h => ?_)
    ·refine rn 4 rfl ?_
     refine spO 64 h rfl (fun hb22 h => ?_) (fun hb22 h => ?_)
     ·refine rn 19 rfl ?_
      exact rt h rfl
     refine rn 4 rfl ?_
     refine spO 68 h rfl (fun hb23 h => ?_) (fun hb23 h => ?_)
     ·refine rn 5 rfl ?_
      refine cl h rfl rfl rfl (W147 _ _ _ _) rfl (fun y24 hx25 h => ?_)
      refine rn 4 rfl ?_
      refine spC h rfl (fun hb26 h => ?_) (fun hb26 h => ?_)
      ·refine rn 4 rfl ?_
       exact rt h rfl
      refine rn 2 rfl ?_
      exact jX (!y24) h (gr [0] rfl (hB rfl rfl rfl .nil) rfl)
     refine rn 13 rfl ?_
     exact jX false h (gr [0] rfl (hB rfl rfl rfl .nil) rfl)
    refine rn 8 rfl ?_
    refine spO 68 h rfl (fun hb27 h => ?_) (fun hb27 h => ?_)
    ·refine rn 5 rfl ?_
     refine cl h rfl rfl rfl (W147 _ _ _ _) rfl (fun y28 hx29 h => ?_)
     refine rn 4 rfl ?_
     refine spC h rfl (fun hb30 h => ?_) (fun hb30 h => ?_)
     ·refine rn 4 rfl ?_
      exact rt h rfl
     refine rn 2 rfl ?_
     exact jX (!y28) h (gr [0] rfl (hB rfl rfl rfl .nil) rfl)
    refine rn 13 rfl ?_
    exact jX false h (gr [0] rfl (hB rfl rfl rfl .nil) rfl)
   intro b18 h
   refine rn 4 rfl ?_
   exact jX (w64 (n15 + 1)) (hk2 _ h) (gr [0] rfl (hB rfl rfl rfl .nil) rfl)
  replace h := RG.f h hb16
  unfold M87_L2 at h
  refine rn 1 rfl ?_
  exact jX () h (gr [0] rfl (hB rfl rfl rfl .nil) rfl)
 intro _ h
 refine rn 6 rfl ?_
 refine q7h _ (V.agg [(sV ([] : List UInt8)), (V.lst 1 (([] : List (List UInt8)).map encS)), (V.lst 2 (([] : List q6a).map q2c))]) (V.agg (q4d ((mget a3 a2.Func).getD (q5a.mk ([] : List UInt8) ([] : (List (List UInt8))) ([] : (List q6a)))))) tMap162 tKey9 tZo45 (irel_aggZ (.con (.sl (.sl .nil)))) q4a rfl .imm (.con rfl) ⟨_, rfl⟩ encM9_45_good (encM9_45_look a3 a2.Func) (q1f (q2n) (mget a3 a2.Func) (q5a.mk ([] : List UInt8) ([] : (List (List UInt8))) ([] : (List q6a)))) (isSome_map ..) rfl ?_
 refine fo (rn 11 rfl ?_)
 refine spC h rfl (fun hb32 h => ?_) (fun hb32 h => ?_)
 ·refine rn 4 rfl ?_
  exact rt h rfl
 refine rn 5 rfl ?_
 exact rt h rfl
theorem W88 (F : Nat) (a1 : q7a) (a2 : Int) (a3 : (List ((List UInt8) × q5a))) (r : (List Int)) (h : M88 F a1 a2 a3 = some r) : Pure Tryz.prog 88 [(V.iptr (q2a a1) 0), (iV a2), (V.imap (a3.map q5g))] (V.lst 1 (r.map q8a)) := by
 refine pin (fun r => (V.lst 1 (r.map q8a))) r rfl Tryz.func88 rfl rfl rfl rfl rfl (fun w0 m0 hg => ?_)
 unfold M88 at h
 refine rn 17 rfl ?_
 refine ixl h rfl rfl (fun x4 hx5 h => ?_)
 refine rn 2 rfl ?_
 refine q7h _ (V.agg [(sV ([] : List UInt8)), (V.lst 1 (([] : List (List UInt8)).map encS)), (V.lst 2 (([] : List q6a).map q2c))]) (V.agg (q4d ((mget a3 x4.Name).getD (q5a.mk ([] : List UInt8) ([] : (List (List UInt8))) ([] : (List q6a)))))) tMap162 tKey9 tZo45 (irel_aggZ (.con (.sl (.sl .nil)))) q4a rfl .imm (.con rfl) ⟨_, rfl⟩ encM9_45_good (encM9_45_look a3 x4.Name) (q1f (q2n) (mget a3 x4.Name) (q5a.mk ([] : List UInt8) ([] : (List (List UInt8))) ([] : (List q6a)))) (isSome_map ..) rfl ?_
 refine fo (rn 13 rfl ?_)
 refine spC h rfl (fun hb6 h => ?_) (fun hb6 h => ?_)
 ·refine rn 9 rfl ?_
  refine ixl h rfl rfl (fun x7 hx8 h => ?_)
  refine rn 2 rfl ?_
  refine ln rfl rfl ?_
  refine rn 2 rfl ?_
  refine jK h (fun (p : (List Int)) => (⟨[(7, (V.own 0 p.length))], [(0, (Ob.arr 3 1 (p.map q8a)))], 1⟩ : St)) (fun k9 p => k9 p = some r) (fun k9 h => ?_) ?_
  ·refine rn 1 rfl ?_
   refine wl (A := x7.Calls) 41 rfl (fun hA24 => ?_)
   refine lC (fun (p : Int × (List Int)) => (⟨[(0, (V.iptr (q2a a1) 0)), (7, (V.own 0 (p.2).length)), (41, (V.lst 4 (x7.Calls.map q9d))), (42, (iV ((x7.Calls.length : Nat) : Int))), (43, (iV (p.1)))], [(0, (Ob.arr 3 1 ((p.2).map q8a)))], 1⟩ : St)) (fun n p => RG x7.Calls (fun tl nn => M88_L1 F a1 k9 tl p.2 = some r) n p.1) (fun p h => RG.zero h) (x7.Calls.length + 1) (0, ([] : List Int)) (RG.start h) (Ghost.trans (q1j 7 3 1 rfl) (q9f 1 (fun i => ([1] : List Nat).getD i 0) _ _ (by decide) (q0k.get (.cons (Sub.imm (Imm.iptr _ _)) (.cons (Sub.ownE rfl rfl (by simp)) (.cons (Sub.imm (Imm.lst _ _)) (.cons (Sub.imm (Imm.con _)) (.cons (Sub.imm (Imm.con _)) .nil)))))) (HpSub.get (.cons rfl (ObSub.rows (q9a q3b)) .nil)) rfl)) (fun n p h => ?_)
   obtain ⟨n13, l14⟩ := p
   refine rn 5 rfl ?_
   refine spL rfl (fun hb15 => ?_) (fun hb15 => ?_)
   ·obtain ⟨x16, tl, hx17, h, hk1⟩ := RG.t hA24 h hb15
    unfold M88_L1 at h
    refine rn 5 rfl ?_
    refine ixh hx17 rfl rfl ?_
    refine rn 5 rfl ?_
    refine dr mixed (vs 6 rfl (xD (OD.mk [(50, (V.imap (a1.on.map q5b))), (52, (sV x16.Feature))] [] [(53, (bV ((mget a1.on x16.Feature).getD false)))] []) ⟨⟨rfl, rfl, trivial⟩, trivial⟩ (by exact fun S hn h hh => q3e _ (bV false) (bV ((mget a1.on x16.Feature).getD false)) q2k tKey9 tZo4 (q3g _) q4a h.1 .imm (.con h.2.1) ⟨_, rfl⟩ q6e (q3h a1.on x16.Feature) (q1f (q0g) (mget a1.on x16.Feature) false) rfl (q5c ⟨rfl, rfl⟩)) rfl .nil)) (by kernel_rfl) ?_
    refine jK h (fun (p : (List Int)) => (⟨[(0, (V.iptr (q2a a1) 0)), (7, (V.own 0 p.length)), (41, (V.lst 4 (x7.Calls.map q9d))), (42, (iV ((x7.Calls.length : Nat) : Int))), (43, (iV n13))], [(0, (Ob.arr 3 1 (p.map q8a)))], 1⟩ : St)) (fun k18 p => k18 p = some r) (fun k18 h => ?_) ?_
    ·refine spC h rfl (fun hb20 h => ?_) (fun hb20 h => ?_)
     ·refine rn 4 rfl ?_
      refine cl h rfl rfl rfl (W92 _ _ _) rfl (fun y21 hx22 h => ?_)
      refine apL q8a h rfl rfl rfl rfl rfl (fun h => ?_)
      refine rn 2 rfl ?_
      exact jX (l14 ++ y21) h (gr [2] rfl (hR rfl rfl .nil) rfl)
     refine rn 1 rfl ?_
     exact jX l14 h (gr [0] rfl (hR rfl rfl .nil) rfl)
    intro l19 h
    refine rn 5 rfl ?_
    exact jX ((w64 (n13 + 1)), l19) (hk1 _ h) (gr [0] rfl (hR rfl rfl .nil) rfl)
   replace h := RG.f h hb15
   unfold M88_L1 at h
   refine rn 1 rfl ?_
   exact jX l14 h (gr [0] rfl (hR rfl rfl .nil) rfl)
  intro l10 h
  refine rn 5 rfl ?_
  refine q7c (q8i 0 [6, 7, 60] rfl (q9a q3b) (List.forall_mem_cons.2 ⟨rfl, (List.forall_mem_cons.2 ⟨rfl, (List.forall_mem_cons.2 ⟨rfl, (fun _ hx => nomatch hx)⟩)⟩)⟩) (List.length_map ..).symm) ?_
  refine fa ?_
  exact rt h rfl
 refine rn 6 rfl ?_
 refine ln rfl rfl ?_
 refine rn 2 rfl ?_
 refine jK h (fun (p : (List Int)) => (⟨[(0, (V.iptr (q2a a1) 0)), (7, (V.own 0 p.length)), (8, (V.ptr 1 3 0 0))], [(0, (Ob.arr 3 1 (p.map q8a))), (1, (Ob.arr 45 3 [(q4d ((mget a3 x4.Name).getD (q5a.mk ([] : List UInt8) ([] : (List (List UInt8))) ([] : (List q6a)))))]))], 2⟩ : St)) (fun k25 p => k25 p = some r) (fun k25 h => ?_) ?_
 ·refine rn 1 rfl ?_
  refine wl (A := ((mget a3 x4.Name).getD (q5a.mk ([] : List UInt8) ([] : (List (List UInt8))) ([] : (List q6a)))).Within) 62 rfl (fun hA35 => ?_)
  refine lC (fun (p : Int × (List Int)) => (⟨[(0, (V.iptr (q2a a1) 0)), (7, (V.own 0 (p.2).length)), (8, (V.ptr 1 3 0 0)), (62, (V.lst 1 (((mget a3 x4.Name).getD (q5a.mk ([] : List UInt8) ([] : (List (List UInt8))) ([] : (List q6a)))).Within.map encS))), (63, (iV ((((mget a3 x4.Name).getD (q5a.mk ([] : List UInt8) ([] : (List (List UInt8))) ([] : (List q6a)))).Within.length : Nat) : Int))), (64, (iV (p.1)))], [(0, (Ob.arr 3 1 ((p.2).map q8a))), (1, (Ob.arr 45 3 [(q4d ((mget a3 x4.Name).getD (q5a.mk ([] : List UInt8) ([] : (List (List UInt8))) ([] : (List q6a)))))]))], 2⟩ : St)) (fun n p => RG (((mget a3 x4.Name).getD (q5a.mk ([] : List UInt8) ([] : (List (List UInt8))) ([] : (List q6a)))).Within) (fun tl nn => M88_L2 F a1 k25 tl p.2 = some r) n p.1) (fun p h => RG.zero h) ((((mget a3 x4.Name).getD (q5a.mk ([] : List UInt8) ([] : (List (List UInt8))) ([] : (List q6a)))).Within).length + 1) (0, ([] : List Int)) (RG.start h) (Ghost.trans (q1j 7 3 1 rfl) (q9f 2 (fun i => ([1, 0] : List Nat).getD i 0) _ _ (by decide) (q0k.get (.cons (Sub.imm (Imm.iptr _ _)) (.cons (Sub.ownE rfl rfl (by simp)) (.cons (Sub.ptr rfl rfl) (.cons (Sub.imm (Imm.lst _ _)) (.cons (Sub.imm (Imm.con _)) (.cons (Sub.imm (Imm.con _)) .nil))))))) (HpSub.get (.cons rfl (ObSub.rows (q9a q3b)) (.cons rfl (ObSub.box (.cons (Sub.imm (Imm.con _)) (.cons (Sub.imm (Imm.lst _ _)) (.cons (Sub.imm (Imm.lst _ _)) .nil)))) .nil))) rfl)) (fun n p h => ?_)
  obtain ⟨n29, l30⟩ := p
  refine rn 5 rfl ?_
  refine spL rfl (fun hb31 => ?_) (fun hb31 => ?_)
  ·obtain ⟨x32, tl, hx33, h, hk2⟩ := RG.t hA35 h hb31
   unfold M88_L2 at h
   refine rn 5 rfl ?_
   refine ixh hx33 rfl rfl ?_
   refine rn 10 rfl ?_
   refine q3e _ (iV 0) (iV ((mget a1.funcs x32).getD 0)) tMap87 tKey9 tZo3 (q3g _) q4a rfl .imm (.con rfl) ⟨_, rfl⟩ q5i (q7j a1.funcs x32) (q1f (q0i) (mget a1.funcs x32) 0) rfl ?_
   refine q2e [(0, (iV ((mget a1.funcs x32).getD 0)))] [[(iV ((mget a1.funcs x32).getD 0))]] tEl165 tZ3 rfl rfl rfl rfl q4a (q2f rfl q1h) rfl rfl (by simp) rfl ?_
   refine fo ?_
   refine apO q8a h rfl rfl rfl rfl rfl rfl rfl rfl (fun h => ?_)
   refine rn 7 rfl ?_
   exact jX ((w64 (n29 + 1)), (l30 ++ ([((mget a1.funcs x32).getD 0)] : List Int))) (hk2 _ h) (gr [3, 1] rfl (hR rfl rfl (hB rfl rfl rfl .nil)) rfl)
  replace h := RG.f h hb31
  unfold M88_L2 at h
  refine rn 1 rfl ?_
  exact jX l30 h (gr [0, 1] rfl (hR rfl rfl (hB rfl rfl rfl .nil)) rfl)
 intro l26 h
 refine rn 5 rfl ?_
 refine ln rfl rfl ?_
 refine rn 2 rfl ?_
 refine jK h (fun (p : (List Int)) => (⟨[(7, (V.own 0 p.length))], [(0, (Ob.arr 3 1 (p.map q8a)))], 1⟩ : St)) (fun k36 p => k36 p = some r) (fun k36 h => ?_) ?_
 ·refine rn 1 rfl ?_
  refine wl (A := ((mget a3 x4.Name).getD (q5a.mk ([] : List UInt8) ([] : (List (List UInt8))) ([] : (List q6a)))).Outer) 79 rfl (fun hA51 => ?_)
  refine lC (fun (p : Int × (List Int)) => (⟨[(0, (V.iptr (q2a a1) 0)), (7, (V.own 0 (p.2).length)), (79, (V.lst 2 (((mget a3 x4.Name).getD (q5a.mk ([] : List UInt8) ([] : (List (List UInt8))) ([] : (List q6a)))).Outer.map q2c))), (80, (iV ((((mget a3 x4.Name).getD (q5a.mk ([] : List UInt8) ([] : (List (List UInt8))) ([] : (List q6a)))).Outer.length : Nat) : Int))), (81, (iV (p.1)))], [(0, (Ob.arr 3 1 ((p.2).map q8a)))], 1⟩ : St)) (fun n p => RG (((mget a3 x4.Name).getD (q5a.mk ([] : List UInt8) ([] : (List (List UInt8))) ([] : (List q6a)))).Outer) (fun tl nn => M88_L3 F a1 k36 tl p.2 = some r) n p.1) (fun p h => RG.zero h) ((((mget a3 x4.Name).getD (q5a.mk ([] : List UInt8) ([] : (List (List UInt8))) ([] : (List q6a)))).Outer).length + 1) (0, l26) (RG.start h) (gr [0] rfl (hR rfl rfl .nil) rfl) (fun n p h => ?_)
  obtain ⟨n40, l41⟩ := p
  refine rn 5 rfl ?_
  refine spL rfl (fun hb42 => ?_) (fun hb42 => ?_)
  ·obtain ⟨x43, tl, hx44, h, hk3⟩ := RG.t hA51 h hb42
   unfold M88_L3 at h
   refine rn 5 rfl ?_
   refine ixh hx44 rfl rfl ?_
   refine rn 21 rfl ?_
   refine jK h (fun (p : Int) => (⟨[(0, (V.iptr (q2a a1) 0)), (7, (V.own 0 l41.length)), (16, (V.ptr 1 4 0 0)), (79, (V.lst 2 (((mget a3 x4.Name).getD (q5a.mk ([] : List UInt8) ([] : (List (List UInt8))) ([] : (List q6a)))).Outer.map q2c))), (80, (iV ((((mget a3 x4.Name).getD (q5a.mk ([] : List UInt8) ([] : (List (List UInt8))) ([] : (List q6a)))).Outer.length : Nat) : Int))), (81, (iV n40))], [(0, (Ob.arr 3 1 (l41.map q8a))), (1, (Ob.arr 109 4 [[(iV p), (sV x43.Target), (sV x43.Method), (sV ([] : List UInt8))]]))], 2⟩ : St)) (fun k45 p => k45 p = some r) (fun k45 h => ?_) ?_
   ·refine spC h rfl (fun hb47 h => ?_) (fun hb47 h => ?_)
    ·refine rn 4 rfl ?_
     exact jX 2 h (gr [0, 2] rfl (hR rfl rfl (hB rfl rfl rfl .nil)) rfl)
    refine rn 1 rfl ?_
    exact jX 1 h (gr [0, 2] rfl (hR rfl rfl (hB rfl rfl rfl .nil)) rfl)
   intro n46 h
   refine rn 4 rfl ?_
   refine cl h rfl rfl rfl (W92 _ _ _) rfl (fun y48 hx49 h => ?_)
   refine apL q8a h rfl rfl rfl rfl rfl (fun h => ?_)
   refine rn 7 rfl ?_
   exact jX ((w64 (n40 + 1)), (l41 ++ y48)) (hk3 _ h) (gr [2] rfl (hR rfl rfl .nil) rfl)
  replace h := RG.f h hb42
  unfold M88_L3 at h
  refine rn 1 rfl ?_
  exact jX l41 h (gr [0] rfl (hR rfl rfl .nil) rfl)
 intro l37 h
 refine rn 5 rfl ?_
 refine q7c (q8i 0 [6, 7, 100] rfl (q9a q3b) (List.forall_mem_cons.2 ⟨rfl, (List.forall_mem_cons.2 ⟨rfl, (List.forall_mem_cons.2 ⟨rfl, (fun _ hx => nomatch hx)⟩)⟩)⟩) (List.length_map ..).symm) ?_
 refine fa ?_
 exact rt h rfl
theorem W24 (F : Nat) (a1 : q1c) (a2 : (List (List UInt8))) (a3 : (List (List q5a))) (r : ((List (List UInt8)) × Int)) (h : M24 F a1 a2 a3 = some r) : Pure Tryz.prog 24 [(V.agg (q3c a1)), (V.lst 1 (a2.map encS)), (V.lst 1 (a3.map encL45))] (V.tup [(V.lst 1 ((r.1).map encS)), (iV (r.2))]) := by
 refine pin (fun r => (V.tup [(V.lst 1 ((r.1).map encS)), (iV (r.2))])) r rfl Tryz.func24 rfl rfl rfl rfl rfl (fun w0 m0 hg => ?_)
 unfold M24 at h
 refine rn 10 rfl ?_
 refine cl h rfl rfl rfl (W78 _ _ _ _) rfl (fun y4 hx5 h => ?_)
 refine rn 12 rfl ?_
 refine spC h rfl (fun hb6 h => ?_) (fun hb6 h => ?_)
 ·refine rn 6 rfl ?_
  exact rt h rfl
 refine rn 10 rfl ?_
 refine ln rfl rfl ?_
 refine rn 2 rfl ?_
 refine jK h (fun (p : (List q2d) × (List TType) × (List TFunc) × (List (List UInt8)) × (List ((List UInt8) × Int)) × (List ((List UInt8) × Int)) × (List ((List UInt8) × (List Int))) × (List ((List UInt8) × Bool)) × Bool × (List ((List UInt8) × q5a))) => (⟨[(3, (V.ptr 0 4 0 0)), (8, (V.iptr [(V.lst 2 ((p.1).map q8b)), (V.lst 2 ((p.2.1).map q1d)), (V.lst 4 ((p.2.2.1).map q4c)), (V.lst 1 ((p.2.2.2.1).map encS)), (V.imap ((p.2.2.2.2.1).map q5e)), (V.imap ((p.2.2.2.2.2.1).map q5e)), (V.imap ((p.2.2.2.2.2.2.1).map q0j)), (V.imap ((p.2.2.2.2.2.2.2.1).map q5b)), (bV (p.2.2.2.2.2.2.2.2.1))] 0)), (10, (V.map 1))], [(0, (Ob.arr 27 4 [(q3c a1)])), (1, (Ob.map ((p.2.2.2.2.2.2.2.2.2).map q5g)))], 2⟩ : St)) (fun k7 p => k7 p.1 p.2.1 p.2.2.1 p.2.2.2.1 p.2.2.2.2.1 p.2.2.2.2.2.1 p.2.2.2.2.2.2.1 p.2.2.2.2.2.2.2.1 p.2.2.2.2.2.2.2.2.1 p.2.2.2.2.2.2.2.2.2 = some r) (fun k7 h => ?_) ?_
 ·obtain ⟨x18, hx19, h⟩ := bind_some h
  refine rn 1 rfl ?_
  refine opC 8 hx19 rfl ?_
  refine wl (A := a3) 2 rfl (fun hA42 => ?_)
  refine lC (fun (p : Int × (List ((List UInt8) × q5a))) => (⟨[(3, (V.ptr 0 4 0 0)), (8, (V.iptr (q2a x18) 0)), (10, (V.map 1)), (34, (V.lst 1 (a3.map encL45))), (35, (iV ((a3.length : Nat) : Int))), (36, (iV (p.1)))], [(0, (Ob.arr 27 4 [(q3c a1)])), (1, (Ob.map ((p.2).map q5g)))], 2⟩ : St)) (fun n p => RG a3 (fun tl nn => M24_L1 F x18 k7 tl p.2 = some r) n p.1) (fun p h => RG.zero h) (a3.length + 1) (0, ([] : List ((List UInt8) × q5a))) (RG.start h) (gr [0, 1] rfl (hB rfl rfl rfl (hM rfl rfl .nil)) rfl) (fun n p h => ?_)
  obtain ⟨n22, m23⟩ := p
  refine rn 5 rfl ?_
  refine spL rfl (fun hb24 => ?_) (fun hb24 => ?_)
  ·obtain ⟨x27, tl, hx28, h, hk1⟩ := RG.t hA42 h hb24
   unfold M24_L1 at h
   refine rn 2 rfl ?_
   refine jK h (fun (p : (List ((List UInt8) × q5a))) => (⟨[(3, (V.ptr 0 4 0 0)), (8, (V.iptr (q2a x18) 0)), (10, (V.map 1)), (34, (V.lst 1 (a3.map encL45))), (35, (iV ((a3.length : Nat) : Int))), (36, (iV n22))], [(0, (Ob.arr 27 4 [(q3c a1)])), (1, (Ob.map (p.map q5g)))], 2⟩ : St)) (fun k25 p => k25 p = some r) (fun k25 h => ?_) ?_
   ·refine rn 3 rfl ?_
    refine ixh hx28 rfl rfl ?_
    refine rn 6 rfl ?_
    refine ln rfl rfl ?_
    refine rn 2 rfl ?_
    refine jK h (fun (p : (List ((List UInt8) × q5a))) => (⟨[(3, (V.ptr 0 4 0 0)), (8, (V.iptr (q2a x18) 0)), (10, (V.map 1)), (34, (V.lst 1 (a3.map encL45))), (35, (iV ((a3.length : Nat) : Int))), (36, (iV n22))], [(0, (Ob.arr 27 4 [(q3c a1)])), (1, (Ob.map (p.map q5g)))], 2⟩ : St)) (fun k29 p => k29 p = some r) (fun k29 h => ?_) ?_
    ·refine rn 1 rfl ?_
     refine wl (A := x27) 39 rfl (fun hA41 => ?_)
     refine lC (fun (p : Int × (List ((List UInt8) × q5a))) => (⟨[(3, (V.ptr 0 4 0 0)), (8, (V.iptr (q2a x18) 0)), (10, (V.map 1)), (34, (V.lst 1 (a3.map encL45))), (35, (iV ((a3.length : Nat) : Int))), (36, (iV n22)), (40, (V.lst 3 (x27.map q4d))), (41, (iV ((x27.length : Nat) : Int))), (42, (iV (p.1)))], [(0, (Ob.arr 27 4 [(q3c a1)])), (1, (Ob.map ((p.2).map q5g)))], 2⟩ : St)) (fun n p => RG x27 (fun tl nn => M24_L2 F x18 k29 tl p.2 = some r) n p.1) (fun p h => RG.zero h) (x27.length + 1) (0, m23) (RG.start h) (gr [0, 1] rfl (hB rfl rfl rfl (hM rfl rfl .nil)) rfl) (fun n p h => ?_)
     obtain ⟨n33, m34⟩ := p
     refine rn 5 rfl ?_
     refine spL rfl (fun hb35 => ?_) (fun hb35 => ?_)
     ·obtain ⟨x36, tl, hx37, h, hk2⟩ := RG.t hA41 h hb35
      unfold M24_L2 at h
      refine rn 5 rfl ?_
      refine ixh hx37 rfl rfl ?_
      obtain ⟨y38, hx39, h⟩ := bind_some h
      refine rn 10 rfl ?_
      refine aops_lend_call (iV y38) [(V.iptr (q2a x18) 0), (V.agg (q4d x36)), (V.imap (m34.map q5g))] fOk87 (ghost_frzMx (es := m34.map q5g) 1 rfl encM9_45_imm (.put (t := 48) rfl Sub.frzM (.put (t := 10) rfl Sub.frzM .refl)) .refl) (Flat.con _) q4a (q7f rfl (q7f rfl (q7f rfl q9l))) (.cons (Imm.iptr _ _) (.cons (Imm.agg (q6j _)) (.cons (Imm.imap _) .nil))) (W87 F x18 x36 m34 y38 hx39) rfl ?_
      refine fo (rn 7 rfl ?_)
      refine spC h rfl (fun hb40 h => ?_) (fun hb40 h => ?_)
      ·refine rn 6 rfl ?_
       exact rt h rfl
      refine rn 6 rfl ?_
      refine q0e (es := m34.map q5g) ((mput m34 x36.Func x36).map q5g) tMap162 tKey9 q4a rfl rfl (.con rfl) ⟨_, rfl⟩ encM9_45_good rfl (encM9_45_puts m34 x36.Func x36) ?_
      refine fo (rn 6 rfl ?_)
      exact jX ((w64 (n33 + 1)), (mput m34 x36.Func x36)) (hk2 _ h) (gr [0, 1] rfl (hB rfl rfl rfl (hM rfl rfl .nil)) rfl)
     replace h := RG.f h hb35
     unfold M24_L2 at h
     refine rn 1 rfl ?_
     exact jX m34 h (gr [0, 1] rfl (hB rfl rfl rfl (hM rfl rfl .nil)) rfl)
    intro m30 h
    refine rn 1 rfl ?_
    exact jX m30 h (gr [0, 1] rfl (hB rfl rfl rfl (hM rfl rfl .nil)) rfl)
   intro m26 h
   refine rn 4 rfl ?_
   exact jX ((w64 (n22 + 1)), m26) (hk1 _ h) (gr [0, 1] rfl (hB rfl rfl rfl (hM rfl rfl .nil)) rfl)
  replace h := RG.f h hb24
  unfold M24_L1 at h
  refine rn 1 rfl ?_
  exact jX (x18.g.Ifaces, x18.g.Types, x18.g.Funcs, x18.g.Entries, x18.funcs, x18.types, x18.fitting, x18.on, x18.made, m23) h (gr [0, 1] rfl (hB rfl rfl rfl (hM rfl rfl .nil)) rfl)
 rintro ⟨l8, l9, l10, l11, m12, m13, m14, m15, b16, m17⟩ h
 refine rn 4 rfl ?_
 refine ln rfl rfl ?_
 refine ck h (fun hc43 h => ?_)
 refine aops_makeSlice (ln := (List.replicate (((a1.Funcs.length : Nat) : Int)).toNat (false : Bool)).length) ((List.replicate (((a1.Funcs.length : Nat) : Int)).toNat (false : Bool)).map encB) tEl164 tZ4 rfl rfl hc43 List.map_replicate List.length_replicate q4a rfl rfl ?_
 refine fo (rn 11 rfl ?_)
 refine ln rfl rfl ?_
 refine rn 2 rfl ?_
 refine jK h (fun (p : (List Int)) => (⟨[(3, (V.ptr 0 4 0 0)), (8, (V.iptr [(V.lst 2 (l8.map q8b)), (V.lst 2 (l9.map q1d)), (V.lst 4 (l10.map q4c)), (V.lst 1 (l11.map encS)), (V.imap (m12.map q5e)), (V.imap (m13.map q5e)), (V.imap (m14.map q0j)), (V.imap (m15.map q5b)), (bV b16)] 0)), (10, (V.map 1)), (16, (V.own 2 (List.replicate (((a1.Funcs.length : Nat) : Int)).toNat (false : Bool)).length)), (17, (V.own 3 p.length))], [(0, (Ob.arr 27 4 [(q3c a1)])), (1, (Ob.map (m17.map q5g))), (2, (Ob.arr 4 1 ((List.replicate (((a1.Funcs.length : Nat) : Int)).toNat (false : Bool)).map encB))), (3, (Ob.arr 3 1 (p.map q8a)))], 4⟩ : St)) (fun k44 p => k44 p = some r) (fun k44 h => ?_) ?_
 ·refine rn 1 rfl ?_
  refine wl (A := a1.Entries) 64 rfl (fun hA54 => ?_)
  refine lC (fun (p : Int × (List Int)) => (⟨[(3, (V.ptr 0 4 0 0)), (8, (V.iptr [(V.lst 2 (l8.map q8b)), (V.lst 2 (l9.map q1d)), (V.lst 4 (l10.map q4c)), (V.lst 1 (l11.map encS)), (V.imap (m12.map q5e)), (V.imap (m13.map q5e)), (V.imap (m14.map q0j)), (V.imap (m15.map q5b)), (bV b16)] 0)), (10, (V.map 1)), (16, (V.own 2 (List.replicate (((a1.Funcs.length : Nat) : Int)).toNat (false : Bool)).length)), (17, (V.own 3 (p.2).length)), (64, (V.lst 1 (a1.Entries.map encS))), (65, (iV ((a1.Entries.length : Nat) : Int))), (66, (iV (p.1)))], [(0, (Ob.arr 27 4 [(q3c a1)])), (1, (Ob.map (m17.map q5g))), (2, (Ob.arr 4 1 ((List.replicate (((a1.Funcs.length : Nat) : Int)).toNat (false : Bool)).map encB))), (3, (Ob.arr 3 1 ((p.2).map q8a)))], 4⟩ : St)) (fun n p => RG a1.Entries (fun tl nn => M24_L3 F m12 k44 tl p.2 = some r) n p.1) (fun p h => RG.zero h) (a1.Entries.length + 1) (0, ([] : List Int)) (RG.start h) (Ghost.trans (q1j 17 3 1 rfl) (q9f 4 (fun i => ([0, 1, 2, 3] : List Nat).getD i 0) _ _ (by decide) (q0k.get (.cons (Sub.ptr rfl rfl) (.cons (Sub.imm (Imm.iptr _ _)) (.cons (Sub.map rfl rfl) (.cons (Sub.own rfl rfl) (.cons (Sub.ownE rfl rfl (by simp)) (.cons (Sub.imm (Imm.lst _ _)) (.cons (Sub.imm (Imm.con _)) (.cons (Sub.imm (Imm.con _)) .nil))))))))) (HpSub.get (.cons rfl (ObSub.box (.cons (Sub.imm (Imm.lst _ _)) (.cons (Sub.imm (Imm.lst _ _)) (.cons (Sub.imm (Imm.lst _ _)) (.cons (Sub.imm (Imm.lst _ _)) .nil))))) (.cons rfl (ObSub.maps encM9_45_imm) (.cons rfl (ObSub.rows (q9a q8d)) (.cons rfl (ObSub.rows (q9a q3b)) .nil))))) rfl)) (fun n p h => ?_)
  obtain ⟨n48, l49⟩ := p
  refine rn 5 rfl ?_
  refine spL rfl (fun hb50 => ?_) (fun hb50 => ?_)
  ·obtain ⟨x51, tl, hx52, h, hk3⟩ := RG.t hA54 h hb50
   unfold M24_L3 at h
   refine rn 5 rfl ?_
   refine ixh hx52 rfl rfl ?_
   refine rn 10 rfl ?_
   refine q3e _ (iV 0) (iV ((mget m12 x51).getD 0)) tMap87 tKey9 tZo3 (q3g _) q4a rfl .imm (.con rfl) ⟨_, rfl⟩ q5i (q7j m12 x51) (q1f (q0i) (mget m12 x51) 0) rfl ?_
   refine q2e [(0, (iV ((mget m12 x51).getD 0)))] [[(iV ((mget m12 x51).getD 0))]] tEl165 tZ3 rfl rfl rfl rfl q4a (q2f rfl q1h) rfl rfl (by simp) rfl ?_
   refine fo ?_
   refine apO q8a h rfl rfl rfl rfl rfl rfl rfl rfl (fun h => ?_)
   refine rn 7 rfl ?_
   exact jX ((w64 (n48 + 1)), (l49 ++ ([((mget m12 x51).getD 0)] : List Int))) (hk3 _ h) (gr [0, 1, 2, 5] rfl (hB rfl rfl rfl (hM rfl rfl (hR rfl rfl (hR rfl rfl .nil)))) rfl)
  replace h := RG.f h hb50
  unfold M24_L3 at h
  refine rn 1 rfl ?_
  exact jX l49 h (gr [0, 1, 2, 3] rfl (hB rfl rfl rfl (hM rfl rfl (hR rfl rfl (hR rfl rfl .nil)))) rfl)
 intro l45 h
 refine rn 1 rfl ?_
 refine jK h (fun (p : (List Bool)) => (⟨[(3, (V.ptr 0 4 0 0)), (16, (V.own 1 p.length))], [(0, (Ob.arr 27 4 [(q3c a1)])), (1, (Ob.arr 4 1 (p.map encB)))], 2⟩ : St)) (fun k55 p => k55 p = some r) (fun k55 h => ?_) ?_
 ·refine rn 1 rfl ?_
  refine lC (fun (p : (List Bool) × (List Int)) => (⟨[(3, (V.ptr 0 4 0 0)), (8, (V.iptr [(V.lst 2 (l8.map q8b)), (V.lst 2 (l9.map q1d)), (V.lst 4 (l10.map q4c)), (V.lst 1 (l11.map encS)), (V.imap (m12.map q5e)), (V.imap (m13.map q5e)), (V.imap (m14.map q0j)), (V.imap (m15.map q5b)), (bV b16)] 0)), (10, (V.imap (m17.map q5g))), (16, (V.own 1 (p.1).length)), (17, (V.own 2 (p.2).length))], [(0, (Ob.arr 27 4 [(q3c a1)])), (1, (Ob.arr 4 1 ((p.1).map encB))), (2, (Ob.arr 3 1 ((p.2).map q8a)))], 3⟩ : St)) (fun n p => M24_L4 F l8 l9 l10 l11 m12 m13 m14 m15 b16 m17 k55 n p.1 p.2 = some r) (fun p h => by simp [M24_L4] at h) F ((List.replicate (((a1.Funcs.length : Nat) : Int)).toNat (false : Bool)), l45) h (Ghost.trans (ghost_frzMx (es := m17.map q5g) 1 rfl encM9_45_imm (.put (t := 10) rfl Sub.frzM .refl) .refl) (gr [0, 2, 3] rfl (hB rfl rfl rfl (hR rfl rfl (hR rfl rfl .nil))) rfl)) (fun n p h => ?_)
  obtain ⟨l59, l60⟩ := p
  unfold M24_L4 at h
  refine rn 7 rfl ?_
  refine spC h rfl (fun hb61 h => ?_) (fun hb61 h => ?_)
  ·refine rn 5 rfl ?_
   refine ixo (a := l60) h rfl rfl rfl (fun x62 hx63 h => ?_)
   refine ldp hx63 rfl rfl rfl rfl ?_
   refine rn 5 rfl ?_
   refine ck h (fun hc64 h => ?_)
   refine aops_slice_ownN (nx := 3) (1) (l60.length) ((l60.drop 1).length) ((l60.drop 1).map q8a) tSl165 q4a rfl rfl (by simp) rfl ⟨_, rfl⟩ rfl hc64 (Nat.le_refl _) (List.map_drop ..).symm (by simp) (ndB_rows (q9a q3b)) rfl ?_
   refine fo (rn 7 rfl ?_)
   refine ixo (a := l59) h rfl rfl rfl (fun x65 hx66 h => ?_)
   refine ldp hx66 rfl rfl rfl rfl ?_
   refine rn 1 rfl ?_
   refine spC h rfl (fun hb67 h => ?_) (fun hb67 h => ?_)
   ·refine rn 1 rfl ?_
    exact jX (l59, (l60.drop 1)) h (gr [0, 1, 3] rfl (hB rfl rfl rfl (hR rfl rfl (hR rfl rfl .nil))) rfl)
   refine rn 5 rfl ?_
   refine ixo (a := l59) h rfl rfl rfl (fun x68 hx69 h => ?_)
   refine stS true hx69 rfl rfl rfl rfl rfl rfl ?_
   refine rn 6 rfl ?_
   refine cl h rfl rfl rfl (W88 _ _ _ _) rfl (fun y70 hx71 h => ?_)
   refine apL q8a h rfl rfl rfl rfl rfl (fun h => ?_)
   refine rn 3 rfl ?_
   exact jX ((l59.set x62.toNat true), ((l60.drop 1) ++ y70)) h (q9f 3 (fun i => ([0, 1, 4] : List Nat).getD i 0) _ _ (by decide) (q0k.get (.cons (Sub.ptr rfl rfl) (.cons (Sub.imm (Imm.iptr _ _)) (.cons (Sub.imm (Imm.imap _)) (.cons (Sub.ownE rfl rfl (by simp)) (.cons (Sub.own rfl rfl) .nil)))))) (HpSub.get (.cons rfl (ObSub.box (.cons (Sub.imm (Imm.lst _ _)) (.cons (Sub.imm (Imm.lst _ _)) (.cons (Sub.imm (Imm.lst _ _)) (.cons (Sub.imm (Imm.lst _ _)) .nil))))) (.cons rfl (ObSub.rows (q9a q8d)) (.cons rfl (ObSub.rows (q9a q3b)) .nil)))) rfl)
  refine rn 1 rfl ?_
  exact jX l59 h (gr [0, 1] rfl (hB rfl rfl rfl (hR rfl rfl .nil)) rfl)
 intro l56 h
 refine rn 11 rfl ?_
 refine jK h (fun (p : (List (List UInt8))) => (⟨[(21, (V.own 0 p.length))], [(0, (Ob.arr 9 1 (p.map encS)))], 1⟩ : St)) (fun k73 p => k73 p = some r) (fun k73 h => ?_) ?_
 ·refine rn 1 rfl ?_
  refine wlO (A := l56) 1 rfl (fun hA88 => ?_)
  refine lC (fun (p : Int × (List (List UInt8))) => (⟨[(3, (V.ptr 0 4 0 0)), (21, (V.own 1 (p.2).length)), (101, (V.own 2 l56.length)), (102, (iV ((l56.length : Nat) : Int))), (103, (iV (p.1)))], [(0, (Ob.arr 27 4 [(q3c a1)])), (1, (Ob.arr 9 1 ((p.2).map encS))), (2, (Ob.arr 4 1 (l56.map encB)))], 3⟩ : St)) (fun n p => RG l56 (fun tl nn => M24_L5 F a1 k73 tl nn p.2 = some r) n p.1) (fun p h => RG.zero h) (l56.length + 1) (0, ([] : List (List UInt8))) (RG.start h) (Ghost.trans (q1j 21 9 1 rfl) (q9f 3 (fun i => ([0, 2, 1] : List Nat).getD i 0) _ _ (by decide) (q0k.get (.cons (Sub.ptr rfl rfl) (.cons (Sub.ownE rfl rfl (by simp)) (.cons (Sub.own rfl rfl) (.cons (Sub.imm (Imm.con _)) (.cons (Sub.imm (Imm.con _)) .nil)))))) (HpSub.get (.cons rfl (ObSub.box (.cons (Sub.imm (Imm.lst _ _)) (.cons (Sub.imm (Imm.lst _ _)) (.cons (Sub.imm (Imm.lst _ _)) (.cons (Sub.imm (Imm.lst _ _)) .nil))))) (.cons rfl (ObSub.rows (q9a q3j)) (.cons rfl (ObSub.rows (q9a q8d)) .nil)))) rfl)) (fun n p h => ?_)
  obtain ⟨n77, l78⟩ := p
  refine rn 5 rfl ?_
  refine spL rfl (fun hb79 => ?_) (fun hb79 => ?_)
  ·obtain ⟨x80, tl, hx81, h, hk5⟩ := RG.t hA88 h hb79
   unfold M24_L5 at h
   refine rn 6 rfl ?_
   refine ixoh (a := l56) hx81 rfl rfl rfl ?_
   refine ldp hx81 rfl rfl rfl rfl ?_
   refine rn 7 rfl ?_
   refine jK h (fun (p : (List (List UInt8))) => (⟨[(3, (V.ptr 0 4 0 0)), (21, (V.own 1 p.length)), (101, (V.own 2 l56.length)), (102, (iV ((l56.length : Nat) : Int))), (103, (iV n77))], [(0, (Ob.arr 27 4 [(q3c a1)])), (1, (Ob.arr 9 1 (p.map encS))), (2, (Ob.arr 4 1 (l56.map encB)))], 3⟩ : St)) (fun k82 p => k82 p = some r) (fun k82 h => ?_) ?_
   ·refine spC h rfl (fun hb84 h => ?_) (fun hb84 h => ?_)
    ·refine rn 5 rfl ?_
     refine ixl h rfl rfl (fun x85 hx86 h => ?_)
     refine rn 2 rfl ?_
     refine q2e [(0, (sV x85.Name))] [[(sV x85.Name)]] tEl25 tZ9 rfl rfl rfl rfl q4a (q2f rfl q1h) rfl rfl (by simp) rfl ?_
     refine fo ?_
     refine apO encS h rfl rfl rfl rfl rfl rfl rfl rfl (fun h => ?_)
     refine rn 2 rfl ?_
     exact jX (l78 ++ ([x85.Name] : List (List UInt8))) h (gr [0, 4, 2] rfl (hB rfl rfl rfl (hR rfl rfl (hR rfl rfl .nil))) rfl)
    refine rn 1 rfl ?_
    exact jX l78 h (gr [0, 1, 2] rfl (hB rfl rfl rfl (hR rfl rfl (hR rfl rfl .nil))) rfl)
   intro l83 h
   refine rn 5 rfl ?_
   exact jX ((w64 (n77 + 1)), l83) (hk5 _ h) (gr [0, 1, 2] rfl (hB rfl rfl rfl (hR rfl rfl (hR rfl rfl .nil))) rfl)
  replace h := RG.f h hb79
  unfold M24_L5 at h
  refine rn 1 rfl ?_
  exact jX l78 h (gr [1] rfl (hR rfl rfl .nil) rfl)
 intro l74 h
 refine rn 6 rfl ?_
 refine q7c (q8i 0 [6, 21, 119] rfl (q9a q3j) (List.forall_mem_cons.2 ⟨rfl, (List.forall_mem_cons.2 ⟨rfl, (List.forall_mem_cons.2 ⟨rfl, (fun _ hx => nomatch hx)⟩)⟩)⟩) (List.length_map ..).symm) ?_
 refine fa ?_
 exact rt h rfl
theorem W148 (F : Nat) (a1 : Int) (a2 : q7a) (a3 : List Bool) (a4 : List Bool) (a5 : List (q0a × Bool)) (a6 : List q0a) (a7 : List Int) (a8 : List Int) (r : ((List Bool) × (List Int))) (h : M148 F a1 a2 a3 a4 a5 a6 a7 a8 = some r) : Mut Tryz.prog 148 [(V.ptr 0 7 0 0), (iV a1)] 7 [(0, (Ob.arr 170 7 [[(V.iptr (q2a a2) 0), (V.own 1 a3.length), (V.own 2 a4.length), (V.map 3), (V.own 4 a6.length), (V.own 5 a7.length), (V.own 6 a8.length)]])), (1, (Ob.arr 4 1 (a3.map encB))), (2, (Ob.arr 4 1 (a4.map encB))), (3, (Ob.map (a5.map q3d))), (4, (Ob.arr 304 2 (a6.map q2b))), (5, (Ob.arr 3 1 (a7.map q8a))), (6, (Ob.arr 3 1 (a8.map q8a)))] (resV []) 8 [(0, (Ob.arr 170 7 [[(V.iptr (q2a a2) 0), (V.own 1 (r.1).length), (V.own 2 a4.length), (V.map 3), (V.own 4 a6.length), (V.own 5 a7.length), (V.own 7 (r.2).length)]])), (1, (Ob.arr 4 1 ((r.1).map encB))), (2, (Ob.arr 4 1 (a4.map encB))), (3, (Ob.map (a5.map q3d))), (4, (Ob.arr 304 2 (a6.map q2b))), (5, (Ob.arr 3 1 (a7.map q8a))), (6, Ob.dead), (7, (Ob.arr 3 1 ((r.2).map q8a)))] := by
 refine mut_enter Tryz.func148 rfl rfl (l := []) rfl rfl [(0, (V.ptr 0 7 0 0)), (1, (iV a1))] rfl (fun w0 m0 β0 hg => en ?_)
 unfold M148 at h
 refine rn 7 rfl ?_
 refine ixo (a := a3) h rfl rfl rfl (fun x17 hx18 h => ?_)
 refine ldp hx18 rfl rfl rfl rfl ?_
 refine rn 2 rfl ?_
 refine spC h rfl (fun hb19 h => ?_) (fun hb19 h => ?_)
 ·refine rn 7 rfl ?_
  refine ixo (a := a3) h rfl rfl rfl (fun x20 hx21 h => ?_)
  refine stS true hx21 rfl rfl rfl rfl rfl rfl ?_
  refine rn 8 rfl ?_
  refine q2e [(0, (iV a1))] [[(iV a1)]] tEl165 tZ3 rfl rfl rfl rfl q4a (q2f rfl q1h) rfl rfl (by simp) rfl ?_
  refine fo ?_
  refine apO q8a h rfl rfl rfl rfl rfl rfl rfl rfl (fun h => ?_)
  refine rn 4 rfl ?_
  replace h := Option.some.inj h
  subst h
  exact wE ⟨.inr rfl, [], (q9f 8 (fun i => ([0, 1, 2, 3, 4, 5, 6, 8] : List Nat).getD i 0) _ _ (by decide) (q0k.get .nil) (HpSub.get (.cons rfl (ObSub.box (.cons (Sub.imm (Imm.iptr _ _)) (.cons (Sub.ownE rfl rfl (by simp)) (.cons (Sub.own rfl rfl) (.cons (Sub.map rfl rfl) (.cons (Sub.own rfl rfl) (.cons (Sub.own rfl rfl) (.cons (Sub.own rfl rfl) .nil)))))))) (.cons rfl (ObSub.rows (q9a q8d)) (.cons rfl (ObSub.rows (q9a q8d)) (.cons rfl (ObSub.maps q9e) (.cons rfl (ObSub.rows (q9a q0d)) (.cons rfl (ObSub.rows (q9a q3b)) (.cons rfl ObSub.deadT (.cons rfl (ObSub.rows (q9a q3b)) .nil))))))))) rfl), .nil⟩
 refine rn 1 rfl ?_
 replace h := Option.some.inj h
 subst h
 exact wE ⟨.inr rfl, [], (Ghost.trans (ghost_mvC 6 0 7 3 1 (Ob.arr 170 7 [[(V.iptr (q2a a2) 0), (V.own 1 a3.length), (V.own 2 a4.length), (V.map 3), (V.own 4 a6.length), (V.own 5 a7.length), (V.own 7 a8.length)]]) rfl rfl rfl (ObSub.box (.cons Sub.keepMv (.cons Sub.keepMv (.cons Sub.keepMv (.cons Sub.keepMv (.cons Sub.keepMv (.cons Sub.keepMv (.cons Sub.mv .nil)))))))) rfl rfl) (gr [0, 1, 2, 3, 4, 5, 6, 7] rfl (hB rfl rfl rfl (hR rfl rfl (hR rfl rfl (hM rfl rfl (hR rfl rfl (hR rfl rfl (hD rfl (hR rfl rfl .nil)))))))) rfl)), .nil⟩
theorem W204 (F : Nat) (a1 : (List Int)) (a2 : Int) (r : Int) (h : M204 F a1 a2 = some r) : Pure Tryz.prog 204 [(V.lst 1 (a1.map q8a)), (iV a2)] (iV r) := by
 refine pin (fun r => (iV r)) r rfl Tryz.func204 rfl rfl rfl rfl rfl (fun w0 m0 hg => ?_)
 unfold M204 at h
 refine rn 8 rfl ?_
 refine ln rfl rfl ?_
 refine rn 2 rfl ?_
 refine jK h (fun _ : Unit => (⟨[], [], 0⟩ : St)) (fun k3 (_ : Unit) => k3 = some r) (fun k3 h => ?_) ?_
 ·refine rn 1 rfl ?_
  refine wl (A := a1) 0 rfl (fun hA10 => ?_)
  refine lC (fun (p : Int) => (⟨[(0, (V.lst 1 (a1.map q8a))), (1, (iV a2)), (7, (iV ((a1.length : Nat) : Int))), (8, (iV p))], [], 0⟩ : St)) (fun n p => RG a1 (fun tl nn => M204_L1 F a2 k3 tl nn = some r) n p) (fun p h => RG.zero h) (a1.length + 1) 0 (RG.start h) (g0 rfl rfl) (fun n n5 h => ?_)
  refine rn 5 rfl ?_
  refine spL rfl (fun hb6 => ?_) (fun hb6 => ?_)
  ·obtain ⟨x7, tl, hx8, h, hk1⟩ := RG.t hA10 h hb6
   unfold M204_L1 at h
   refine rn 13 rfl ?_
   refine ixh hx8 rfl rfl ?_
   refine rn 3 rfl ?_
   refine spC h rfl (fun hb9 h => ?_) (fun hb9 h => ?_)
   ·refine rn 5 rfl ?_
    exact rt h rfl
   refine rn 6 rfl ?_
   exact jX (w64 (n5 + 1)) (hk1 _ h) (g0 rfl rfl)
  replace h := RG.f h hb6
  unfold M204_L1 at h
  refine rn 1 rfl ?_
  exact jX () h (g0 rfl rfl)
 intro _ h
 refine rn 4 rfl ?_
 exact rt h rfl
theorem W164 (F : Nat) (a1 : (List Int)) (a2 : Int) (r : Bool) (h : M164 F a1 a2 = some r) : Pure Tryz.prog 164 [(V.lst 1 (a1.map q8a)), (iV a2)] (bV r) := by
 refine pin (fun r => (bV r)) r rfl Tryz.func164 rfl rfl rfl rfl rfl (fun w0 m0 hg => ?_)
 unfold M164 at h
 refine rn 8 rfl ?_
 refine cl h rfl rfl rfl (W204 _ _ _) rfl (fun y3 hx4 h => ?_)
 refine rn 3 rfl ?_
 exact rt h rfl
theorem W149 (F : Nat) (a1 : Int) (a2 : q7a) (a3 : List Bool) (a4 : List Bool) (a5 : List (q0a × Bool)) (a6 : List q0a) (a7 : List Int) (a8 : List Int) (r : ((List Bool) × (List Bool) × (List Int))) (h : M149 F a1 a2 a3 a4 a5 a6 a7 a8 = some r) : Mut Tryz.prog 149 [(V.ptr 0 7 0 0), (iV a1)] 7 [(0, (Ob.arr 170 7 [[(V.iptr (q2a a2) 0), (V.own 1 a3.length), (V.own 2 a4.length), (V.map 3), (V.own 4 a6.length), (V.own 5 a7.length), (V.own 6 a8.length)]])), (1, (Ob.arr 4 1 (a3.map encB))), (2, (Ob.arr 4 1 (a4.map encB))), (3, (Ob.map (a5.map q3d))), (4, (Ob.arr 304 2 (a6.map q2b))), (5, (Ob.arr 3 1 (a7.map q8a))), (6, (Ob.arr 3 1 (a8.map q8a)))] (resV []) 8 [(0, (Ob.arr 170 7 [[(V.iptr (q2a a2) 0), (V.own 1 (r.1).length), (V.own 2 (r.2.1).length), (V.map 3), (V.own 4 a6.length), (V.own 5 a7.length), (V.own 7 (r.2.2).length)]])), (1, (Ob.arr 4 1 ((r.1).map encB))), (2, (Ob.arr 4 1 ((r.2.1).map encB))), (3, (Ob.map (a5.map q3d))), (4, (Ob.arr 304 2 (a6.map q2b))), (5, (Ob.arr 3 1 (a7.map q8a))), (6, Ob.dead), (7, (Ob.arr 3 1 ((r.2.2).map q8a)))] := by
 refine mut_enter Tryz.func149 rfl rfl (l := []) rfl rfl [(0, (V.ptr 0 7 0 0)), (1, (iV a1))] rfl (fun w0 m0 β0 hg => en ?_)
 unfold M149 at h
 refine rn 8 rfl ?_
 refine ixo (a := a4) h rfl rfl rfl (fun x38 hx39 h => ?_)
 refine ldp hx39 rfl rfl rfl rfl ?_
 refine rn 1 rfl ?_
 refine spC h rfl (fun hb40 h => ?_) (fun hb40 h => ?_)
 ·replace h := Option.some.inj h
  subst h
  exact wR ⟨.inl rfl, [], (Ghost.trans (ghost_mvC 6 0 7 3 1 (Ob.arr 170 7 [[(V.iptr (q2a a2) 0), (V.own 1 a3.length), (V.own 2 a4.length), (V.map 3), (V.own 4 a6.length), (V.own 5 a7.length), (V.own 7 a8.length)]]) rfl rfl rfl (ObSub.box (.cons Sub.keepMv (.cons Sub.keepMv (.cons Sub.keepMv (.cons Sub.keepMv (.cons Sub.keepMv (.cons Sub.keepMv (.cons Sub.mv .nil)))))))) rfl rfl) (gr [0, 1, 2, 3, 4, 5, 6, 7] rfl (hB rfl rfl rfl (hR rfl rfl (hR rfl rfl (hM rfl rfl (hR rfl rfl (hR rfl rfl (hD rfl (hR rfl rfl .nil)))))))) rfl)), .nil⟩
 refine rn 8 rfl ?_
 refine ixo (a := a4) h rfl rfl rfl (fun x41 hx42 h => ?_)
 refine stS true hx42 rfl rfl rfl rfl rfl rfl ?_
 refine rn 13 rfl ?_
 refine spC h rfl (fun hb43 h => ?_) (fun hb43 h => ?_)
 ·replace h := Option.some.inj h
  subst h
  exact wR ⟨.inl rfl, [], (Ghost.trans (ghost_mvC 6 0 7 3 1 (Ob.arr 170 7 [[(V.iptr (q2a a2) 0), (V.own 1 a3.length), (V.own 2 a4.length), (V.map 3), (V.own 4 a6.length), (V.own 5 a7.length), (V.own 7 a8.length)]]) rfl rfl rfl (ObSub.box (.cons Sub.keepMv (.cons Sub.keepMv (.cons Sub.keepMv (.cons Sub.keepMv (.cons Sub.keepMv (.cons Sub.keepMv (.cons Sub.mv .nil)))))))) rfl rfl) (q9f 8 (fun i => ([0, 1, 2, 3, 4, 5, 6, 7] : List Nat).getD i 0) _ _ (by decide) (q0k.get .nil) (HpSub.get (.cons rfl (ObSub.box (.cons (Sub.imm (Imm.iptr _ _)) (.cons (Sub.own rfl rfl) (.cons (Sub.ownE rfl rfl (by simp)) (.cons (Sub.map rfl rfl) (.cons (Sub.own rfl rfl) (.cons (Sub.own rfl rfl) (.cons (Sub.own rfl rfl) .nil)))))))) (.cons rfl (ObSub.rows (q9a q8d)) (.cons rfl (ObSub.rows (q9a q8d)) (.cons rfl (ObSub.maps q9e) (.cons rfl (ObSub.rows (q9a q0d)) (.cons rfl (ObSub.rows (q9a q3b)) (.cons rfl ObSub.deadT (.cons rfl (ObSub.rows (q9a q3b)) .nil))))))))) rfl)), .nil⟩
 refine rn 11 rfl ?_
 refine wlO (A := a6) 4 rfl (fun hA63 => ?_)
 refine lC (fun (p : Int × (List Bool) × (List Int)) => (⟨[(0, (V.ptr 0 7 0 0)), (1, (iV a1)), (30, (V.own 4 a6.length)), (31, (iV ((a6.length : Nat) : Int))), (32, (iV (p.1)))], [(0, (Ob.arr 170 7 [[(V.iptr (q2a a2) 0), (V.own 1 (p.2.1).length), (V.own 2 (a4.set a1.toNat true).length), (V.map 3), (V.own 4 a6.length), (V.own 5 a7.length), (V.own 7 (p.2.2).length)]])), (1, (Ob.arr 4 1 ((p.2.1).map encB))), (2, (Ob.arr 4 1 ((a4.set a1.toNat true).map encB))), (3, (Ob.map (a5.map q3d))), (4, (Ob.arr 304 2 (a6.map q2b))), (5, (Ob.arr 3 1 (a7.map q8a))), (6, Ob.dead), (7, (Ob.arr 3 1 ((p.2.2).map q8a)))], 8⟩ : St)) (fun n p => RG a6 (fun tl nn => M149_L1 F a1 a2 a4 a5 a6 a7 tl p.2.1 p.2.2 = some r) n p.1) (fun p h => RG.zero h) (a6.length + 1) (0, a3, a8) (RG.start h) (Ghost.trans (ghost_mvC 6 0 7 3 1 (Ob.arr 170 7 [[(V.iptr (q2a a2) 0), (V.own 1 a3.length), (V.own 2 a4.length), (V.map 3), (V.own 4 a6.length), (V.own 5 a7.length), (V.own 7 a8.length)]]) rfl rfl rfl (ObSub.box (.cons Sub.keepMv (.cons Sub.keepMv (.cons Sub.keepMv (.cons Sub.keepMv (.cons Sub.keepMv (.cons Sub.keepMv (.cons Sub.mv .nil)))))))) rfl rfl) (q9f 8 (fun i => ([0, 1, 2, 3, 4, 5, 6, 7] : List Nat).getD i 0) _ _ (by decide) (q0k.get (.cons (Sub.ptr rfl rfl) (.cons (Sub.imm (Imm.con _)) (.cons (Sub.own rfl rfl) (.cons (Sub.imm (Imm.con _)) (.cons (Sub.imm (Imm.con _)) .nil)))))) (HpSub.get (.cons rfl (ObSub.box (.cons (Sub.imm (Imm.iptr _ _)) (.cons (Sub.own rfl rfl) (.cons (Sub.ownE rfl rfl (by simp)) (.cons (Sub.map rfl rfl) (.cons (Sub.own rfl rfl) (.cons (Sub.own rfl rfl) (.cons (Sub.own rfl rfl) .nil)))))))) (.cons rfl (ObSub.rows (q9a q8d)) (.cons rfl (ObSub.rows (q9a q8d)) (.cons rfl (ObSub.maps q9e) (.cons rfl (ObSub.rows (q9a q0d)) (.cons rfl (ObSub.rows (q9a q3b)) (.cons rfl ObSub.deadT (.cons rfl (ObSub.rows (q9a q3b)) .nil))))))))) rfl)) (fun n p h => ?_)
 obtain ⟨n47, l48, l49⟩ := p
 refine rn 5 rfl ?_
 refine spL rfl (fun hb50 => ?_) (fun hb50 => ?_)
 ·obtain ⟨x51, tl, hx52, h, hk1⟩ := RG.t hA63 h hb50
  unfold M149_L1 at h
  refine rn 5 rfl ?_
  refine ixoh (a := a6) hx52 rfl rfl rfl ?_
  refine ldp hx52 rfl rfl rfl rfl ?_
  obtain ⟨y53, hx54, h⟩ := bind_some h
  refine rn 4 rfl ?_
  refine dr mixed (vs 9 rfl (xD (OD.mk [(42, (V.imap (a2.fitting.map q0j))), (44, (sV x51.iface))] [] [(45, (V.lst 1 (((mget a2.fitting x51.iface).getD ([] : (List Int))).map q8a)))] []) ⟨⟨rfl, rfl, trivial⟩, trivial⟩ (by exact fun S hn h hh => q3e _ (V.lst 1 (([] : (List Int)).map q8a)) (V.lst 1 (((mget a2.fitting x51.iface).getD ([] : (List Int))).map q8a)) tMap88 tKey9 tZo165 (fun _ => .nil _ _ _) q4a h.1 .imm (.con h.2.1) ⟨_, rfl⟩ encM9_165_good (encM9_165_look a2.fitting x51.iface) (q1f (q6n) (mget a2.fitting x51.iface) ([] : (List Int))) rfl (q5c ⟨rfl, rfl⟩)) rfl (vs 1 rfl (cD rfl rfl rfl rfl (W164 _ _ _ _ hx54) rfl .nil)))) (by kernel_rfl) ?_
  refine jK h (fun (p : (List Bool) × (List Int)) => (⟨[(0, (V.ptr 0 7 0 0)), (1, (iV a1)), (30, (V.own 4 a6.length)), (31, (iV ((a6.length : Nat) : Int))), (32, (iV n47))], [(0, (Ob.arr 170 7 [[(V.iptr (q2a a2) 0), (V.own 1 (p.1).length), (V.own 2 (a4.set a1.toNat true).length), (V.map 3), (V.own 4 a6.length), (V.own 5 a7.length), (V.own 7 (p.2).length)]])), (1, (Ob.arr 4 1 ((p.1).map encB))), (2, (Ob.arr 4 1 ((a4.set a1.toNat true).map encB))), (3, (Ob.map (a5.map q3d))), (4, (Ob.arr 304 2 (a6.map q2b))), (5, (Ob.arr 3 1 (a7.map q8a))), (6, Ob.dead), (7, (Ob.arr 3 1 ((p.2).map q8a)))], 8⟩ : St)) (fun k55 p => k55 p.1 p.2 = some r) (fun k55 h => ?_) ?_
  ·refine spC h rfl (fun hb58 h => ?_) (fun hb58 h => ?_)
   ·obtain ⟨y59, hx60, h⟩ := bind_some h
    obtain ⟨y61, hx62, h⟩ := bind_some h
    refine q7c q5f ?_
    refine fa ?_
    refine dr mixed (vs 11 rfl (cD rfl rfl rfl rfl (W151 _ _ _ _ _ hx60) rfl (xD (OD.mk [(48, (V.ptr 0 7 0 0)), (59, (iV y59))] [(0, (Ob.arr 170 7 [[(V.iptr (q2a a2) 0), (V.own 1 l48.length), (V.own 2 (a4.set a1.toNat true).length), (V.map 3), (V.own 4 a6.length), (V.own 5 a7.length), (V.own 7 l49.length)]])), (1, (Ob.arr 4 1 (l48.map encB))), (2, (Ob.arr 4 1 ((a4.set a1.toNat true).map encB))), (3, (Ob.map (a5.map q3d))), (4, (Ob.arr 304 2 (a6.map q2b))), (5, (Ob.arr 3 1 (a7.map q8a))), (7, (Ob.arr 3 1 (l49.map q8a))), (9, Ob.res)] [(60, (V.tup []))] [(0, (Ob.arr 170 7 [[(V.iptr (q2a a2) 0), (V.own 1 (y61.1).length), (V.own 2 (a4.set a1.toNat true).length), (V.map 3), (V.own 4 a6.length), (V.own 5 a7.length), (V.own 9 (y61.2).length)]])), (1, (Ob.arr 4 1 ((y61.1).map encB))), (2, (Ob.arr 4 1 ((a4.set a1.toNat true).map encB))), (3, (Ob.map (a5.map q3d))), (4, (Ob.arr 304 2 (a6.map q2b))), (5, (Ob.arr 3 1 (a7.map q8a))), (7, Ob.dead), (9, (Ob.arr 3 1 ((y61.2).map q8a)))]) ⟨⟨rfl, rfl, trivial⟩, ⟨rfl, rfl, rfl, rfl, rfl, rfl, rfl, rfl, trivial⟩⟩ (by exact fun S hn h hh => aops_mcall_atH [9] hn (List.forall_mem_cons.2 ⟨hh.2.2.2.2.2.2.2.1, (fun _ hx => nomatch hx)⟩) (V.tup []) [(V.ptr 0 7 0 0), (iV y59)] (fun i => ([0, 1, 2, 3, 4, 5, 7] : List Nat).getD i 0) (fun i => ([0, 1, 2, 3, 4, 5, 7, 9] : List Nat).getD i 0) [(0, (Ob.arr 170 7 [[(V.iptr (q2a a2) 0), (V.own 1 (y61.1).length), (V.own 2 (a4.set a1.toNat true).length), (V.map 3), (V.own 4 a6.length), (V.own 5 a7.length), (V.own 9 (y61.2).length)]])), (1, (Ob.arr 4 1 ((y61.1).map encB))), (2, (Ob.arr 4 1 ((a4.set a1.toNat true).map encB))), (3, (Ob.map (a5.map q3d))), (4, (Ob.arr 304 2 (a6.map q2b))), (5, (Ob.arr 3 1 (a7.map q8a))), (7, Ob.dead), (9, (Ob.arr 3 1 ((y61.2).map q8a)))] fOk148 q4a rfl (q7f h.1 (q7f h.2.1 q9l)) (.cons (Sub.ptr rfl rfl) (.cons (Sub.imm (Imm.con _)) .nil)) (HpSub.consE (id := 0) rfl hh.1 (ObSub.box (.cons (Sub.imm (Imm.iptr _ _)) (.cons (Sub.own rfl rfl) (.cons (Sub.own rfl rfl) (.cons (Sub.map rfl rfl) (.cons (Sub.own rfl rfl) (.cons (Sub.own rfl rfl) (.cons (Sub.own rfl rfl) .nil)))))))) (HpSub.consE (id := 1) rfl hh.2.1 (ObSub.rows (q9a q8d)) (HpSub.consE (id := 2) rfl hh.2.2.1 (ObSub.rows (q9a q8d)) (HpSub.consE (id := 3) rfl hh.2.2.2.1 (ObSub.maps q9e) (HpSub.consE (id := 4) rfl hh.2.2.2.2.1 (ObSub.rows (q9a q0d)) (HpSub.consE (id := 5) rfl hh.2.2.2.2.2.1 (ObSub.rows (q9a q3b)) (HpSub.consE (id := 6) rfl hh.2.2.2.2.2.2.1 (ObSub.rows (q9a q3b)) .nil))))))) (W148 F y59 a2 l48 (a4.set a1.toNat true) a5 a6 a7 l49 y61 hx62) rfl rfl rfl rfl (Sub.immT (Imm.tup .nil)) (.cons rfl (ObSub.box (.cons (Sub.immT (Imm.iptr _ _)) (.cons (Sub.ownT rfl rfl) (.cons (Sub.ownT rfl rfl) (.cons (Sub.mapT rfl rfl) (.cons (Sub.ownT rfl rfl) (.cons (Sub.ownT rfl rfl) (.cons (Sub.ownT rfl rfl) .nil)))))))) (.cons rfl (ObSub.rowsT (q9a q8d)) (.cons rfl (ObSub.rowsT (q9a q8d)) (.cons rfl (ObSub.mapsT q9e) (.cons rfl (ObSub.rowsT (q9a q0d)) (.cons rfl (ObSub.rowsT (q9a q3b)) (.cons rfl ObSub.deadT (.cons rfl (ObSub.rowsT (q9a q3b)) .nil)))))))) (q5c ⟨rfl, rfl⟩)) rfl .nil))) (by kernel_rfl) ?_
    exact jX ((y61.1), (y61.2)) h (gr [0, 1, 2, 3, 4, 5, 6, 9] rfl (hB rfl rfl rfl (hR rfl rfl (hR rfl rfl (hM rfl rfl (hR rfl rfl (hR rfl rfl (hD rfl (hR rfl rfl .nil)))))))) rfl)
   refine rn 1 rfl ?_
   exact jX (l48, l49) h (gr [0, 1, 2, 3, 4, 5, 6, 7] rfl (hB rfl rfl rfl (hR rfl rfl (hR rfl rfl (hM rfl rfl (hR rfl rfl (hR rfl rfl (hD rfl (hR rfl rfl .nil)))))))) rfl)
  rintro ⟨l56, l57⟩ h
  refine rn 5 rfl ?_
  exact jX ((w64 (n47 + 1)), l56, l57) (hk1 _ h) (gr [0, 1, 2, 3, 4, 5, 6, 7] rfl (hB rfl rfl rfl (hR rfl rfl (hR rfl rfl (hM rfl rfl (hR rfl rfl (hR rfl rfl (hD rfl (hR rfl rfl .nil)))))))) rfl)
 replace h := RG.f h hb50
 unfold M149_L1 at h
 refine rn 1 rfl ?_
 replace h := Option.some.inj h
 subst h
 exact wE ⟨.inr rfl, [], (gr [0, 1, 2, 3, 4, 5, 6, 7] rfl (hB rfl rfl rfl (hR rfl rfl (hR rfl rfl (hM rfl rfl (hR rfl rfl (hR rfl rfl (hD rfl (hR rfl rfl .nil)))))))) rfl), .nil⟩
theorem W150 (F : Nat) (a1 : TCall) (a2 : q7a) (a3 : List Bool) (a4 : List Bool) (a5 : List (q0a × Bool)) (a6 : List q0a) (a7 : List Int) (a8 : List Int) (r : ((List Bool) × (List (q0a × Bool)) × (List q0a) × (List Int))) (h : M150 F a1 a2 a3 a4 a5 a6 a7 a8 = some r) : Mut Tryz.prog 150 [(V.ptr 0 7 0 0), (V.agg (q9d a1))] 7 [(0, (Ob.arr 170 7 [[(V.iptr (q2a a2) 0), (V.own 1 a3.length), (V.own 2 a4.length), (V.map 3), (V.own 4 a6.length), (V.own 5 a7.length), (V.own 6 a8.length)]])), (1, (Ob.arr 4 1 (a3.map encB))), (2, (Ob.arr 4 1 (a4.map encB))), (3, (Ob.map (a5.map q3d))), (4, (Ob.arr 304 2 (a6.map q2b))), (5, (Ob.arr 3 1 (a7.map q8a))), (6, (Ob.arr 3 1 (a8.map q8a)))] (resV []) 9 [(0, (Ob.arr 170 7 [[(V.iptr (q2a a2) 0), (V.own 1 (r.1).length), (V.own 2 a4.length), (V.map 3), (V.own 7 (r.2.2.1).length), (V.own 5 a7.length), (V.own 8 (r.2.2.2).length)]])), (1, (Ob.arr 4 1 ((r.1).map encB))), (2, (Ob.arr 4 1 (a4.map encB))), (3, (Ob.map ((r.2.1).map q3d))), (4, Ob.dead), (5, (Ob.arr 3 1 (a7.map q8a))), (6, Ob.dead), (7, (Ob.arr 304 2 ((r.2.2.1).map q2b))), (8, (Ob.arr 3 1 ((r.2.2.2).map q8a)))] := by
 refine mut_enter Tryz.func150 rfl rfl (l := []) rfl rfl [(0, (V.ptr 0 7 0 0)), (1, (V.agg (q9d a1)))] rfl (fun w0 m0 β0 hg => en ?_)
 unfold M150 at h
 refine rn 11 rfl ?_
 refine spC h rfl (fun hb46 h => ?_) (fun hb46 h => ?_)
 ·obtain ⟨y47, hx48, h⟩ := bind_some h
  refine rn 1 rfl ?_
  refine q7c q5f ?_
  refine fa ?_
  refine dr mixed (vs 10 rfl (xD (OD.mk [(17, (V.imap (a2.funcs.map q5e))), (19, (sV a1.Target))] [] [(20, (iV ((mget a2.funcs a1.Target).getD 0)))] []) ⟨⟨rfl, rfl, trivial⟩, trivial⟩ (by exact fun S hn h hh => q3e _ (iV 0) (iV ((mget a2.funcs a1.Target).getD 0)) tMap87 tKey9 tZo3 (q3g _) q4a h.1 .imm (.con h.2.1) ⟨_, rfl⟩ q5i (q7j a2.funcs a1.Target) (q1f (q0i) (mget a2.funcs a1.Target) 0) rfl (q5c ⟨rfl, rfl⟩)) rfl (xD (OD.mk [(10, (V.ptr 0 7 0 0)), (20, (iV ((mget a2.funcs a1.Target).getD 0)))] [(0, (Ob.arr 170 7 [[(V.iptr (q2a a2) 0), (V.own 1 a3.length), (V.own 2 a4.length), (V.map 3), (V.own 4 a6.length), (V.own 5 a7.length), (V.own 6 a8.length)]])), (1, (Ob.arr 4 1 (a3.map encB))), (2, (Ob.arr 4 1 (a4.map encB))), (3, (Ob.map (a5.map q3d))), (4, (Ob.arr 304 2 (a6.map q2b))), (5, (Ob.arr 3 1 (a7.map q8a))), (6, (Ob.arr 3 1 (a8.map q8a))), (8, Ob.res)] [(21, (V.tup []))] [(0, (Ob.arr 170 7 [[(V.iptr (q2a a2) 0), (V.own 1 (y47.1).length), (V.own 2 a4.length), (V.map 3), (V.own 4 a6.length), (V.own 5 a7.length), (V.own 8 (y47.2).length)]])), (1, (Ob.arr 4 1 ((y47.1).map encB))), (2, (Ob.arr 4 1 (a4.map encB))), (3, (Ob.map (a5.map q3d))), (4, (Ob.arr 304 2 (a6.map q2b))), (5, (Ob.arr 3 1 (a7.map q8a))), (6, Ob.dead), (8, (Ob.arr 3 1 ((y47.2).map q8a)))]) ⟨⟨rfl, rfl, trivial⟩, ⟨rfl, rfl, rfl, rfl, rfl, rfl, rfl, rfl, trivial⟩⟩ (by exact fun S hn h hh => aops_mcall_atH [8] hn (List.forall_mem_cons.2 ⟨hh.2.2.2.2.2.2.2.1, (fun _ hx => nomatch hx)⟩) (V.tup []) [(V.ptr 0 7 0 0), (iV ((mget a2.funcs a1.Target).getD 0))] (fun i => ([0, 1, 2, 3, 4, 5, 6] : List Nat).getD i 0) (fun i => ([0, 1, 2, 3, 4, 5, 6, 8] : List Nat).getD i 0) [(0, (Ob.arr 170 7 [[(V.iptr (q2a a2) 0), (V.own 1 (y47.1).length), (V.own 2 a4.length), (V.map 3), (V.own 4 a6.length), (V.own 5 a7.length), (V.own 8 (y47.2).length)]])), (1, (Ob.arr 4 1 ((y47.1).map encB))), (2, (Ob.arr 4 1 (a4.map encB))), (3, (Ob.map (a5.map q3d))), (4, (Ob.arr 304 2 (a6.map q2b))), (5, (Ob.arr 3 1 (a7.map q8a))), (6, Ob.dead), (8, (Ob.arr 3 1 ((y47.2).map q8a)))] fOk148 q4a rfl (q7f h.1 (q7f h.2.1 q9l)) (.cons (Sub.ptr rfl rfl) (.cons (Sub.imm (Imm.con _)) .nil)) (HpSub.consE (id := 0) rfl hh.1 (ObSub.box (.cons (Sub.imm (Imm.iptr _ _)) (.cons (Sub.own rfl rfl) (.cons (Sub.own rfl rfl) (.cons (Sub.map rfl rfl) (.cons (Sub.own rfl rfl) (.cons (Sub.own rfl rfl) (.cons (Sub.own rfl rfl) .nil)))))))) (HpSub.consE (id := 1) rfl hh.2.1 (ObSub.rows (q9a q8d)) (HpSub.consE (id := 2) rfl hh.2.2.1 (ObSub.rows (q9a q8d)) (HpSub.consE (id := 3) rfl hh.2.2.2.1 (ObSub.maps q9e) (HpSub.consE (id := 4) rfl hh.2.2.2.2.1 (ObSub.rows (q9a q0d)) (HpSub.consE (id := 5) rfl hh.2.2.2.2.2.1 (ObSub.rows (q9a q3b)) (HpSub.consE (id := 6) rfl hh.2.2.2.2.2.2.1 (ObSub.rows (q9a q3b)) .nil))))))) (W148 F ((mget a2.funcs a1.Target).getD 0) a2 a3 a4 a5 a6 a7 a8 y47 hx48) rfl rfl rfl rfl (Sub.immT (Imm.tup .nil)) (.cons rfl (ObSub.box (.cons (Sub.immT (Imm.iptr _ _)) (.cons (Sub.ownT rfl rfl) (.cons (Sub.ownT rfl rfl) (.cons (Sub.mapT rfl rfl) (.cons (Sub.ownT rfl rfl) (.cons (Sub.ownT rfl rfl) (.cons (Sub.ownT rfl rfl) .nil)))))))) (.cons rfl (ObSub.rowsT (q9a q8d)) (.cons rfl (ObSub.rowsT (q9a q8d)) (.cons rfl (ObSub.mapsT q9e) (.cons rfl (ObSub.rowsT (q9a q0d)) (.cons rfl (ObSub.rowsT (q9a q3b)) (.cons rfl ObSub.deadT (.cons rfl (ObSub.rowsT (q9a q3b)) .nil)))))))) (q5c ⟨rfl, rfl⟩)) rfl .nil))) (by kernel_rfl) ?_
  replace h := Option.some.inj h
  subst h
  exact wR ⟨.inl rfl, [], (Ghost.trans (ghost_mvC 4 0 9 304 2 (Ob.arr 170 7 [[(V.iptr (q2a a2) 0), (V.own 1 (y47.1).length), (V.own 2 a4.length), (V.map 3), (V.own 9 a6.length), (V.own 5 a7.length), (V.own 8 (y47.2).length)]]) rfl rfl rfl (ObSub.box (.cons Sub.keepMv (.cons Sub.keepMv (.cons Sub.keepMv (.cons Sub.keepMv (.cons Sub.mv (.cons Sub.keepMv (.cons Sub.keepMv .nil)))))))) rfl rfl) (gr [0, 1, 2, 3, 4, 5, 6, 9, 8] rfl (hB rfl rfl rfl (hR rfl rfl (hR rfl rfl (hM rfl rfl (hD rfl (hR rfl rfl (hD rfl (hR rfl rfl (hR rfl rfl .nil))))))))) rfl)), .nil⟩
 refine rn 13 rfl ?_
 refine dr mixed (vs 5 rfl (xD (OD.mk [(30, (V.map 3)), (31, (V.agg [(sV a1.Target), (sV a1.Method)]))] [(3, (Ob.map (a5.map q3d)))] [(32, (bV ((mget a5 (q0a.mk a1.Target a1.Method)).getD false)))] []) ⟨⟨rfl, rfl, trivial⟩, ⟨rfl, trivial⟩⟩ (by exact fun S hn h hh => q3e _ (bV false) (bV ((mget a5 (q0a.mk a1.Target a1.Method)).getD false)) tMap167 tKey304 tZo4 (q3g _) q4a h.1 (.own hh.1) (.agg (cv304 (q0a.mk a1.Target a1.Method)) h.2.1) ⟨_, rfl⟩ encM304_4_good (encM304_4_look a5 (q0a.mk a1.Target a1.Method)) (q1f (q7n) (mget a5 (q0a.mk a1.Target a1.Method)) false) rfl (q5c ⟨rfl, rfl⟩)) rfl .nil)) (by kernel_rfl) ?_
 refine spC h rfl (fun hb49 h => ?_) (fun hb49 h => ?_)
 ·replace h := Option.some.inj h
  subst h
  exact wR ⟨.inl rfl, [], (Ghost.trans (ghost_mvC 4 0 9 304 2 (Ob.arr 170 7 [[(V.iptr (q2a a2) 0), (V.own 1 a3.length), (V.own 2 a4.length), (V.map 3), (V.own 9 a6.length), (V.own 5 a7.length), (V.own 6 a8.length)]]) rfl rfl rfl (ObSub.box (.cons Sub.keepMv (.cons Sub.keepMv (.cons Sub.keepMv (.cons Sub.keepMv (.cons Sub.mv (.cons Sub.keepMv (.cons Sub.keepMv .nil)))))))) rfl rfl) (Ghost.trans (ghost_mvC 6 0 10 3 1 (Ob.arr 170 7 [[(V.iptr (q2a a2) 0), (V.own 1 a3.length), (V.own 2 a4.length), (V.map 3), (V.own 9 a6.length), (V.own 5 a7.length), (V.own 10 a8.length)]]) rfl rfl rfl (ObSub.box (.cons Sub.keepMv (.cons Sub.keepMv (.cons Sub.keepMv (.cons Sub.keepMv (.cons Sub.keepMv (.cons Sub.keepMv (.cons Sub.mv .nil)))))))) rfl rfl) (gr [0, 1, 2, 3, 4, 5, 6, 9, 10] rfl (hB rfl rfl rfl (hR rfl rfl (hR rfl rfl (hM rfl rfl (hD rfl (hR rfl rfl (hD rfl (hR rfl rfl (hR rfl rfl .nil))))))))) rfl))), .nil⟩
 refine rn 2 rfl ?_
 refine dr mixed (vs 5 rfl (xD (OD.mk [(36, (V.map 3)), (37, (V.agg [(sV a1.Target), (sV a1.Method)]))] [(3, (Ob.map (a5.map q3d)))] [] [(3, (Ob.map ((mput a5 (q0a.mk a1.Target a1.Method) true).map q3d)))]) ⟨⟨rfl, rfl, trivial⟩, ⟨rfl, trivial⟩⟩ (by exact fun S hn h hh => q0e (es := a5.map q3d) ((mput a5 (q0a.mk a1.Target a1.Method) true).map q3d) tMap167 tKey304 q4a h.1 hh.1 (.agg (cv304 (q0a.mk a1.Target a1.Method)) h.2.1) ⟨_, rfl⟩ encM304_4_good rfl (encM304_4_puts a5 (q0a.mk a1.Target a1.Method) true) (q5c ⟨rfl, rfl⟩)) rfl .nil)) (by kernel_rfl) ?_
 refine rn 1 rfl ?_
 refine ck h (fun hc50 h => ?_)
 refine q7c q5f ?_
 refine fa ?_
 refine dr mixed (vs 6 rfl (xD (OD.mk [(43, (V.agg [(sV a1.Target), (sV a1.Method)]))] [] [(44, (V.lst 2 (([(q0a.mk a1.Target a1.Method)] : List q0a).map q2b)))] []) ⟨⟨rfl, trivial⟩, trivial⟩ (by exact fun S hn h hh => q7e [(0, (V.agg [(sV a1.Target), (sV a1.Method)]))] [[(sV a1.Target), (sV a1.Method)]] tEl168 tZ304 q4a rfl rfl rfl rfl (q2f h.1 q1h) rfl rfl (by simp) (q3i (.cons (.cons (Imm.con _) (.cons (Imm.con _) .nil)) .nil)) rfl (q5c ⟨rfl, rfl⟩)) rfl (xD (OD.mk [(42, (V.own 4 a6.length)), (44, (V.lst 2 (([(q0a.mk a1.Target a1.Method)] : List q0a).map q2b)))] [(4, (Ob.arr 304 2 (a6.map q2b))), (9, Ob.res)] [(45, (V.own 9 (a6 ++ ([(q0a.mk a1.Target a1.Method)] : List q0a)).length))] [(9, (Ob.arr 304 2 ((a6 ++ ([(q0a.mk a1.Target a1.Method)] : List q0a)).map q2b))), (4, Ob.dead)]) ⟨⟨rfl, rfl, trivial⟩, ⟨rfl, rfl, trivial⟩⟩ (by exact fun S hn h hh => q1g 9 rfl hn hh.2.1 (([(q0a.mk a1.Target a1.Method)] : List q0a).map q2b) ((a6 ++ ([(q0a.mk a1.Target a1.Method)] : List q0a)).map q2b) tEl168 tIsSl168 rfl rfl q4a h.1 hh.1 (by simp) h.2.1 (.lst (q4l one_encTreach_slot)) (q5l q2b a6 ([(q0a.mk a1.Target a1.Method)] : List q0a)) (List.length_map ..) hc50 rfl (q5c ⟨rfl, rfl⟩)) rfl (vs 3 rfl .nil)))) (by kernel_rfl) ?_
 refine rn 1 rfl ?_
 refine dr mixed (vs 9 rfl (xD (OD.mk [(54, (V.imap (a2.fitting.map q0j))), (56, (sV a1.Target))] [] [(57, (V.lst 1 (((mget a2.fitting a1.Target).getD ([] : (List Int))).map q8a)))] []) ⟨⟨rfl, rfl, trivial⟩, trivial⟩ (by exact fun S hn h hh => q3e _ (V.lst 1 (([] : (List Int)).map q8a)) (V.lst 1 (((mget a2.fitting a1.Target).getD ([] : (List Int))).map q8a)) tMap88 tKey9 tZo165 (fun _ => .nil _ _ _) q4a h.1 .imm (.con h.2.1) ⟨_, rfl⟩ encM9_165_good (encM9_165_look a2.fitting a1.Target) (q1f (q6n) (mget a2.fitting a1.Target) ([] : (List Int))) rfl (q5c ⟨rfl, rfl⟩)) rfl (nD rfl rfl rfl (vs 1 rfl .nil)))) (by kernel_rfl) ?_
 refine rn 1 rfl ?_
 refine wl (A := ((mget a2.fitting a1.Target).getD ([] : (List Int)))) 57 rfl (fun hA78 => ?_)
 refine lC (fun (p : Int × (List Bool) × (List Int)) => (⟨[(0, (V.ptr 0 7 0 0)), (3, (V.ptr 7 4 0 0)), (57, (V.lst 1 (((mget a2.fitting a1.Target).getD ([] : (List Int))).map q8a))), (58, (iV ((((mget a2.fitting a1.Target).getD ([] : (List Int))).length : Nat) : Int))), (59, (iV (p.1)))], [(0, (Ob.arr 170 7 [[(V.iptr (q2a a2) 0), (V.own 1 (p.2.1).length), (V.own 2 a4.length), (V.map 3), (V.own 8 (a6 ++ ([(q0a.mk a1.Target a1.Method)] : List q0a)).length), (V.own 5 a7.length), (V.own 9 (p.2.2).length)]])), (1, (Ob.arr 4 1 ((p.2.1).map encB))), (2, (Ob.arr 4 1 (a4.map encB))), (3, (Ob.map ((mput a5 (q0a.mk a1.Target a1.Method) true).map q3d))), (4, Ob.dead), (5, (Ob.arr 3 1 (a7.map q8a))), (6, Ob.dead), (7, (Ob.arr 109 4 [(q9d a1)])), (8, (Ob.arr 304 2 ((a6 ++ ([(q0a.mk a1.Target a1.Method)] : List q0a)).map q2b))), (9, (Ob.arr 3 1 ((p.2.2).map q8a)))], 10⟩ : St)) (fun n p => RG ((mget a2.fitting a1.Target).getD ([] : (List Int))) (fun tl nn => M150_L1 F a1 a2 a4 a5 a6 a7 tl p.2.1 p.2.2 = some r) n p.1) (fun p h => RG.zero h) (((mget a2.fitting a1.Target).getD ([] : (List Int))).length + 1) (0, a3, a8) (RG.start h) (Ghost.trans (ghost_mvC 6 0 10 3 1 (Ob.arr 170 7 [[(V.iptr (q2a a2) 0), (V.own 1 a3.length), (V.own 2 a4.length), (V.map 3), (V.own 9 (a6 ++ ([(q0a.mk a1.Target a1.Method)] : List q0a)).length), (V.own 5 a7.length), (V.own 10 a8.length)]]) rfl rfl rfl (ObSub.box (.cons Sub.keepMv (.cons Sub.keepMv (.cons Sub.keepMv (.cons Sub.keepMv (.cons Sub.keepMv (.cons Sub.keepMv (.cons Sub.mv .nil)))))))) rfl rfl) (gr [0, 1, 2, 3, 4, 5, 6, 7, 9, 10] rfl (hB rfl rfl rfl (hR rfl rfl (hR rfl rfl (hM rfl rfl (hD rfl (hR rfl rfl (hD rfl (hB rfl rfl rfl (hR rfl rfl (hR rfl rfl .nil)))))))))) rfl)) (fun n p h => ?_)
 obtain ⟨n54, l55, l56⟩ := p
 refine rn 5 rfl ?_
 refine spL rfl (fun hb57 => ?_) (fun hb57 => ?_)
 ·obtain ⟨x61, tl, hx62, h, hk1⟩ := RG.t hA78 h hb57
  unfold M150_L1 at h
  refine rn 2 rfl ?_
  refine jK h (fun (p : (List Bool) × (List Int)) => (⟨[(0, (V.ptr 0 7 0 0)), (3, (V.ptr 7 4 0 0)), (57, (V.lst 1 (((mget a2.fitting a1.Target).getD ([] : (List Int))).map q8a))), (58, (iV ((((mget a2.fitting a1.Target).getD ([] : (List Int))).length : Nat) : Int))), (59, (iV n54))], [(0, (Ob.arr 170 7 [[(V.iptr (q2a a2) 0), (V.own 1 (p.1).length), (V.own 2 a4.length), (V.map 3), (V.own 8 (a6 ++ ([(q0a.mk a1.Target a1.Method)] : List q0a)).length), (V.own 5 a7.length), (V.own 9 (p.2).length)]])), (1, (Ob.arr 4 1 ((p.1).map encB))), (2, (Ob.arr 4 1 (a4.map encB))), (3, (Ob.map ((mput a5 (q0a.mk a1.Target a1.Method) true).map q3d))), (4, Ob.dead), (5, (Ob.arr 3 1 (a7.map q8a))), (6, Ob.dead), (7, (Ob.arr 109 4 [(q9d a1)])), (8, (Ob.arr 304 2 ((a6 ++ ([(q0a.mk a1.Target a1.Method)] : List q0a)).map q2b))), (9, (Ob.arr 3 1 ((p.2).map q8a)))], 10⟩ : St)) (fun k58 p => k58 p.1 p.2 = some r) (fun k58 h => ?_) ?_
  ·refine rn 3 rfl ?_
   refine ixh hx62 rfl rfl ?_
   refine rn 14 rfl ?_
   refine spO 71 h rfl (fun hb63 h => ?_) (fun hb63 h => ?_)
   ·obtain ⟨y64, hx65, h⟩ := bind_some h
    obtain ⟨y66, hx67, h⟩ := bind_some h
    refine rn 10 rfl ?_
    refine q7c q5f ?_
    refine fa ?_
    refine dr mixed (vs 7 rfl (cD rfl rfl rfl rfl (W151 _ _ _ _ _ hx65) rfl (xD (OD.mk [(80, (V.ptr 0 7 0 0)), (87, (iV y64))] [(0, (Ob.arr 170 7 [[(V.iptr (q2a a2) 0), (V.own 1 l55.length), (V.own 2 a4.length), (V.map 3), (V.own 8 (a6 ++ ([(q0a.mk a1.Target a1.Method)] : List q0a)).length), (V.own 5 a7.length), (V.own 9 l56.length)]])), (1, (Ob.arr 4 1 (l55.map encB))), (2, (Ob.arr 4 1 (a4.map encB))), (3, (Ob.map ((mput a5 (q0a.mk a1.Target a1.Method) true).map q3d))), (8, (Ob.arr 304 2 ((a6 ++ ([(q0a.mk a1.Target a1.Method)] : List q0a)).map q2b))), (5, (Ob.arr 3 1 (a7.map q8a))), (9, (Ob.arr 3 1 (l56.map q8a))), (10, Ob.res)] [(88, (V.tup []))] [(0, (Ob.arr 170 7 [[(V.iptr (q2a a2) 0), (V.own 1 (y66.1).length), (V.own 2 a4.length), (V.map 3), (V.own 8 (a6 ++ ([(q0a.mk a1.Target a1.Method)] : List q0a)).length), (V.own 5 a7.length), (V.own 10 (y66.2).length)]])), (1, (Ob.arr 4 1 ((y66.1).map encB))), (2, (Ob.arr 4 1 (a4.map encB))), (3, (Ob.map ((mput a5 (q0a.mk a1.Target a1.Method) true).map q3d))), (8, (Ob.arr 304 2 ((a6 ++ ([(q0a.mk a1.Target a1.Method)] : List q0a)).map q2b))), (5, (Ob.arr 3 1 (a7.map q8a))), (9, Ob.dead), (10, (Ob.arr 3 1 ((y66.2).map q8a)))]) ⟨⟨rfl, rfl, trivial⟩, ⟨rfl, rfl, rfl, rfl, rfl, rfl, rfl, rfl, trivial⟩⟩ (by exact fun S hn h hh => aops_mcall_atH [10] hn (List.forall_mem_cons.2 ⟨hh.2.2.2.2.2.2.2.1, (fun _ hx => nomatch hx)⟩) (V.tup []) [(V.ptr 0 7 0 0), (iV y64)] (fun i => ([0, 1, 2, 3, 8, 5, 9] : List Nat).getD i 0) (fun i => ([0, 1, 2, 3, 8, 5, 9, 10] : List Nat).getD i 0) [(0, (Ob.arr 170 7 [[(V.iptr (q2a a2) 0), (V.own 1 (y66.1).length), (V.own 2 a4.length), (V.map 3), (V.own 8 (a6 ++ ([(q0a.mk a1.Target a1.Method)] : List q0a)).length), (V.own 5 a7.length), (V.own 10 (y66.2).length)]])), (1, (Ob.arr 4 1 ((y66.1).map encB))), (2, (Ob.arr 4 1 (a4.map encB))), (3, (Ob.map ((mput a5 (q0a.mk a1.Target a1.Method) true).map q3d))), (8, (Ob.arr 304 2 ((a6 ++ ([(q0a.mk a1.Target a1.Method)] : List q0a)).map q2b))), (5, (Ob.arr 3 1 (a7.map q8a))), (9, Ob.dead), (10, (Ob.arr 3 1 ((y66.2).map q8a)))] fOk148 q4a rfl (q7f h.1 (q7f h.2.1 q9l)) (.cons (Sub.ptr rfl rfl) (.cons (Sub.imm (Imm.con _)) .nil)) (HpSub.consE (id := 0) rfl hh.1 (ObSub.box (.cons (Sub.imm (Imm.iptr _ _)) (.cons (Sub.own rfl rfl) (.cons (Sub.own rfl rfl) (.cons (Sub.map rfl rfl) (.cons (Sub.own rfl rfl) (.cons (Sub.own rfl rfl) (.cons (Sub.own rfl rfl) .nil)))))))) (HpSub.consE (id := 1) rfl hh.2.1 (ObSub.rows (q9a q8d)) (HpSub.consE (id := 2) rfl hh.2.2.1 (ObSub.rows (q9a q8d)) (HpSub.consE (id := 3) rfl hh.2.2.2.1 (ObSub.maps q9e) (HpSub.consE (id := 4) rfl hh.2.2.2.2.1 (ObSub.rows (q9a q0d)) (HpSub.consE (id := 5) rfl hh.2.2.2.2.2.1 (ObSub.rows (q9a q3b)) (HpSub.consE (id := 6) rfl hh.2.2.2.2.2.2.1 (ObSub.rows (q9a q3b)) .nil))))))) (W148 F y64 a2 l55 a4 (mput a5 (q0a.mk a1.Target a1.Method) true) (a6 ++ ([(q0a.mk a1.Target a1.Method)] : List q0a)) a7 l56 y66 hx67) rfl rfl rfl rfl (Sub.immT (Imm.tup .nil)) (.cons rfl (ObSub.box (.cons (Sub.immT (Imm.iptr _ _)) (.cons (Sub.ownT rfl rfl) (.cons (Sub.ownT rfl rfl) (.cons (Sub.mapT rfl rfl) (.cons (Sub.ownT rfl rfl) (.cons (Sub.ownT rfl rfl) (.cons (Sub.ownT rfl rfl) .nil)))))))) (.cons rfl (ObSub.rowsT (q9a q8d)) (.cons rfl (ObSub.rowsT (q9a q8d)) (.cons rfl (ObSub.mapsT q9e) (.cons rfl (ObSub.rowsT (q9a q0d)) (.cons rfl (ObSub.rowsT (q9a q3b)) (.cons rfl ObSub.deadT (.cons rfl (ObSub.rowsT (q9a q3b)) .nil)))))))) (q5c ⟨rfl, rfl⟩)) rfl .nil))) (by kernel_rfl) ?_
    refine rn 1 rfl ?_
    exact jX ((y66.1), (y66.2)) h (gr [0, 1, 2, 3, 4, 5, 6, 7, 8, 10] rfl (hB rfl rfl rfl (hR rfl rfl (hR rfl rfl (hM rfl rfl (hD rfl (hR rfl rfl (hD rfl (hB rfl rfl rfl (hR rfl rfl (hR rfl rfl .nil)))))))))) rfl)
   refine rn 5 rfl ?_
   refine ixo (a := a4) h rfl rfl rfl (fun x68 hx69 h => ?_)
   refine ldp hx69 rfl rfl rfl rfl ?_
   refine rn 2 rfl ?_
   refine jK h (fun (p : (List Bool) × (List Int)) => (⟨[(0, (V.ptr 0 7 0 0)), (3, (V.ptr 7 4 0 0)), (57, (V.lst 1 (((mget a2.fitting a1.Target).getD ([] : (List Int))).map q8a))), (58, (iV ((((mget a2.fitting a1.Target).getD ([] : (List Int))).length : Nat) : Int))), (59, (iV n54)), (78, (bV x68))], [(0, (Ob.arr 170 7 [[(V.iptr (q2a a2) 0), (V.own 1 (p.1).length), (V.own 2 a4.length), (V.map 3), (V.own 8 (a6 ++ ([(q0a.mk a1.Target a1.Method)] : List q0a)).length), (V.own 5 a7.length), (V.own 9 (p.2).length)]])), (1, (Ob.arr 4 1 ((p.1).map encB))), (2, (Ob.arr 4 1 (a4.map encB))), (3, (Ob.map ((mput a5 (q0a.mk a1.Target a1.Method) true).map q3d))), (4, Ob.dead), (5, (Ob.arr 3 1 (a7.map q8a))), (6, Ob.dead), (7, (Ob.arr 109 4 [(q9d a1)])), (8, (Ob.arr 304 2 ((a6 ++ ([(q0a.mk a1.Target a1.Method)] : List q0a)).map q2b))), (9, (Ob.arr 3 1 ((p.2).map q8a)))], 10⟩ : St)) (fun k70 p => k70 p.1 p.2 = some r) (fun k70 h => ?_) ?_
   ·refine spC h rfl (fun hb73 h => ?_) (fun hb73 h => ?_)
    ·obtain ⟨y74, hx75, h⟩ := bind_some h
     obtain ⟨y76, hx77, h⟩ := bind_some h
     refine q7c q5f ?_
     refine fa ?_
     refine dr mixed (vs 7 rfl (cD rfl rfl rfl rfl (W151 _ _ _ _ _ hx75) rfl (xD (OD.mk [(80, (V.ptr 0 7 0 0)), (87, (iV y74))] [(0, (Ob.arr 170 7 [[(V.iptr (q2a a2) 0), (V.own 1 l55.length), (V.own 2 a4.length), (V.map 3), (V.own 8 (a6 ++ ([(q0a.mk a1.Target a1.Method)] : List q0a)).length), (V.own 5 a7.length), (V.own 9 l56.length)]])), (1, (Ob.arr 4 1 (l55.map encB))), (2, (Ob.arr 4 1 (a4.map encB))), (3, (Ob.map ((mput a5 (q0a.mk a1.Target a1.Method) true).map q3d))), (8, (Ob.arr 304 2 ((a6 ++ ([(q0a.mk a1.Target a1.Method)] : List q0a)).map q2b))), (5, (Ob.arr 3 1 (a7.map q8a))), (9, (Ob.arr 3 1 (l56.map q8a))), (10, Ob.res)] [(88, (V.tup []))] [(0, (Ob.arr 170 7 [[(V.iptr (q2a a2) 0), (V.own 1 (y76.1).length), (V.own 2 a4.length), (V.map 3), (V.own 8 (a6 ++ ([(q0a.mk a1.Target a1.Method)] : List q0a)).length), (V.own 5 a7.length), (V.own 10 (y76.2).length)]])), (1, (Ob.arr 4 1 ((y76.1).map encB))), (2, (Ob.arr 4 1 (a4.map encB))), (3, (Ob.map ((mput a5 (q0a.mk a1.Target a1.Method) true).map q3d))), (8, (Ob.arr 304 2 ((a6 ++ ([(q0a.mk a1.Target a1.Method)] : List q0a)).map q2b))), (5, (Ob.arr 3 1 (a7.map q8a))), (9, Ob.dead), (10, (Ob.arr 3 1 ((y76.2).map q8a)))]) ⟨⟨rfl, rfl, trivial⟩, ⟨rfl, rfl, rfl, rfl, rfl, rfl, rfl, rfl, trivial⟩⟩ (by exact fun S hn h hh => aops_mcall_atH [10] hn (List.forall_mem_cons.2 ⟨hh.2.2.2.2.2.2.2.1, (fun _ hx => nomatch hx)⟩) (V.tup []) [(V.ptr 0 7 0 0), (iV y74)] (fun i => ([0, 1, 2, 3, 8, 5, 9] : List Nat).getD i 0) (fun i => ([0, 1, 2, 3, 8, 5, 9, 10] : List Nat).getD i 0) [(0, (Ob.arr 170 7 [[(V.iptr (q2a a2) 0), (V.own 1 (y76.1).length), (V.own 2 a4.length), (V.map 3), (V.own 8 (a6 ++ ([(q0a.mk a1.Target a1.Method)] : List q0a)).length), (V.own 5 a7.length), (V.own 10 (y76.2).length)]])), (1, (Ob.arr 4 1 ((y76.1).map encB))), (2, (Ob.arr 4 1 (a4.map encB))), (3, (Ob.map ((mput a5 (q0a.mk a1.Target a1.Method) true).map q3d))), (8, (Ob.arr 304 2 ((a6 ++ ([(q0a.mk a1.Target a1.Method)] : List q0a)).map q2b))), (5, (Ob.arr 3 1 (a7.map q8a))), (9, Ob.dead), (10, (Ob.arr 3 1 ((y76.2).map q8a)))] fOk148 q4a rfl (q7f h.1 (q7f h.2.1 q9l)) (.cons (Sub.ptr rfl rfl) (.cons (Sub.imm (Imm.con _)) .nil)) (HpSub.consE (id := 0) rfl hh.1 (ObSub.box (.cons (Sub.imm (Imm.iptr _ _)) (.cons (Sub.own rfl rfl) (.cons (Sub.own rfl rfl) (.cons (Sub.map rfl rfl) (.cons (Sub.own rfl rfl) (.cons (Sub.own rfl rfl) (.cons (Sub.own rfl rfl) .nil)))))))) (HpSub.consE (id := 1) rfl hh.2.1 (ObSub.rows (q9a q8d)) (HpSub.consE (id := 2) rfl hh.2.2.1 (ObSub.rows (q9a q8d)) (HpSub.consE (id := 3) rfl hh.2.2.2.1 (ObSub.maps q9e) (HpSub.consE (id := 4) rfl hh.2.2.2.2.1 (ObSub.rows (q9a q0d)) (HpSub.consE (id := 5) rfl hh.2.2.2.2.2.1 (ObSub.rows (q9a q3b)) (HpSub.consE (id := 6) rfl hh.2.2.2.2.2.2.1 (ObSub.rows (q9a q3b)) .nil))))))) (W148 F y74 a2 l55 a4 (mput a5 (q0a.mk a1.Target a1.Method) true) (a6 ++ ([(q0a.mk a1.Target a1.Method)] : List q0a)) a7 l56 y76 hx77) rfl rfl rfl rfl (Sub.immT (Imm.tup .nil)) (.cons rfl (ObSub.box (.cons (Sub.immT (Imm.iptr _ _)) (.cons (Sub.ownT rfl rfl) (.cons (Sub.ownT rfl rfl) (.cons (Sub.mapT rfl rfl) (.cons (Sub.ownT rfl rfl) (.cons (Sub.ownT rfl rfl) (.cons (Sub.ownT rfl rfl) .nil)))))))) (.cons rfl (ObSub.rowsT (q9a q8d)) (.cons rfl (ObSub.rowsT (q9a q8d)) (.cons rfl (ObSub.mapsT q9e) (.cons rfl (ObSub.rowsT (q9a q0d)) (.cons rfl (ObSub.rowsT (q9a q3b)) (.cons rfl ObSub.deadT (.cons rfl (ObSub.rowsT (q9a q3b)) .nil)))))))) (q5c ⟨rfl, rfl⟩)) rfl .nil))) (by kernel_rfl) ?_
     exact jX ((y76.1), (y76.2)) h (gr [0, 1, 2, 3, 4, 5, 6, 7, 8, 10] rfl (hB rfl rfl rfl (hR rfl rfl (hR rfl rfl (hM rfl rfl (hD rfl (hR rfl rfl (hD rfl (hB rfl rfl rfl (hR rfl rfl (hR rfl rfl .nil)))))))))) rfl)
    refine rn 1 rfl ?_
    exact jX (l55, l56) h (gr [0, 1, 2, 3, 4, 5, 6, 7, 8, 9] rfl (hB rfl rfl rfl (hR rfl rfl (hR rfl rfl (hM rfl rfl (hD rfl (hR rfl rfl (hD rfl (hB rfl rfl rfl (hR rfl rfl (hR rfl rfl .nil)))))))))) rfl)
   rintro ⟨l71, l72⟩ h
   refine rn 1 rfl ?_
   exact jX (l71, l72) h (gr [0, 1, 2, 3, 4, 5, 6, 7, 8, 9] rfl (hB rfl rfl rfl (hR rfl rfl (hR rfl rfl (hM rfl rfl (hD rfl (hR rfl rfl (hD rfl (hB rfl rfl rfl (hR rfl rfl (hR rfl rfl .nil)))))))))) rfl)
  rintro ⟨l59, l60⟩ h
  refine rn 4 rfl ?_
  exact jX ((w64 (n54 + 1)), l59, l60) (hk1 _ h) (gr [0, 1, 2, 3, 4, 5, 6, 7, 8, 9] rfl (hB rfl rfl rfl (hR rfl rfl (hR rfl rfl (hM rfl rfl (hD rfl (hR rfl rfl (hD rfl (hB rfl rfl rfl (hR rfl rfl (hR rfl rfl .nil)))))))))) rfl)
 replace h := RG.f h hb57
 unfold M150_L1 at h
 refine rn 1 rfl ?_
 replace h := Option.some.inj h
 subst h
 exact wE ⟨.inr rfl, [], (gr [0, 1, 2, 3, 4, 5, 6, 8, 9] rfl (hB rfl rfl rfl (hR rfl rfl (hR rfl rfl (hM rfl rfl (hD rfl (hR rfl rfl (hD rfl (hR rfl rfl (hR rfl rfl .nil))))))))) rfl), .nil⟩
theorem W89 (F : Nat) (a1 : q7a) (a2 : Int) (r : (Option q7d)) (h : M89 F a1 a2 = some r) : Pure Tryz.prog 89 [(V.iptr (q2a a1) 0), (iV a2)] (optr q9i r) := by
 refine pin (fun r => (optr q9i r)) r rfl Tryz.func89 rfl rfl rfl rfl rfl (fun w0 m0 hg => ?_)
 unfold M89 at h
 refine rn 6 rfl ?_
 refine ck h (fun hc3 h => ?_)
 refine ck h (fun hc4 h => ?_)
 refine q7c q5f ?_
 refine q7c q5f ?_
 refine q7c q5f ?_
 refine q7c q5f ?_
 refine fa ?_
 refine dr mixed (vs 6 rfl (nD rfl rfl rfl (xD (OD.mk [(19, (iV ((a1.g.Funcs.length : Nat) : Int)))] [(0, Ob.res)] [(20, (V.own 0 (List.replicate (((a1.g.Funcs.length : Nat) : Int)).toNat (false : Bool)).length))] [(0, (Ob.arr 4 1 ((List.replicate (((a1.g.Funcs.length : Nat) : Int)).toNat (false : Bool)).map encB)))]) ⟨⟨rfl, trivial⟩, ⟨rfl, trivial⟩⟩ (by exact fun S hn h hh => aops_makeSlice_at 0 rfl hn hh.1 (ln := (List.replicate (((a1.g.Funcs.length : Nat) : Int)).toNat (false : Bool)).length) ((List.replicate (((a1.g.Funcs.length : Nat) : Int)).toNat (false : Bool)).map encB) tEl164 tZ4 rfl rfl hc3 List.map_replicate List.length_replicate q4a h.1 rfl (q5c ⟨rfl, rfl⟩)) rfl (vs 5 rfl (nD rfl rfl rfl (xD (OD.mk [(26, (iV ((a1.g.Types.length : Nat) : Int)))] [(1, Ob.res)] [(27, (V.own 1 (List.replicate (((a1.g.Types.length : Nat) : Int)).toNat (false : Bool)).length))] [(1, (Ob.arr 4 1 ((List.replicate (((a1.g.Types.length : Nat) : Int)).toNat (false : Bool)).map encB)))]) ⟨⟨rfl, trivial⟩, ⟨rfl, trivial⟩⟩ (by exact fun S hn h hh => aops_makeSlice_at 1 rfl hn hh.1 (ln := (List.replicate (((a1.g.Types.length : Nat) : Int)).toNat (false : Bool)).length) ((List.replicate (((a1.g.Types.length : Nat) : Int)).toNat (false : Bool)).map encB) tEl164 tZ4 rfl rfl hc4 List.map_replicate List.length_replicate q4a h.1 rfl (q5c ⟨rfl, rfl⟩)) rfl (xD (OD.mk [] [(2, Ob.res)] [(28, (V.map 2))] [(2, (Ob.map (([] : List (q0a × Bool)).map q3d)))]) ⟨trivial, ⟨rfl, trivial⟩⟩ (by exact fun S hn h hh => aops_makeMap_at 2 rfl hn hh.1 q4a rfl (q5c ⟨rfl, rfl⟩)) rfl (vs 1 rfl (xD (OD.mk [(29, (V.agg [(V.iptr (q2a a1) 0), (V.own 0 (List.replicate (((a1.g.Funcs.length : Nat) : Int)).toNat (false : Bool)).length), (V.own 1 (List.replicate (((a1.g.Types.length : Nat) : Int)).toNat (false : Bool)).length), (V.map 2), nV, nV, nV]))] [(3, Ob.res)] [(30, (V.ptr 3 7 0 0))] [(3, (Ob.arr 170 7 [[(V.iptr (q2a a1) 0), (V.own 0 (List.replicate (((a1.g.Funcs.length : Nat) : Int)).toNat (false : Bool)).length), (V.own 1 (List.replicate (((a1.g.Types.length : Nat) : Int)).toNat (false : Bool)).length), (V.map 2), nV, nV, nV]]))]) ⟨⟨rfl, trivial⟩, ⟨rfl, trivial⟩⟩ (by exact fun S hn h hh => aops_box_at 3 rfl hn hh.1 [(V.iptr (q2a a1) 0), (V.own 0 (List.replicate (((a1.g.Funcs.length : Nat) : Int)).toNat (false : Bool)).length), (V.own 1 (List.replicate (((a1.g.Types.length : Nat) : Int)).toNat (false : Bool)).length), (V.map 2), nV, nV, nV] q4a h.1 rfl rfl rfl (q5c ⟨rfl, rfl⟩)) rfl (vs 1 rfl .nil)))))))))) (by kernel_rfl) ?_
 refine rn 8 rfl ?_
 refine ln rfl rfl ?_
 refine rn 2 rfl ?_
 refine jK h (fun (p : (List Bool) × (List Int)) => (⟨[(0, (V.iptr (q2a a1) 0)), (1, (iV a2)), (5, (V.ptr 0 7 0 0))], [(0, (Ob.arr 170 7 [[(V.iptr (q2a a1) 0), (V.own 1 (p.1).length), (V.own 2 (List.replicate (((a1.g.Types.length : Nat) : Int)).toNat (false : Bool)).length), (V.map 3), (V.own 4 ([] : List q0a).length), (V.own 5 ([] : List Int).length), (V.own 6 (p.2).length)]])), (1, (Ob.arr 4 1 ((p.1).map encB))), (2, (Ob.arr 4 1 ((List.replicate (((a1.g.Types.length : Nat) : Int)).toNat (false : Bool)).map encB))), (3, (Ob.map (([] : List (q0a × Bool)).map q3d))), (4, (Ob.arr 304 2 (([] : List q0a).map q2b))), (5, (Ob.arr 3 1 (([] : List Int).map q8a))), (6, (Ob.arr 3 1 ((p.2).map q8a)))], 7⟩ : St)) (fun k5 p => k5 p.1 p.2 = some r) (fun k5 h => ?_) ?_
 ·refine rn 1 rfl ?_
  refine wl (A := a1.g.Entries) 35 rfl (fun hA19 => ?_)
  refine lC (fun (p : Int × (List Bool) × (List Int)) => (⟨[(0, (V.iptr (q2a a1) 0)), (1, (iV a2)), (5, (V.ptr 0 7 0 0)), (35, (V.lst 1 (a1.g.Entries.map encS))), (36, (iV ((a1.g.Entries.length : Nat) : Int))), (37, (iV (p.1)))], [(0, (Ob.arr 170 7 [[(V.iptr (q2a a1) 0), (V.own 1 (p.2.1).length), (V.own 2 (List.replicate (((a1.g.Types.length : Nat) : Int)).toNat (false : Bool)).length), (V.map 3), (V.own 4 ([] : List q0a).length), (V.own 5 ([] : List Int).length), (V.own 6 (p.2.2).length)]])), (1, (Ob.arr 4 1 ((p.2.1).map encB))), (2, (Ob.arr 4 1 ((List.replicate (((a1.g.Types.length : Nat) : Int)).toNat (false : Bool)).map encB))), (3, (Ob.map (([] : List (q0a × Bool)).map q3d))), (4, (Ob.arr 304 2 (([] : List q0a).map q2b))), (5, (Ob.arr 3 1 (([] : List Int).map q8a))), (6, (Ob.arr 3 1 ((p.2.2).map q8a)))], 7⟩ : St)) (fun n p => RG a1.g.Entries (fun tl nn => M89_L1 F a1 k5 tl p.2.1 p.2.2 = some r) n p.1) (fun p h => RG.zero h) (a1.g.Entries.length + 1) (0, (List.replicate (((a1.g.Funcs.length : Nat) : Int)).toNat (false : Bool)), ([] : List Int)) (RG.start h) (Ghost.trans (ghost_nilC 3 304 2 (Ob.arr 170 7 [[(V.iptr (q2a a1) 0), (V.own 0 (List.replicate (((a1.g.Funcs.length : Nat) : Int)).toNat (false : Bool)).length), (V.own 1 (List.replicate (((a1.g.Types.length : Nat) : Int)).toNat (false : Bool)).length), (V.map 2), (V.own 4 0), nV, nV]]) (ObSub.box (.cons Sub.keepNil (.cons Sub.keepNil (.cons Sub.keepNil (.cons Sub.keepNil (.cons Sub.mkNil (.cons Sub.keepNil (.cons Sub.keepNil .nil))))))))) (Ghost.trans (ghost_nilC 3 3 1 (Ob.arr 170 7 [[(V.iptr (q2a a1) 0), (V.own 0 (List.replicate (((a1.g.Funcs.length : Nat) : Int)).toNat (false : Bool)).length), (V.own 1 (List.replicate (((a1.g.Types.length : Nat) : Int)).toNat (false : Bool)).length), (V.map 2), (V.own 4 0), (V.own 5 0), nV]]) (ObSub.box (.cons Sub.keepNil (.cons Sub.keepNil (.cons Sub.keepNil (.cons Sub.keepNil (.cons Sub.keepNil (.cons Sub.mkNil (.cons Sub.keepNil .nil))))))))) (Ghost.trans (ghost_nilC 3 3 1 (Ob.arr 170 7 [[(V.iptr (q2a a1) 0), (V.own 0 (List.replicate (((a1.g.Funcs.length : Nat) : Int)).toNat (false : Bool)).length), (V.own 1 (List.replicate (((a1.g.Types.length : Nat) : Int)).toNat (false : Bool)).length), (V.map 2), (V.own 4 0), (V.own 5 0), (V.own 6 0)]]) (ObSub.box (.cons Sub.keepNil (.cons Sub.keepNil (.cons Sub.keepNil (.cons Sub.keepNil (.cons Sub.keepNil (.cons Sub.keepNil (.cons Sub.mkNil .nil))))))))) (q9f 7 (fun i => ([3, 0, 1, 2, 4, 5, 6] : List Nat).getD i 0) _ _ (by decide) (q0k.get (.cons (Sub.imm (Imm.iptr _ _)) (.cons (Sub.imm (Imm.con _)) (.cons (Sub.ptr rfl rfl) (.cons (Sub.imm (Imm.lst _ _)) (.cons (Sub.imm (Imm.con _)) (.cons (Sub.imm (Imm.con _)) .nil))))))) (HpSub.get (.cons rfl (ObSub.box (.cons (Sub.imm (Imm.iptr _ _)) (.cons (Sub.own rfl rfl) (.cons (Sub.own rfl rfl) (.cons (Sub.map rfl rfl) (.cons (Sub.ownE rfl rfl (by simp)) (.cons (Sub.ownE rfl rfl (by simp)) (.cons (Sub.ownE rfl rfl (by simp)) .nil)))))))) (.cons rfl (ObSub.rows (q9a q8d)) (.cons rfl (ObSub.rows (q9a q8d)) (.cons rfl (ObSub.maps q9e) (.cons rfl (ObSub.rows (q9a q0d)) (.cons rfl (ObSub.rows (q9a q3b)) (.cons rfl (ObSub.rows (q9a q3b)) .nil)))))))) rfl)))) (fun n p h => ?_)
  obtain ⟨n11, l12, l13⟩ := p
  refine rn 5 rfl ?_
  refine spL rfl (fun hb14 => ?_) (fun hb14 => ?_)
  ·obtain ⟨x15, tl, hx16, h, hk1⟩ := RG.t hA19 h hb14
   unfold M89_L1 at h
   refine rn 5 rfl ?_
   refine ixh hx16 rfl rfl ?_
   refine rn 10 rfl ?_
   refine q3e _ (iV 0) (iV ((mget a1.funcs x15).getD 0)) tMap87 tKey9 tZo3 (q3g _) q4a rfl .imm (.con rfl) ⟨_, rfl⟩ q5i (q7j a1.funcs x15) (q1f (q0i) (mget a1.funcs x15) 0) rfl ?_
   obtain ⟨y17, hx18, h⟩ := bind_some h
   refine q7m (V.tup []) [(V.ptr 0 7 0 0), (iV ((mget a1.funcs x15).getD 0))] (fun i => ([0, 1, 2, 3, 4, 5, 6] : List Nat).getD i 0) (fun i => ([0, 1, 2, 3, 4, 5, 6, 7] : List Nat).getD i 0) 7 8 [(0, (Ob.arr 170 7 [[(V.iptr (q2a a1) 0), (V.own 1 (y17.1).length), (V.own 2 (List.replicate (((a1.g.Types.length : Nat) : Int)).toNat (false : Bool)).length), (V.map 3), (V.own 4 ([] : List q0a).length), (V.own 5 ([] : List Int).length), (V.own 7 (y17.2).length)]])), (1, (Ob.arr 4 1 ((y17.1).map encB))), (2, (Ob.arr 4 1 ((List.replicate (((a1.g.Types.length : Nat) : Int)).toNat (false : Bool)).map encB))), (3, (Ob.map (([] : List (q0a × Bool)).map q3d))), (4, (Ob.arr 304 2 (([] : List q0a).map q2b))), (5, (Ob.arr 3 1 (([] : List Int).map q8a))), (6, Ob.dead), (7, (Ob.arr 3 1 ((y17.2).map q8a)))] fOk148 q4a rfl (q7f rfl (q7f rfl q9l)) (.cons (Sub.ptr rfl rfl) (.cons (Sub.imm (Imm.con _)) .nil)) (.cons rfl (ObSub.box (.cons (Sub.imm (Imm.iptr _ _)) (.cons (Sub.own rfl rfl) (.cons (Sub.own rfl rfl) (.cons (Sub.map rfl rfl) (.cons (Sub.own rfl rfl) (.cons (Sub.own rfl rfl) (.cons (Sub.own rfl rfl) .nil)))))))) (.cons rfl (ObSub.rows (q9a q8d)) (.cons rfl (ObSub.rows (q9a q8d)) (.cons rfl (ObSub.maps q9e) (.cons rfl (ObSub.rows (q9a q0d)) (.cons rfl (ObSub.rows (q9a q3b)) (.cons rfl (ObSub.rows (q9a q3b)) .nil))))))) (W148 F ((mget a1.funcs x15).getD 0) a1 l12 (List.replicate (((a1.g.Types.length : Nat) : Int)).toNat (false : Bool)) ([] : List (q0a × Bool)) ([] : List q0a) ([] : List Int) l13 y17 hx18) rfl rfl rfl rfl (Sub.immT (Imm.tup .nil)) (.cons rfl (ObSub.box (.cons (Sub.immT (Imm.iptr _ _)) (.cons (Sub.ownT rfl rfl) (.cons (Sub.ownT rfl rfl) (.cons (Sub.mapT rfl rfl) (.cons (Sub.ownT rfl rfl) (.cons (Sub.ownT rfl rfl) (.cons (Sub.ownT rfl rfl) .nil)))))))) (.cons rfl (ObSub.rowsT (q9a q8d)) (.cons rfl (ObSub.rowsT (q9a q8d)) (.cons rfl (ObSub.mapsT q9e) (.cons rfl (ObSub.rowsT (q9a q0d)) (.cons rfl (ObSub.rowsT (q9a q3b)) (.cons rfl ObSub.deadT (.cons rfl (ObSub.rowsT (q9a q3b)) .nil)))))))) _ rfl ?_
   refine fo (rn 6 rfl ?_)
   exact jX ((w64 (n11 + 1)), (y17.1), (y17.2)) (hk1 _ h) (gr [0, 1, 2, 3, 4, 5, 7] rfl (hB rfl rfl rfl (hR rfl rfl (hR rfl rfl (hM rfl rfl (hR rfl rfl (hR rfl rfl (hR rfl rfl .nil))))))) rfl)
  replace h := RG.f h hb14
  unfold M89_L1 at h
  refine rn 1 rfl ?_
  exact jX (l12, l13) h (gr [0, 1, 2, 3, 4, 5, 6] rfl (hB rfl rfl rfl (hR rfl rfl (hR rfl rfl (hM rfl rfl (hR rfl rfl (hR rfl rfl (hR rfl rfl .nil))))))) rfl)
 rintro ⟨l6, l7⟩ h
 refine rn 3 rfl ?_
 refine jK h (fun (p : (List Bool) × (List Bool) × (List (q0a × Bool)) × (List q0a) × (List Int)) => (⟨[(5, (V.ptr 0 7 0 0))], [(0, (Ob.arr 170 7 [[(V.iptr (q2a a1) 0), (V.own 1 (p.1).length), (V.own 2 (p.2.1).length), (V.map 3), (V.own 4 (p.2.2.2.1).length), (V.own 5 ([] : List Int).length), (V.own 6 (p.2.2.2.2).length)]])), (1, (Ob.arr 4 1 ((p.1).map encB))), (2, (Ob.arr 4 1 ((p.2.1).map encB))), (3, (Ob.map ((p.2.2.1).map q3d))), (4, (Ob.arr 304 2 ((p.2.2.2.1).map q2b))), (5, (Ob.arr 3 1 (([] : List Int).map q8a))), (6, (Ob.arr 3 1 ((p.2.2.2.2).map q8a)))], 7⟩ : St)) (fun k20 p => k20 p.1 p.2.1 p.2.2.1 p.2.2.2.1 p.2.2.2.2 = some r) (fun k20 h => ?_) ?_
 ·refine rn 1 rfl ?_
  refine lC (fun (p : (List Bool) × (List Bool) × (List (q0a × Bool)) × (List q0a) × (List Int)) => (⟨[(0, (V.iptr (q2a a1) 0)), (1, (iV a2)), (5, (V.ptr 0 7 0 0))], [(0, (Ob.arr 170 7 [[(V.iptr (q2a a1) 0), (V.own 1 (p.1).length), (V.own 2 (p.2.1).length), (V.map 3), (V.own 4 (p.2.2.2.1).length), (V.own 5 ([] : List Int).length), (V.own 6 (p.2.2.2.2).length)]])), (1, (Ob.arr 4 1 ((p.1).map encB))), (2, (Ob.arr 4 1 ((p.2.1).map encB))), (3, (Ob.map ((p.2.2.1).map q3d))), (4, (Ob.arr 304 2 ((p.2.2.2.1).map q2b))), (5, (Ob.arr 3 1 (([] : List Int).map q8a))), (6, (Ob.arr 3 1 ((p.2.2.2.2).map q8a)))], 7⟩ : St)) (fun n p => M89_L2 F a1 a2 k20 n p.1 p.2.1 p.2.2.1 p.2.2.2.1 p.2.2.2.2 = some r) (fun p h => by simp [M89_L2] at h) F (l6, (List.replicate (((a1.g.Types.length : Nat) : Int)).toNat (false : Bool)), ([] : List (q0a × Bool)), ([] : List q0a), l7) h (gr [0, 1, 2, 3, 4, 5, 6] rfl (hB rfl rfl rfl (hR rfl rfl (hR rfl rfl (hM rfl rfl (hR rfl rfl (hR rfl rfl (hR rfl rfl .nil))))))) rfl) (fun n p h => ?_)
  obtain ⟨l31, l32, m33, l34, l35⟩ := p
  unfold M89_L2 at h
  refine rn 10 rfl ?_
  refine spC h rfl (fun hb36 h => ?_) (fun hb36 h => ?_)
  ·refine rn 1 rfl ?_
   refine jK h (fun (p : (List Bool) × (List Bool) × (List (q0a × Bool)) × (List q0a) × (List Int)) => (⟨[(0, (V.iptr (q2a a1) 0)), (1, (iV a2)), (5, (V.ptr 0 7 0 0))], [(0, (Ob.arr 170 7 [[(V.iptr (q2a a1) 0), (V.own 1 (p.1).length), (V.own 2 (p.2.1).length), (V.map 3), (V.own 4 (p.2.2.2.1).length), (V.own 5 ([] : List Int).length), (V.own 6 (p.2.2.2.2).length)]])), (1, (Ob.arr 4 1 ((p.1).map encB))), (2, (Ob.arr 4 1 ((p.2.1).map encB))), (3, (Ob.map ((p.2.2.1).map q3d))), (4, (Ob.arr 304 2 ((p.2.2.2.1).map q2b))), (5, (Ob.arr 3 1 (([] : List Int).map q8a))), (6, (Ob.arr 3 1 ((p.2.2.2.2).map q8a)))], 7⟩ : St)) (fun k37 p => k37 p.1 p.2.1 p.2.2.1 p.2.2.2.1 p.2.2.2.2 = some r) (fun k37 h => ?_) ?_
   ·refine rn 7 rfl ?_
    refine ixo (a := l35) h rfl rfl rfl (fun x43 hx44 h => ?_)
    refine ldp hx44 rfl rfl rfl rfl ?_
    refine rn 9 rfl ?_
    refine ck h (fun hc45 h => ?_)
    refine aops_slice_ownN (nx := 7) (1) (l35.length) ((l35.drop 1).length) ((l35.drop 1).map q8a) tSl165 q4a rfl rfl (by simp) rfl ⟨_, rfl⟩ rfl hc45 (Nat.le_refl _) (List.map_drop ..).symm (by simp) (ndB_rows (q9a q3b)) rfl ?_
    refine fo (rn 11 rfl ?_)
    refine spC h rfl (fun hb46 h => ?_) (fun hb46 h => ?_)
    ·refine rn 1 rfl ?_
     exact jX (l31, l32, m33, l34, (l35.drop 1)) h (gr [0, 1, 2, 3, 4, 5, 7] rfl (hB rfl rfl rfl (hR rfl rfl (hR rfl rfl (hM rfl rfl (hR rfl rfl (hR rfl rfl (hR rfl rfl .nil))))))) rfl)
    refine rn 10 rfl ?_
    refine ixl h rfl rfl (fun x47 hx48 h => ?_)
    refine rn 2 rfl ?_
    refine ln rfl rfl ?_
    refine rn 2 rfl ?_
    refine jK h (fun (p : (List Bool) × (List Bool) × (List Int)) => (⟨[(0, (V.iptr (q2a a1) 0)), (1, (iV a2)), (5, (V.ptr 0 7 0 0)), (8, (iV x43))], [(0, (Ob.arr 170 7 [[(V.iptr (q2a a1) 0), (V.own 1 (p.1).length), (V.own 2 (p.2.1).length), (V.map 3), (V.own 4 l34.length), (V.own 5 ([] : List Int).length), (V.own 6 (p.2.2).length)]])), (1, (Ob.arr 4 1 ((p.1).map encB))), (2, (Ob.arr 4 1 ((p.2.1).map encB))), (3, (Ob.map (m33.map q3d))), (4, (Ob.arr 304 2 (l34.map q2b))), (5, (Ob.arr 3 1 (([] : List Int).map q8a))), (6, (Ob.arr 3 1 ((p.2.2).map q8a)))], 7⟩ : St)) (fun k49 p => k49 p.1 p.2.1 p.2.2 = some r) (fun k49 h => ?_) ?_
    ·refine rn 1 rfl ?_
     refine wl (A := x47.Makes) 81 rfl (fun hA66 => ?_)
     refine lC (fun (p : Int × (List Bool) × (List Bool) × (List Int)) => (⟨[(0, (V.iptr (q2a a1) 0)), (1, (iV a2)), (5, (V.ptr 0 7 0 0)), (8, (iV x43)), (81, (V.lst 1 (x47.Makes.map encS))), (82, (iV ((x47.Makes.length : Nat) : Int))), (83, (iV (p.1)))], [(0, (Ob.arr 170 7 [[(V.iptr (q2a a1) 0), (V.own 1 (p.2.1).length), (V.own 2 (p.2.2.1).length), (V.map 3), (V.own 4 l34.length), (V.own 5 ([] : List Int).length), (V.own 6 (p.2.2.2).length)]])), (1, (Ob.arr 4 1 ((p.2.1).map encB))), (2, (Ob.arr 4 1 ((p.2.2.1).map encB))), (3, (Ob.map (m33.map q3d))), (4, (Ob.arr 304 2 (l34.map q2b))), (5, (Ob.arr 3 1 (([] : List Int).map q8a))), (6, (Ob.arr 3 1 ((p.2.2.2).map q8a)))], 7⟩ : St)) (fun n p => RG x47.Makes (fun tl nn => M89_L3 F a1 m33 l34 k49 tl p.2.1 p.2.2.1 p.2.2.2 = some r) n p.1) (fun p h => RG.zero h) (x47.Makes.length + 1) (0, l31, l32, (l35.drop 1)) (RG.start h) (gr [0, 1, 2, 3, 4, 5, 7] rfl (hB rfl rfl rfl (hR rfl rfl (hR rfl rfl (hM rfl rfl (hR rfl rfl (hR rfl rfl (hR rfl rfl .nil))))))) rfl) (fun n p h => ?_)
     obtain ⟨n57, l58, l59, l60⟩ := p
     refine rn 5 rfl ?_
     refine spL rfl (fun hb61 => ?_) (fun hb61 => ?_)
     ·obtain ⟨x62, tl, hx63, h, hk3⟩ := RG.t hA66 h hb61
      unfold M89_L3 at h
      refine rn 5 rfl ?_
      refine ixh hx63 rfl rfl ?_
      refine rn 10 rfl ?_
      refine q3e _ (iV 0) (iV ((mget a1.types x62).getD 0)) tMap87 tKey9 tZo3 (q3g _) q4a rfl .imm (.con rfl) ⟨_, rfl⟩ q5i (q7j a1.types x62) (q1f (q0i) (mget a1.types x62) 0) rfl ?_
      obtain ⟨y64, hx65, h⟩ := bind_some h
      refine q7m (V.tup []) [(V.ptr 0 7 0 0), (iV ((mget a1.types x62).getD 0))] (fun i => ([0, 1, 2, 3, 4, 5, 6] : List Nat).getD i 0) (fun i => ([0, 1, 2, 3, 4, 5, 6, 7] : List Nat).getD i 0) 7 8 [(0, (Ob.arr 170 7 [[(V.iptr (q2a a1) 0), (V.own 1 (y64.1).length), (V.own 2 (y64.2.1).length), (V.map 3), (V.own 4 l34.length), (V.own 5 ([] : List Int).length), (V.own 7 (y64.2.2).length)]])), (1, (Ob.arr 4 1 ((y64.1).map encB))), (2, (Ob.arr 4 1 ((y64.2.1).map encB))), (3, (Ob.map (m33.map q3d))), (4, (Ob.arr 304 2 (l34.map q2b))), (5, (Ob.arr 3 1 (([] : List Int).map q8a))), (6, Ob.dead), (7, (Ob.arr 3 1 ((y64.2.2).map q8a)))] fOk149 q4a rfl (q7f rfl (q7f rfl q9l)) (.cons (Sub.ptr rfl rfl) (.cons (Sub.imm (Imm.con _)) .nil)) (.cons rfl (ObSub.box (.cons (Sub.imm (Imm.iptr _ _)) (.cons (Sub.own rfl rfl) (.cons (Sub.own rfl rfl) (.cons (Sub.map rfl rfl) (.cons (Sub.own rfl rfl) (.cons (Sub.own rfl rfl) (.cons (Sub.own rfl rfl) .nil)))))))) (.cons rfl (ObSub.rows (q9a q8d)) (.cons rfl (ObSub.rows (q9a q8d)) (.cons rfl (ObSub.maps q9e) (.cons rfl (ObSub.rows (q9a q0d)) (.cons rfl (ObSub.rows (q9a q3b)) (.cons rfl (ObSub.rows (q9a q3b)) .nil))))))) (W149 F ((mget a1.types x62).getD 0) a1 l58 l59 m33 l34 ([] : List Int) l60 y64 hx65) rfl rfl rfl rfl (Sub.immT (Imm.tup .nil)) (.cons rfl (ObSub.box (.cons (Sub.immT (Imm.iptr _ _)) (.cons (Sub.ownT rfl rfl) (.cons (Sub.ownT rfl rfl) (.cons (Sub.mapT rfl rfl) (.cons (Sub.ownT rfl rfl) (.cons (Sub.ownT rfl rfl) (.cons (Sub.ownT rfl rfl) .nil)))))))) (.cons rfl (ObSub.rowsT (q9a q8d)) (.cons rfl (ObSub.rowsT (q9a q8d)) (.cons rfl (ObSub.mapsT q9e) (.cons rfl (ObSub.rowsT (q9a q0d)) (.cons rfl (ObSub.rowsT (q9a q3b)) (.cons rfl ObSub.deadT (.cons rfl (ObSub.rowsT (q9a q3b)) .nil)))))))) _ rfl ?_
      refine fo (rn 6 rfl ?_)
      exact jX ((w64 (n57 + 1)), (y64.1), (y64.2.1), (y64.2.2)) (hk3 _ h) (gr [0, 1, 2, 3, 4, 5, 7] rfl (hB rfl rfl rfl (hR rfl rfl (hR rfl rfl (hM rfl rfl (hR rfl rfl (hR rfl rfl (hR rfl rfl .nil))))))) rfl)
     replace h := RG.f h hb61
     unfold M89_L3 at h
     refine rn 1 rfl ?_
     exact jX (l58, l59, l60) h (gr [0, 1, 2, 3, 4, 5, 6] rfl (hB rfl rfl rfl (hR rfl rfl (hR rfl rfl (hM rfl rfl (hR rfl rfl (hR rfl rfl (hR rfl rfl .nil))))))) rfl)
    rintro ⟨l50, l51, l52⟩ h
    refine rn 8 rfl ?_
    refine ixl h rfl rfl (fun x67 hx68 h => ?_)
    refine rn 2 rfl ?_
    refine ln rfl rfl ?_
    refine rn 2 rfl ?_
    refine jK h (fun (p : (List Bool) × (List (q0a × Bool)) × (List q0a) × (List Int)) => (⟨[(0, (V.iptr (q2a a1) 0)), (1, (iV a2)), (5, (V.ptr 0 7 0 0))], [(0, (Ob.arr 170 7 [[(V.iptr (q2a a1) 0), (V.own 1 (p.1).length), (V.own 2 l51.length), (V.map 3), (V.own 4 (p.2.2.1).length), (V.own 5 ([] : List Int).length), (V.own 6 (p.2.2.2).length)]])), (1, (Ob.arr 4 1 ((p.1).map encB))), (2, (Ob.arr 4 1 (l51.map encB))), (3, (Ob.map ((p.2.1).map q3d))), (4, (Ob.arr 304 2 ((p.2.2.1).map q2b))), (5, (Ob.arr 3 1 (([] : List Int).map q8a))), (6, (Ob.arr 3 1 ((p.2.2.2).map q8a)))], 7⟩ : St)) (fun k69 p => k69 p.1 p.2.1 p.2.2.1 p.2.2.2 = some r) (fun k69 h => ?_) ?_
    ·refine rn 1 rfl ?_
     refine wl (A := x67.Calls) 104 rfl (fun hA99 => ?_)
     refine lC (fun (p : Int × (List Bool) × (List (q0a × Bool)) × (List q0a) × (List Int)) => (⟨[(0, (V.iptr (q2a a1) 0)), (1, (iV a2)), (5, (V.ptr 0 7 0 0)), (104, (V.lst 4 (x67.Calls.map q9d))), (105, (iV ((x67.Calls.length : Nat) : Int))), (106, (iV (p.1)))], [(0, (Ob.arr 170 7 [[(V.iptr (q2a a1) 0), (V.own 1 (p.2.1).length), (V.own 2 l51.length), (V.map 3), (V.own 4 (p.2.2.2.1).length), (V.own 5 ([] : List Int).length), (V.own 6 (p.2.2.2.2).length)]])), (1, (Ob.arr 4 1 ((p.2.1).map encB))), (2, (Ob.arr 4 1 (l51.map encB))), (3, (Ob.map ((p.2.2.1).map q3d))), (4, (Ob.arr 304 2 ((p.2.2.2.1).map q2b))), (5, (Ob.arr 3 1 (([] : List Int).map q8a))), (6, (Ob.arr 3 1 ((p.2.2.2.2).map q8a)))], 7⟩ : St)) (fun n p => RG x67.Calls (fun tl nn => M89_L4 F a1 a2 l51 k20 k69 tl p.2.1 p.2.2.1 p.2.2.2.1 p.2.2.2.2 = some r) n p.1) (fun p h => RG.zero h) (x67.Calls.length + 1) (0, l50, m33, l34, l52) (RG.start h) (gr [0, 1, 2, 3, 4, 5, 6] rfl (hB rfl rfl rfl (hR rfl rfl (hR rfl rfl (hM rfl rfl (hR rfl rfl (hR rfl rfl (hR rfl rfl .nil))))))) rfl) (fun n p h => ?_)
     obtain ⟨n79, l80, m81, l82, l83⟩ := p
     refine rn 5 rfl ?_
     refine spL rfl (fun hb84 => ?_) (fun hb84 => ?_)
     ·obtain ⟨x90, tl, hx91, h, hk4⟩ := RG.t hA99 h hb84
      unfold M89_L4 at h
      refine rn 2 rfl ?_
      refine jK h (fun (p : (List Bool) × (List (q0a × Bool)) × (List q0a) × (List Int)) => (⟨[(0, (V.iptr (q2a a1) 0)), (1, (iV a2)), (5, (V.ptr 0 7 0 0)), (104, (V.lst 4 (x67.Calls.map q9d))), (105, (iV ((x67.Calls.length : Nat) : Int))), (106, (iV n79))], [(0, (Ob.arr 170 7 [[(V.iptr (q2a a1) 0), (V.own 1 (p.1).length), (V.own 2 l51.length), (V.map 3), (V.own 4 (p.2.2.1).length), (V.own 5 ([] : List Int).length), (V.own 6 (p.2.2.2).length)]])), (1, (Ob.arr 4 1 ((p.1).map encB))), (2, (Ob.arr 4 1 (l51.map encB))), (3, (Ob.map ((p.2.1).map q3d))), (4, (Ob.arr 304 2 ((p.2.2.1).map q2b))), (5, (Ob.arr 3 1 (([] : List Int).map q8a))), (6, (Ob.arr 3 1 ((p.2.2.2).map q8a)))], 7⟩ : St)) (fun k85 p => k85 p.1 p.2.1 p.2.2.1 p.2.2.2 = some r) (fun k85 h => ?_) ?_
      ·refine rn 3 rfl ?_
       refine ixh hx91 rfl rfl ?_
       refine rn 6 rfl ?_
       refine dr mixed (vs 6 rfl (xD (OD.mk [(113, (V.imap (a1.on.map q5b))), (115, (sV x90.Feature))] [] [(116, (bV ((mget a1.on x90.Feature).getD false)))] []) ⟨⟨rfl, rfl, trivial⟩, trivial⟩ (by exact fun S hn h hh => q3e _ (bV false) (bV ((mget a1.on x90.Feature).getD false)) q2k tKey9 tZo4 (q3g _) q4a h.1 .imm (.con h.2.1) ⟨_, rfl⟩ q6e (q3h a1.on x90.Feature) (q1f (q0g) (mget a1.on x90.Feature) false) rfl (q5c ⟨rfl, rfl⟩)) rfl (vs 1 rfl .nil))) (by kernel_rfl) ?_
       refine spC h rfl (fun hb92 h => ?_) (fun hb92 h => ?_)
       ·refine rn 1 rfl ?_
        exact jX (l80, m81, l82, l83) h (gr [0, 1, 2, 3, 4, 5, 6] rfl (hB rfl rfl rfl (hR rfl rfl (hR rfl rfl (hM rfl rfl (hR rfl rfl (hR rfl rfl (hR rfl rfl .nil))))))) rfl)
       obtain ⟨y93, hx94, h⟩ := bind_some h
       refine rn 5 rfl ?_
       refine q7m (V.tup []) [(V.ptr 0 7 0 0), (V.agg (q9d x90))] (fun i => ([0, 1, 2, 3, 4, 5, 6] : List Nat).getD i 0) (fun i => ([0, 1, 2, 3, 4, 5, 6, 8, 9] : List Nat).getD i 0) 8 10 [(0, (Ob.arr 170 7 [[(V.iptr (q2a a1) 0), (V.own 1 (y93.1).length), (V.own 2 l51.length), (V.map 3), (V.own 8 (y93.2.2.1).length), (V.own 5 ([] : List Int).length), (V.own 9 (y93.2.2.2).length)]])), (1, (Ob.arr 4 1 ((y93.1).map encB))), (2, (Ob.arr 4 1 (l51.map encB))), (3, (Ob.map ((y93.2.1).map q3d))), (4, Ob.dead), (5, (Ob.arr 3 1 (([] : List Int).map q8a))), (6, Ob.dead), (8, (Ob.arr 304 2 ((y93.2.2.1).map q2b))), (9, (Ob.arr 3 1 ((y93.2.2.2).map q8a)))] fOk150 q4a rfl (q7f rfl (q7f rfl q9l)) (.cons (Sub.ptr rfl rfl) (.cons (Sub.imm (Imm.agg (imms_encTCall _))) .nil)) (.cons rfl (ObSub.box (.cons (Sub.imm (Imm.iptr _ _)) (.cons (Sub.own rfl rfl) (.cons (Sub.own rfl rfl) (.cons (Sub.map rfl rfl) (.cons (Sub.own rfl rfl) (.cons (Sub.own rfl rfl) (.cons (Sub.own rfl rfl) .nil)))))))) (.cons rfl (ObSub.rows (q9a q8d)) (.cons rfl (ObSub.rows (q9a q8d)) (.cons rfl (ObSub.maps q9e) (.cons rfl (ObSub.rows (q9a q0d)) (.cons rfl (ObSub.rows (q9a q3b)) (.cons rfl (ObSub.rows (q9a q3b)) .nil))))))) (W150 F x90 a1 l80 l51 m81 l82 ([] : List Int) l83 y93 hx94) rfl rfl rfl rfl (Sub.immT (Imm.tup .nil)) (.cons rfl (ObSub.box (.cons (Sub.immT (Imm.iptr _ _)) (.cons (Sub.ownT rfl rfl) (.cons (Sub.ownT rfl rfl) (.cons (Sub.mapT rfl rfl) (.cons (Sub.ownT rfl rfl) (.cons (Sub.ownT rfl rfl) (.cons (Sub.ownT rfl rfl) .nil)))))))) (.cons rfl (ObSub.rowsT (q9a q8d)) (.cons rfl (ObSub.rowsT (q9a q8d)) (.cons rfl (ObSub.mapsT q9e) (.cons rfl ObSub.deadT (.cons rfl (ObSub.rowsT (q9a q3b)) (.cons rfl ObSub.deadT (.cons rfl (ObSub.rowsT (q9a q0d)) (.cons rfl (ObSub.rowsT (q9a q3b)) .nil))))))))) _ rfl ?_
       refine fo (rn 6 rfl ?_)
       refine spO 123 h rfl (fun hb95 h => ?_) (fun hb95 h => ?_)
       ·refine rn 5 rfl ?_
        refine ixo (a := (y93.1)) h rfl rfl rfl (fun x96 hx97 h => ?_)
        refine ldp hx97 rfl rfl rfl rfl ?_
        refine rn 2 rfl ?_
        refine spC h rfl (fun hb98 h => ?_) (fun hb98 h => ?_)
        ·refine rn 1 rfl ?_
         exact jX ((y93.1), l51, (y93.2.1), (y93.2.2.1), (y93.2.2.2)) h (gr [0, 1, 2, 3, 8, 5, 9] rfl (hB rfl rfl rfl (hR rfl rfl (hR rfl rfl (hM rfl rfl (hR rfl rfl (hR rfl rfl (hR rfl rfl .nil))))))) rfl)
        refine rn 2 rfl ?_
        exact jX ((y93.1), (y93.2.1), (y93.2.2.1), (y93.2.2.2)) h (gr [0, 1, 2, 3, 8, 5, 9] rfl (hB rfl rfl rfl (hR rfl rfl (hR rfl rfl (hM rfl rfl (hR rfl rfl (hR rfl rfl (hR rfl rfl .nil))))))) rfl)
       refine rn 12 rfl ?_
       exact jX ((y93.1), (y93.2.1), (y93.2.2.1), (y93.2.2.2)) h (gr [0, 1, 2, 3, 8, 5, 9] rfl (hB rfl rfl rfl (hR rfl rfl (hR rfl rfl (hM rfl rfl (hR rfl rfl (hR rfl rfl (hR rfl rfl .nil))))))) rfl)
      rintro ⟨l86, m87, l88, l89⟩ h
      refine rn 4 rfl ?_
      exact jX ((w64 (n79 + 1)), l86, m87, l88, l89) (hk4 _ h) (gr [0, 1, 2, 3, 4, 5, 6] rfl (hB rfl rfl rfl (hR rfl rfl (hR rfl rfl (hM rfl rfl (hR rfl rfl (hR rfl rfl (hR rfl rfl .nil))))))) rfl)
     replace h := RG.f h hb84
     unfold M89_L4 at h
     refine rn 1 rfl ?_
     exact jX (l80, m81, l82, l83) h (gr [0, 1, 2, 3, 4, 5, 6] rfl (hB rfl rfl rfl (hR rfl rfl (hR rfl rfl (hM rfl rfl (hR rfl rfl (hR rfl rfl (hR rfl rfl .nil))))))) rfl)
    rintro ⟨l70, m71, l72, l73⟩ h
    refine rn 1 rfl ?_
    exact jX (l70, l51, m71, l72, l73) h (gr [0, 1, 2, 3, 4, 5, 6] rfl (hB rfl rfl rfl (hR rfl rfl (hR rfl rfl (hM rfl rfl (hR rfl rfl (hR rfl rfl (hR rfl rfl .nil))))))) rfl)
   rintro ⟨l38, l39, m40, l41, l42⟩ h
   exact jX (l38, l39, m40, l41, l42) h (gr [0, 1, 2, 3, 4, 5, 6] rfl (hB rfl rfl rfl (hR rfl rfl (hR rfl rfl (hM rfl rfl (hR rfl rfl (hR rfl rfl (hR rfl rfl .nil))))))) rfl)
  refine rn 1 rfl ?_
  exact jX (l31, l32, m33, l34, l35) h (gr [0, 1, 2, 3, 4, 5, 6] rfl (hB rfl rfl rfl (hR rfl rfl (hR rfl rfl (hM rfl rfl (hR rfl rfl (hR rfl rfl (hR rfl rfl .nil))))))) rfl)
 rintro ⟨l21, l22, m23, l24, l25⟩ h
 refine rn 5 rfl ?_
 refine q7c (q6l 1 0 (Ob.arr 170 7 [[(V.iptr (q2a a1) 0), (V.lst 1 (l21.map encB)), (V.own 2 l22.length), (V.map 3), (V.own 4 l24.length), (V.own 5 ([] : List Int).length), (V.own 6 l25.length)]]) rfl (q9a q8d) (ObSub.box (.cons Sub.keep (.cons (Sub.frzAll (rows := l21.map encB) (List.length_map ..).symm) (.cons Sub.keep (.cons Sub.keep (.cons Sub.keep (.cons Sub.keep (.cons Sub.keep .nil))))))))) ?_
 refine q7c (q6l 2 0 (Ob.arr 170 7 [[(V.iptr (q2a a1) 0), (V.lst 1 (l21.map encB)), (V.lst 1 (l22.map encB)), (V.map 3), (V.own 4 l24.length), (V.own 5 ([] : List Int).length), (V.own 6 l25.length)]]) rfl (q9a q8d) (ObSub.box (.cons Sub.keep (.cons Sub.keep (.cons (Sub.frzAll (rows := l22.map encB) (List.length_map ..).symm) (.cons Sub.keep (.cons Sub.keep (.cons Sub.keep (.cons Sub.keep .nil))))))))) ?_
 refine q7c (q8j 3 0 (Ob.arr 170 7 [[(V.iptr (q2a a1) 0), (V.lst 1 (l21.map encB)), (V.lst 1 (l22.map encB)), (V.imap (m23.map q3d)), (V.own 4 l24.length), (V.own 5 ([] : List Int).length), (V.own 6 l25.length)]]) rfl q9e (ObSub.box (.cons Sub.keepM (.cons Sub.keepM (.cons Sub.keepM (.cons Sub.frzM (.cons Sub.keepM (.cons Sub.keepM (.cons Sub.keepM .nil))))))))) ?_
 refine q7c (q6l 4 0 (Ob.arr 170 7 [[(V.iptr (q2a a1) 0), (V.lst 1 (l21.map encB)), (V.lst 1 (l22.map encB)), (V.imap (m23.map q3d)), (V.lst 2 (l24.map q2b)), (V.own 5 ([] : List Int).length), (V.own 6 l25.length)]]) rfl (q9a q0d) (ObSub.box (.cons Sub.keep (.cons Sub.keep (.cons Sub.keep (.cons Sub.keep (.cons (Sub.frzAll (rows := l24.map q2b) (List.length_map ..).symm) (.cons Sub.keep (.cons Sub.keep .nil))))))))) ?_
 refine q7c (q6l 5 0 (Ob.arr 170 7 [[(V.iptr (q2a a1) 0), (V.lst 1 (l21.map encB)), (V.lst 1 (l22.map encB)), (V.imap (m23.map q3d)), (V.lst 2 (l24.map q2b)), (V.lst 1 (([] : List Int).map q8a)), (V.own 6 l25.length)]]) rfl (q9a q3b) (ObSub.box (.cons Sub.keep (.cons Sub.keep (.cons Sub.keep (.cons Sub.keep (.cons Sub.keep (.cons (Sub.frzAll (rows := ([] : List Int).map q8a) (List.length_map ..).symm) (.cons Sub.keep .nil))))))))) ?_
 refine q7c (q6l 6 0 (Ob.arr 170 7 [[(V.iptr (q2a a1) 0), (V.lst 1 (l21.map encB)), (V.lst 1 (l22.map encB)), (V.imap (m23.map q3d)), (V.lst 2 (l24.map q2b)), (V.lst 1 (([] : List Int).map q8a)), (V.lst 1 (l25.map q8a))]]) rfl (q9a q3b) (ObSub.box (.cons Sub.keep (.cons Sub.keep (.cons Sub.keep (.cons Sub.keep (.cons Sub.keep (.cons Sub.keep (.cons (Sub.frzAll (rows := l25.map q8a) (List.length_map ..).symm) .nil))))))))) ?_
 refine q7c (ghost_frzP 0 4 rfl (q3i (.cons (.cons (Imm.iptr _ _) (.cons (Imm.lst _ _) (.cons (Imm.lst _ _) (.cons (Imm.imap _) (.cons (Imm.lst _ _) (.cons (Imm.lst _ _) (.cons (Imm.lst _ _) .nil))))))) .nil)) rfl rfl) ?_
 refine fa ?_
 exact rt h rfl
theorem W25 (F : Nat) (a1 : q1c) (a2 : Int) (a3 : (List (List UInt8))) (r : ((List (List UInt8)) × Int)) (h : M25 F a1 a2 a3 = some r) : Pure Tryz.prog 25 [(V.agg (q3c a1)), (iV a2), (V.lst 1 (a3.map encS))] (V.tup [(V.lst 1 ((r.1).map encS)), (iV (r.2))]) := by
 refine pin (fun r => (V.tup [(V.lst 1 ((r.1).map encS)), (iV (r.2))])) r rfl Tryz.func25 rfl rfl rfl rfl rfl (fun w0 m0 hg => ?_)
 unfold M25 at h
 refine rn 11 rfl ?_
 refine cl h rfl rfl rfl (W78 _ _ _ _) rfl (fun y4 hx5 h => ?_)
 refine rn 12 rfl ?_
 refine spC h rfl (fun hb6 h => ?_) (fun hb6 h => ?_)
 ·refine rn 6 rfl ?_
  exact rt h rfl
 obtain ⟨x7, hx8, h⟩ := bind_some h
 refine rn 7 rfl ?_
 refine opC 8 hx8 rfl ?_
 refine rn 2 rfl ?_
 refine cl h rfl rfl rfl (W89 _ _ _) rfl (fun y9 hx10 h => ?_)
 obtain ⟨x11, hx12, h⟩ := bind_some h
 refine opO 24 hx12 rfl ?_
 refine rn 3 rfl ?_
 refine ln rfl rfl ?_
 refine rn 2 rfl ?_
 refine jK h (fun (p : (List (List UInt8))) => (⟨[(10, (V.own 0 p.length))], [(0, (Ob.arr 9 1 (p.map encS)))], 1⟩ : St)) (fun k13 p => k13 p = some r) (fun k13 h => ?_) ?_
 ·refine rn 1 rfl ?_
  refine wl (A := x11.funcs) 27 rfl (fun hA28 => ?_)
  refine lC (fun (p : Int × (List (List UInt8))) => (⟨[(3, (V.ptr 0 4 0 0)), (10, (V.own 1 (p.2).length)), (27, (V.lst 1 (x11.funcs.map encB))), (28, (iV ((x11.funcs.length : Nat) : Int))), (29, (iV (p.1)))], [(0, (Ob.arr 27 4 [(q3c a1)])), (1, (Ob.arr 9 1 ((p.2).map encS)))], 2⟩ : St)) (fun n p => RG x11.funcs (fun tl nn => M25_L1 F a1 k13 tl nn p.2 = some r) n p.1) (fun p h => RG.zero h) (x11.funcs.length + 1) (0, ([] : List (List UInt8))) (RG.start h) (Ghost.trans (q1j 10 9 1 rfl) (q9f 2 (fun i => ([0, 1] : List Nat).getD i 0) _ _ (by decide) (q0k.get (.cons (Sub.ptr rfl rfl) (.cons (Sub.ownE rfl rfl (by simp)) (.cons (Sub.imm (Imm.lst _ _)) (.cons (Sub.imm (Imm.con _)) (.cons (Sub.imm (Imm.con _)) .nil)))))) (HpSub.get (.cons rfl (ObSub.box (.cons (Sub.imm (Imm.lst _ _)) (.cons (Sub.imm (Imm.lst _ _)) (.cons (Sub.imm (Imm.lst _ _)) (.cons (Sub.imm (Imm.lst _ _)) .nil))))) (.cons rfl (ObSub.rows (q9a q3j)) .nil))) rfl)) (fun n p h => ?_)
  obtain ⟨n17, l18⟩ := p
  refine rn 5 rfl ?_
  refine spL rfl (fun hb19 => ?_) (fun hb19 => ?_)
  ·obtain ⟨x20, tl, hx21, h, hk1⟩ := RG.t hA28 h hb19
   unfold M25_L1 at h
   refine rn 6 rfl ?_
   refine ixh hx21 rfl rfl ?_
   refine rn 8 rfl ?_
   refine jK h (fun (p : (List (List UInt8))) => (⟨[(3, (V.ptr 0 4 0 0)), (10, (V.own 1 p.length)), (27, (V.lst 1 (x11.funcs.map encB))), (28, (iV ((x11.funcs.length : Nat) : Int))), (29, (iV n17))], [(0, (Ob.arr 27 4 [(q3c a1)])), (1, (Ob.arr 9 1 (p.map encS)))], 2⟩ : St)) (fun k22 p => k22 p = some r) (fun k22 h => ?_) ?_
   ·refine spC h rfl (fun hb24 h => ?_) (fun hb24 h => ?_)
    ·refine rn 5 rfl ?_
     refine ixl h rfl rfl (fun x25 hx26 h => ?_)
     refine rn 2 rfl ?_
     refine q2e [(0, (sV x25.Name))] [[(sV x25.Name)]] tEl25 tZ9 rfl rfl rfl rfl q4a (q2f rfl q1h) rfl rfl (by simp) rfl ?_
     refine fo ?_
     refine apO encS h rfl rfl rfl rfl rfl rfl rfl rfl (fun h => ?_)
     refine rn 2 rfl ?_
     exact jX (l18 ++ ([x25.Name] : List (List UInt8))) h (gr [0, 3] rfl (hB rfl rfl rfl (hR rfl rfl .nil)) rfl)
    refine rn 1 rfl ?_
    exact jX l18 h (gr [0, 1] rfl (hB rfl rfl rfl (hR rfl rfl .nil)) rfl)
   intro l23 h
   refine rn 5 rfl ?_
   exact jX ((w64 (n17 + 1)), l23) (hk1 _ h) (gr [0, 1] rfl (hB rfl rfl rfl (hR rfl rfl .nil)) rfl)
  replace h := RG.f h hb19
  unfold M25_L1 at h
  refine rn 1 rfl ?_
  exact jX l18 h (gr [1] rfl (hR rfl rfl .nil) rfl)
 intro l14 h
 refine rn 6 rfl ?_
 refine q7c (q8i 0 [6, 10, 45] rfl (q9a q3j) (List.forall_mem_cons.2 ⟨rfl, (List.forall_mem_cons.2 ⟨rfl, (List.forall_mem_cons.2 ⟨rfl, (fun _ hx => nomatch hx)⟩)⟩)⟩) (List.length_map ..).symm) ?_
 refine fa ?_
 exact rt h rfl
theorem W26 (F : Nat) (a1 : (List (List UInt8))) (a2 : (List (List UInt8))) (r : Bool) (h : M26 F a1 a2 = some r) : Pure Tryz.prog 26 [(V.lst 1 (a1.map encS)), (V.lst 1 (a2.map encS))] (bV r) := by
 refine pin (fun r => (bV r)) r rfl Tryz.func26 rfl rfl rfl rfl rfl (fun w0 m0 hg => ?_)
 unfold M26 at h
 refine rn 8 rfl ?_
 refine ln rfl rfl ?_
 refine rn 1 rfl ?_
 refine ln rfl rfl ?_
 refine rn 2 rfl ?_
 refine spC h rfl (fun hb3 h => ?_) (fun hb3 h => ?_)
 ·refine rn 4 rfl ?_
  exact rt h rfl
 refine rn 5 rfl ?_
 refine ln rfl rfl ?_
 refine rn 2 rfl ?_
 refine jK h (fun _ : Unit => (⟨[], [], 0⟩ : St)) (fun k4 (_ : Unit) => k4 = some r) (fun k4 h => ?_) ?_
 ·refine rn 1 rfl ?_
  refine wl (A := a1) 0 rfl (fun hA13 => ?_)
  refine lC (fun (p : Int) => (⟨[(0, (V.lst 1 (a1.map encS))), (1, (V.lst 1 (a2.map encS))), (12, (iV ((a1.length : Nat) : Int))), (13, (iV p))], [], 0⟩ : St)) (fun n p => RG a1 (fun tl nn => M26_L1 F a2 k4 tl nn = some r) n p) (fun p h => RG.zero h) (a1.length + 1) 0 (RG.start h) (g0 rfl rfl) (fun n n6 h => ?_)
  refine rn 5 rfl ?_
  refine spL rfl (fun hb7 => ?_) (fun hb7 => ?_)
  ·obtain ⟨x8, tl, hx9, h, hk1⟩ := RG.t hA13 h hb7
   unfold M26_L1 at h
   obtain ⟨x10, hx11, h⟩ := bind_some h
   refine rn 9 rfl ?_
   refine dr mixed (vs 2 rfl (iD hx9 rfl rfl rfl (vs 3 rfl (iD hx11 rfl rfl rfl (vs 2 rfl .nil))))) (by kernel_rfl) ?_
   refine spC h rfl (fun hb12 h => ?_) (fun hb12 h => ?_)
   ·refine rn 4 rfl ?_
    exact rt h rfl
   refine rn 6 rfl ?_
   exact jX (w64 (n6 + 1)) (hk1 _ h) (g0 rfl rfl)
  replace h := RG.f h hb7
  unfold M26_L1 at h
  refine rn 1 rfl ?_
  exact jX () h (g0 rfl rfl)
 intro _ h
 refine rn 4 rfl ?_
 exact rt h rfl
theorem W6 (F : Nat) (a1 : q1c) (a2 : (List (List UInt8))) (a3 : (List (List UInt8))) (r : Bool) (h : M6 F a1 a2 a3 = some r) : Pure Tryz.prog 6 [(V.agg (q3c a1)), (V.lst 1 (a2.map encS)), (V.lst 1 (a3.map encS))] (bV r) := by
 refine pin (fun r => (bV r)) r rfl Tryz.func6 rfl rfl rfl rfl rfl (fun w0 m0 hg => ?_)
 unfold M6 at h
 refine rn 13 rfl ?_
 refine ln rfl rfl ?_
 refine rn 2 rfl ?_
 refine jK h (fun (p : (List (List q5a))) => (⟨[(1, (V.lst 1 (a2.map encS))), (3, (V.ptr 0 4 0 0)), (7, (V.own 1 p.length))], [(0, (Ob.arr 27 4 [(q3c a1)])), (1, (Ob.arr 39 1 (p.map encL45)))], 2⟩ : St)) (fun k4 p => k4 p = some r) (fun k4 h => ?_) ?_
 ·refine rn 1 rfl ?_
  refine wl (A := a3) 2 rfl (fun hA28 => ?_)
  refine lC (fun (p : Int × (List (List q5a))) => (⟨[(1, (V.lst 1 (a2.map encS))), (2, (V.lst 1 (a3.map encS))), (3, (V.ptr 0 4 0 0)), (7, (V.own 1 (p.2).length)), (18, (V.lst 1 (a3.map encS))), (19, (iV ((a3.length : Nat) : Int))), (20, (iV (p.1)))], [(0, (Ob.arr 27 4 [(q3c a1)])), (1, (Ob.arr 39 1 ((p.2).map encL45)))], 2⟩ : St)) (fun n p => RG a3 (fun tl nn => M6_L1 F a1 a2 a3 k4 tl nn p.2 = some r) n p.1) (fun p h => RG.zero h) (a3.length + 1) (0, ([] : List (List q5a))) (RG.start h) (Ghost.trans (q1j 7 39 1 rfl) (q9f 2 (fun i => ([0, 1] : List Nat).getD i 0) _ _ (by decide) (q0k.get (.cons (Sub.imm (Imm.lst _ _)) (.cons (Sub.imm (Imm.lst _ _)) (.cons (Sub.ptr rfl rfl) (.cons (Sub.ownE rfl rfl (by simp)) (.cons (Sub.imm (Imm.lst _ _)) (.cons (Sub.imm (Imm.con _)) (.cons (Sub.imm (Imm.con _)) .nil)))))))) (HpSub.get (.cons rfl (ObSub.box (.cons (Sub.imm (Imm.lst _ _)) (.cons (Sub.imm (Imm.lst _ _)) (.cons (Sub.imm (Imm.lst _ _)) (.cons (Sub.imm (Imm.lst _ _)) .nil))))) (.cons rfl (ObSub.rows (q9a imms_encL45)) .nil))) rfl)) (fun n p h => ?_)
  obtain ⟨n8, l9⟩ := p
  refine rn 5 rfl ?_
  refine spL rfl (fun hb10 => ?_) (fun hb10 => ?_)
  ·obtain ⟨x11, tl, hx12, h, hk1⟩ := RG.t hA28 h hb10
   unfold M6_L1 at h
   refine rn 6 rfl ?_
   refine ixh hx12 rfl rfl ?_
   refine rn 9 rfl ?_
   refine cl h rfl rfl rfl (W19 _ _ _ _) rfl (fun y13 hx14 h => ?_)
   refine rn 12 rfl ?_
   refine spC h rfl (fun hb15 h => ?_) (fun hb15 h => ?_)
   ·refine rn 5 rfl ?_
    refine cl h rfl rfl rfl (W20 _ _ _ _) rfl (fun y16 hx17 h => ?_)
    refine rn 12 rfl ?_
    refine spO 44 h rfl (fun hb18 h => ?_) (fun hb18 h => ?_)
    ·refine cl h rfl rfl rfl (W14 _) rfl (fun y19 hx20 h => ?_)
     refine rn 3 rfl ?_
     exact rt h rfl
    refine rn 4 rfl ?_
    exact rt h rfl
   refine rn 5 rfl ?_
   refine ck h (fun hc21 h => ?_)
   refine q6h (0) (n8.toNat) ((a3.take n8.toNat).map encS) tSl25 q4a rfl rfl ⟨_, (by rw [Int.toNat_of_nonneg hc21.1]; exact rfl)⟩ (Nat.zero_le _) (by simpa using hc21.2) slL_lo rfl ?_
   refine fo (rn 1 rfl ?_)
   refine cl h rfl rfl rfl (W23 _ _ _) rfl (fun y22 hx23 h => ?_)
   refine rn 2 rfl ?_
   refine jK h (fun (p : (List (List q5a))) => (⟨[(1, (V.lst 1 (a2.map encS))), (2, (V.lst 1 (a3.map encS))), (3, (V.ptr 0 4 0 0)), (7, (V.own 1 p.length)), (18, (V.lst 1 (a3.map encS))), (19, (iV ((a3.length : Nat) : Int))), (20, (iV n8))], [(0, (Ob.arr 27 4 [(q3c a1)])), (1, (Ob.arr 39 1 (p.map encL45)))], 2⟩ : St)) (fun k24 p => k24 p = some r) (fun k24 h => ?_) ?_
   ·refine spC h rfl (fun hb26 h => ?_) (fun hb26 h => ?_)
    ·refine rn 3 rfl ?_
     refine q2e [(0, (V.lst 3 ((y13.1).map q4d)))] [[(V.lst 3 ((y13.1).map q4d))]] tEl48 tZ39 rfl rfl rfl rfl q4a (q2f rfl q1h) rfl rfl (by simp) rfl ?_
     refine fo ?_
     refine apW encL45 h rfl rfl rfl rfl rfl rfl rfl rfl rfl rfl (fun h => ?_)
     refine rn 2 rfl ?_
     exact jX (l9 ++ ([(y13.1)] : List (List q5a))) h (gr [0, 3] rfl (hB rfl rfl rfl (hR rfl rfl .nil)) rfl)
    refine rn 1 rfl ?_
    exact jX l9 h (gr [0, 1] rfl (hB rfl rfl rfl (hR rfl rfl .nil)) rfl)
   intro l25 h
   refine rn 5 rfl ?_
   exact jX ((w64 (n8 + 1)), l25) (hk1 _ h) (gr [0, 1] rfl (hB rfl rfl rfl (hR rfl rfl .nil)) rfl)
  replace h := RG.f h hb10
  unfold M6_L1 at h
  refine rn 1 rfl ?_
  exact jX l9 h (gr [0, 1] rfl (hB rfl rfl rfl (hR rfl rfl .nil)) rfl)
 intro l5 h
 obtain ⟨y29, hx30, h⟩ := bind_some h
 refine rn 5 rfl ?_
 refine q3f (q8i 1 [61, 7] rfl (q9a imms_encL45) (List.forall_mem_cons.2 ⟨rfl, (List.forall_mem_cons.2 ⟨rfl, (fun _ hx => nomatch hx)⟩)⟩) (List.length_map ..).symm) ?_
 refine aops_call (V.tup [(V.lst 1 ((y29.1).map encS)), (iV (y29.2))]) [(V.agg (q3c a1)), (V.lst 1 (a2.map encS)), (V.lst 1 (l5.map encL45))] fOk24 q4a (q7f rfl (q7f rfl (q7f rfl q9l))) (.cons (Imm.agg (imms_encTGraph _)) (.cons (Imm.lst _ _) (.cons (Imm.lst _ _) .nil))) (W24 F a1 a2 l5 y29 hx30) rfl ?_
 refine fo (rn 10 rfl ?_)
 refine cl h rfl rfl rfl (W25 _ _ _ _) rfl (fun y31 hx32 h => ?_)
 refine rn 12 rfl ?_
 refine spO 74 h rfl (fun hb33 h => ?_) (fun hb33 h => ?_)
 ·refine rn 2 rfl ?_
  refine cl h rfl rfl rfl (W26 _ _ _) rfl (fun y34 hx35 h => ?_)
  refine rn 2 rfl ?_
  refine spO 79 h rfl (fun hb36 h => ?_) (fun hb36 h => ?_)
  ·refine cl h rfl rfl rfl (W14 _) rfl (fun y37 hx38 h => ?_)
   refine rn 3 rfl ?_
   exact rt h rfl
  refine rn 4 rfl ?_
  exact rt h rfl
 refine rn 9 rfl ?_
 exact rt h rfl
end Go.Proofs.YtpbkggamiipdmaaGreat
