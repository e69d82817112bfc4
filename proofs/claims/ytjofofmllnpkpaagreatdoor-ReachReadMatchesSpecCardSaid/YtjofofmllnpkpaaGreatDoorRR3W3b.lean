/- Part of the proof: R3W3b. -/
import Derived.Test.YtjofofmllnpkpaaGreatDoorRR3M
import Derived.Test.YtjofofmllnpkpaaGreatDoorRR3Sh
import Derived.Test.YtjofofmllnpkpaaGreatDoorRR3W3a
import Derived.KernelRfl
namespace Go.Proofs.YtjofofmllnpkpaaGreatDoor
open Go Go.Pv
set_option linter.unusedVariables false
set_option maxRecDepth 100000
variable{mx:Int}
theorem W17(F:Nat)(a1:(List (List UInt8)))(a2:(List UInt8))(a3:Bool)(a4:List TIface)(a5:List TType)(a6:List TFunc)(a7:List (List UInt8))(r:(Bool×(List UInt8)×(List TIface)×(List TType)×(List TFunc)×(List (List UInt8))))(h:M17 F a1 a2 a3 a4 a5 a6 a7=some r):MutG (gl mx) Tryz.prog 17 [(V.ptr 0 6 0 0),(V.lst 1 (a1.map encS))] 5 [(0,(Ob.arr 48 6 [[(V.own 1 a4.length),(V.own 2 a5.length),(V.own 3 a6.length),(V.own 4 a7.length),(sV a2),(bV a3)]])),(1,(Ob.arr 56 2 (a4.map encTIface))),(2,(Ob.arr 61 2 (a5.map dencTType))),(3,(Ob.arr 71 4 (a6.map dencTFunc))),(4,(Ob.arr 9 1 (a7.map encS)))] (resV [(bV (r.1))]) 9 [(0,(Ob.arr 48 6 [[(V.own 5 (r.2.2.1).length),(V.own 6 (r.2.2.2.1).length),(V.own 7 (r.2.2.2.2.1).length),(V.own 8 (r.2.2.2.2.2).length),(sV (r.2.1)),(bV a3)]])),(1,Ob.dead),(2,Ob.dead),(3,Ob.dead),(4,Ob.dead),(5,(Ob.arr 56 2 ((r.2.2.1).map encTIface))),(6,(Ob.arr 61 2 ((r.2.2.2.1).map dencTType))),(7,(Ob.arr 71 4 ((r.2.2.2.2.1).map dencTFunc))),(8,(Ob.arr 9 1 ((r.2.2.2.2.2).map encS)))]:=by
 refine mut_enter Tryz.func17 rfl rfl (l:=[.tmp 4]) rfl rfl [(0,(V.ptr 0 6 0 0)),(1,(V.lst 1 (a1.map encS)))] rfl (fun w0 m0 β0 hg=>en ?_)
 unfold M17 at h
 refine rn 8 rfl ?_
 refine ixl h rfl rfl (fun x64 hx65 h=>?_)
 refine rn 8 rfl ?_
 refine jK h (fun(p:(List UInt8)×(List TIface)×(List TType)×(List TFunc)×(List (List UInt8)))=>(⟨[],[(0,(Ob.arr 48 6 [[(V.own 5 (p.2.1).length),(V.own 6 (p.2.2.1).length),(V.own 7 (p.2.2.2.1).length),(V.own 8 (p.2.2.2.2).length),(sV (p.1)),(bV a3)]])),(1,Ob.dead),(2,Ob.dead),(3,Ob.dead),(4,Ob.dead),(5,(Ob.arr 56 2 ((p.2.1).map encTIface))),(6,(Ob.arr 61 2 ((p.2.2.1).map dencTType))),(7,(Ob.arr 71 4 ((p.2.2.2.1).map dencTFunc))),(8,(Ob.arr 9 1 ((p.2.2.2.2).map encS)))],9⟩:St)) (fun k66 p=>k66 p.1 p.2.1 p.2.2.1 p.2.2.2.1 p.2.2.2.2=some r) (fun k66 h=>?_) ?_
 ·refine spC h rfl (fun hb72 h=>?_) (fun hb72 h=>?_)
  ·refine rn 4 rfl ?_
   refine ln rfl rfl ?_
   refine rn 2 rfl ?_
   refine spC h rfl (fun hb73 h=>?_) (fun hb73 h=>?_)
   ·refine rn 4 rfl ?_
    replace h:=Option.some.inj h
    subst h
    exact wR ⟨.inl rfl,[(4,(bV false))],(Ghost.trans (ghost_mvC 1 0 5 56 2 (Ob.arr 48 6 [[(V.own 5 a4.length),(V.own 2 a5.length),(V.own 3 a6.length),(V.own 4 a7.length),(sV a2),(bV a3)]]) rfl rfl rfl (ObSub.box (.cons Sub.mv (.cons Sub.keepMv (.cons Sub.keepMv (.cons Sub.keepMv (.cons Sub.keepMv (.cons Sub.keepMv .nil))))))) rfl rfl) (Ghost.trans (ghost_mvC 2 0 6 61 2 (Ob.arr 48 6 [[(V.own 5 a4.length),(V.own 6 a5.length),(V.own 3 a6.length),(V.own 4 a7.length),(sV a2),(bV a3)]]) rfl rfl rfl (ObSub.box (.cons Sub.keepMv (.cons Sub.mv (.cons Sub.keepMv (.cons Sub.keepMv (.cons Sub.keepMv (.cons Sub.keepMv .nil))))))) rfl rfl) (Ghost.trans (ghost_mvC 3 0 7 71 4 (Ob.arr 48 6 [[(V.own 5 a4.length),(V.own 6 a5.length),(V.own 7 a6.length),(V.own 4 a7.length),(sV a2),(bV a3)]]) rfl rfl rfl (ObSub.box (.cons Sub.keepMv (.cons Sub.keepMv (.cons Sub.mv (.cons Sub.keepMv (.cons Sub.keepMv (.cons Sub.keepMv .nil))))))) rfl rfl) (Ghost.trans (ghost_mvC 4 0 8 9 1 (Ob.arr 48 6 [[(V.own 5 a4.length),(V.own 6 a5.length),(V.own 7 a6.length),(V.own 8 a7.length),(sV a2),(bV a3)]]) rfl rfl rfl (ObSub.box (.cons Sub.keepMv (.cons Sub.keepMv (.cons Sub.keepMv (.cons Sub.mv (.cons Sub.keepMv (.cons Sub.keepMv .nil))))))) rfl rfl) (gr [0,1,2,3,4,5,6,7,8] rfl (hB rfl rfl rfl (hD rfl (hD rfl (hD rfl (hD rfl (hR rfl rfl (hR rfl rfl (hR rfl rfl (hR rfl rfl .nil))))))))) rfl))))),(.cons (.tmp rfl) .nil)⟩
   obtain⟨x74,hx75,h⟩:=bind_some h
   refine rn 2 rfl ?_
   refine ck h (fun hc76 h=>?_)
   refine ck h (fun hc77 h=>?_)
   refine ck h (fun hc78 h=>?_)
   refine awp_ghost ghost_res ?_
   refine awp_ghost ghost_res ?_
   refine awp_ghost ghost_res ?_
   refine fa ?_
   refine dr mixed (vs 7 rfl (iD hx75 rfl rfl rfl (vs 1 rfl (xD (OD.mk [] [(5,Ob.res)] [(23,(V.own 5 0))] [(5,(Ob.arr 9 1 (([]:List (List UInt8)).map encS)))]) ⟨trivial,⟨rfl,trivial⟩⟩ (by exact fun S hn h hh=>aops_emptySlice_at 5 rfl hn hh.1 tEl25 wants_none rfl (aops_nil ⟨rfl,rfl⟩)) rfl (vs 1 rfl (xD (OD.mk [(24,(V.lst 1 (a1.map encS)))] [] [(25,(V.lst 1 ((a1.drop 2).map encS)))] []) ⟨⟨rfl,trivial⟩,trivial⟩ (by exact fun S hn h hh=>aops_slice_lst (2) (a1.length) ((a1.drop 2).map encS) tSl25 wants_none h.1 ⟨_,rfl⟩ (List.length_map ..).symm hc76 (Nat.le_of_eq (List.length_map ..).symm) slL_hi rfl (aops_nil ⟨rfl,rfl⟩)) rfl (xD (OD.mk [(23,(V.own 5 0)),(25,(V.lst 1 ((a1.drop 2).map encS)))] [(5,(Ob.arr 9 1 (([]:List (List UInt8)).map encS))),(6,Ob.res)] [(26,(V.own 6 (([]:List (List UInt8))++(a1.drop 2)).length))] [(6,(Ob.arr 9 1 ((([]:List (List UInt8))++(a1.drop 2)).map encS))),(5,Ob.dead)]) ⟨⟨rfl,rfl,trivial⟩,⟨rfl,rfl,trivial⟩⟩ (by exact fun S hn h hh=>aops_append_at 6 rfl hn hh.2.1 ((a1.drop 2).map encS) ((([]:List (List UInt8))++(a1.drop 2)).map encS) tEl25 tIsSl25 rfl rfl wants_none h.1 hh.1 (by simp) h.2.1 (.lst (rows_one one_encS)) (map_snoc encS ([]:List (List UInt8)) (a1.drop 2)) (List.length_map ..) hc77 rfl (aops_nil ⟨rfl,rfl⟩)) rfl (xD (OD.mk [(22,(sV x74)),(26,(V.own 6 (([]:List (List UInt8))++(a1.drop 2)).length))] [(6,(Ob.arr 9 1 ((([]:List (List UInt8))++(a1.drop 2)).map encS)))] [(27,(V.agg [(sV x74),(V.lst 1 ((([]:List (List UInt8))++(a1.drop 2)).map encS))])),(26,(V.lst 1 ((([]:List (List UInt8))++(a1.drop 2)).map encS)))] [(6,Ob.dead)]) ⟨⟨rfl,rfl,trivial⟩,⟨rfl,trivial⟩⟩ (by exact fun S hn h hh=>aops_ghost (ghost_frzE 6 26 hh.1 (rows_imm imms_encS) h.2.1 (List.length_map ..).symm) (aops_build [(0,(sV x74)),(1,(V.lst 1 ((([]:List (List UInt8))++(a1.drop 2)).map encS)))] [(sV x74),(V.lst 1 ((([]:List (List UInt8))++(a1.drop 2)).map encS))] tZ56 tPl56 rfl wants_none (evp_cons h.1 (evp_cons rfl evp_nil)) rfl rfl (aops_nil ⟨rfl,rfl⟩))) rfl (xD (OD.mk [(27,(V.agg [(sV x74),(V.lst 1 ((([]:List (List UInt8))++(a1.drop 2)).map encS))]))] [] [(28,(V.lst 2 (([(TIface.mk x74 (([]:List (List UInt8))++(a1.drop 2)))]:List TIface).map encTIface)))] []) ⟨⟨rfl,trivial⟩,trivial⟩ (by exact fun S hn h hh=>aops_buildSlice_imm [(0,(V.agg [(sV x74),(V.lst 1 ((([]:List (List UInt8))++(a1.drop 2)).map encS))]))] [[(sV x74),(V.lst 1 ((([]:List (List UInt8))++(a1.drop 2)).map encS))]] tEl22 tZ56 wants_none rfl rfl rfl rfl (evp_cons h.1 evp_nil) rfl rfl (by simp) (imms_rows (.cons (.cons (Imm.con _) (.cons (Imm.lst _ _) .nil)) .nil)) rfl (aops_nil ⟨rfl,rfl⟩)) rfl (xD (OD.mk [(19,(V.own 1 a4.length)),(28,(V.lst 2 (([(TIface.mk x74 (([]:List (List UInt8))++(a1.drop 2)))]:List TIface).map encTIface)))] [(1,(Ob.arr 56 2 (a4.map encTIface))),(7,Ob.res)] [(29,(V.own 7 (a4++([(TIface.mk x74 (([]:List (List UInt8))++(a1.drop 2)))]:List TIface)).length))] [(7,(Ob.arr 56 2 ((a4++([(TIface.mk x74 (([]:List (List UInt8))++(a1.drop 2)))]:List TIface)).map encTIface))),(1,Ob.dead)]) ⟨⟨rfl,rfl,trivial⟩,⟨rfl,rfl,trivial⟩⟩ (by exact fun S hn h hh=>aops_append_at 7 rfl hn hh.2.1 (([(TIface.mk x74 (([]:List (List UInt8))++(a1.drop 2)))]:List TIface).map encTIface) ((a4++([(TIface.mk x74 (([]:List (List UInt8))++(a1.drop 2)))]:List TIface)).map encTIface) tEl22 tIsSl22 rfl rfl wants_none h.1 hh.1 (by simp) h.2.1 (.lst (rows_one one_encTIface)) (map_snoc encTIface a4 ([(TIface.mk x74 (([]:List (List UInt8))++(a1.drop 2)))]:List TIface)) (List.length_map ..) hc78 rfl (aops_nil ⟨rfl,rfl⟩)) rfl (vs 4 rfl .nil))))))))))) (by kernel_rfl) ?_
   refine rn 6 rfl ?_
   exact jX (([]:List UInt8),(a4++([(TIface.mk x74 (([]:List (List UInt8))++(a1.drop 2)))]:List TIface)),a5,a6,a7) h (Ghost.trans (ghost_mvC 2 0 8 61 2 (Ob.arr 48 6 [[(V.own 7 (a4++([(TIface.mk x74 (([]:List (List UInt8))++(a1.drop 2)))]:List TIface)).length),(V.own 8 a5.length),(V.own 3 a6.length),(V.own 4 a7.length),(sV ([]:List UInt8)),(bV a3)]]) rfl rfl rfl (ObSub.box (.cons Sub.keepMv (.cons Sub.mv (.cons Sub.keepMv (.cons Sub.keepMv (.cons Sub.keepMv (.cons Sub.keepMv .nil))))))) rfl rfl) (Ghost.trans (ghost_mvC 3 0 9 71 4 (Ob.arr 48 6 [[(V.own 7 (a4++([(TIface.mk x74 (([]:List (List UInt8))++(a1.drop 2)))]:List TIface)).length),(V.own 8 a5.length),(V.own 9 a6.length),(V.own 4 a7.length),(sV ([]:List UInt8)),(bV a3)]]) rfl rfl rfl (ObSub.box (.cons Sub.keepMv (.cons Sub.keepMv (.cons Sub.mv (.cons Sub.keepMv (.cons Sub.keepMv (.cons Sub.keepMv .nil))))))) rfl rfl) (Ghost.trans (ghost_mvC 4 0 10 9 1 (Ob.arr 48 6 [[(V.own 7 (a4++([(TIface.mk x74 (([]:List (List UInt8))++(a1.drop 2)))]:List TIface)).length),(V.own 8 a5.length),(V.own 9 a6.length),(V.own 10 a7.length),(sV ([]:List UInt8)),(bV a3)]]) rfl rfl rfl (ObSub.box (.cons Sub.keepMv (.cons Sub.keepMv (.cons Sub.keepMv (.cons Sub.mv (.cons Sub.keepMv (.cons Sub.keepMv .nil))))))) rfl rfl) (gr [0,1,2,3,4,7,8,9,10] rfl (hB rfl rfl rfl (hD rfl (hD rfl (hD rfl (hD rfl (hR rfl rfl (hR rfl rfl (hR rfl rfl (hR rfl rfl .nil))))))))) rfl))))
  refine rn 5 rfl ?_
  refine spC h rfl (fun hb79 h=>?_) (fun hb79 h=>?_)
  ·refine rn 4 rfl ?_
   refine ln rfl rfl ?_
   refine rn 2 rfl ?_
   refine spC h rfl (fun hb80 h=>?_) (fun hb80 h=>?_)
   ·refine rn 4 rfl ?_
    replace h:=Option.some.inj h
    subst h
    exact wR ⟨.inl rfl,[(4,(bV false))],(Ghost.trans (ghost_mvC 1 0 5 56 2 (Ob.arr 48 6 [[(V.own 5 a4.length),(V.own 2 a5.length),(V.own 3 a6.length),(V.own 4 a7.length),(sV a2),(bV a3)]]) rfl rfl rfl (ObSub.box (.cons Sub.mv (.cons Sub.keepMv (.cons Sub.keepMv (.cons Sub.keepMv (.cons Sub.keepMv (.cons Sub.keepMv .nil))))))) rfl rfl) (Ghost.trans (ghost_mvC 2 0 6 61 2 (Ob.arr 48 6 [[(V.own 5 a4.length),(V.own 6 a5.length),(V.own 3 a6.length),(V.own 4 a7.length),(sV a2),(bV a3)]]) rfl rfl rfl (ObSub.box (.cons Sub.keepMv (.cons Sub.mv (.cons Sub.keepMv (.cons Sub.keepMv (.cons Sub.keepMv (.cons Sub.keepMv .nil))))))) rfl rfl) (Ghost.trans (ghost_mvC 3 0 7 71 4 (Ob.arr 48 6 [[(V.own 5 a4.length),(V.own 6 a5.length),(V.own 7 a6.length),(V.own 4 a7.length),(sV a2),(bV a3)]]) rfl rfl rfl (ObSub.box (.cons Sub.keepMv (.cons Sub.keepMv (.cons Sub.mv (.cons Sub.keepMv (.cons Sub.keepMv (.cons Sub.keepMv .nil))))))) rfl rfl) (Ghost.trans (ghost_mvC 4 0 8 9 1 (Ob.arr 48 6 [[(V.own 5 a4.length),(V.own 6 a5.length),(V.own 7 a6.length),(V.own 8 a7.length),(sV a2),(bV a3)]]) rfl rfl rfl (ObSub.box (.cons Sub.keepMv (.cons Sub.keepMv (.cons Sub.keepMv (.cons Sub.mv (.cons Sub.keepMv (.cons Sub.keepMv .nil))))))) rfl rfl) (gr [0,1,2,3,4,5,6,7,8] rfl (hB rfl rfl rfl (hD rfl (hD rfl (hD rfl (hD rfl (hR rfl rfl (hR rfl rfl (hR rfl rfl (hR rfl rfl .nil))))))))) rfl))))),(.cons (.tmp rfl) .nil)⟩
   obtain⟨x81,hx82,h⟩:=bind_some h
   refine rn 2 rfl ?_
   refine ck h (fun hc83 h=>?_)
   refine awp_ghost ghost_res ?_
   refine awp_ghost ghost_res ?_
   refine fa ?_
   refine dr mixed (vs 7 rfl (iD hx82 rfl rfl rfl (vs 2 rfl (xD (OD.mk [(50,(V.agg [(sV x81),nV]))] [(5,Ob.res)] [(51,(V.own 5 1))] [(5,(Ob.arr 61 2 [[(sV x81),nV]]))]) ⟨⟨rfl,trivial⟩,⟨rfl,trivial⟩⟩ (by exact fun S hn h hh=>aops_buildSlice_at 5 rfl hn hh.1 [(0,(V.agg [(sV x81),nV]))] [[(sV x81),nV]] tEl23 tZ61 wants_none rfl rfl rfl rfl (evp_cons h.1 evp_nil) rfl rfl (by simp) rfl (aops_nil ⟨rfl,rfl⟩)) rfl (xD (OD.mk [(46,(V.own 2 a5.length)),(51,(V.own 5 1))] [(2,(Ob.arr 61 2 (a5.map dencTType))),(5,(Ob.arr 61 2 [[(sV x81),nV]])),(6,Ob.res)] [(52,(V.own 6 (a5++[(TType.mk x81 ([]:List TMethod))]).length))] [(6,(Ob.arr 61 2 ((a5++[(TType.mk x81 ([]:List TMethod))]).map dencTType))),(2,Ob.dead)]) ⟨⟨rfl,rfl,trivial⟩,⟨rfl,rfl,rfl,trivial⟩⟩ (by exact fun S hn h hh=>aops_appendS_at 6 rfl hn hh.2.2.1 dencTType (TType.mk x81 ([]:List TMethod)) tEl23 tIsSl23 rfl rfl wants_none h.1 hh.1 (by simp) h.2.1 hh.2.1 rfl (.cons (csub_keep _) (.cons (csub_nil 64 2) .nil)) rfl hc83 rfl (aops_nil ⟨rfl,rfl⟩)) rfl (vs 4 rfl .nil)))))) (by kernel_rfl) ?_
   refine rn 6 rfl ?_
   exact jX (([116,121,112,101]:List UInt8),a4,(a5++[(TType.mk x81 ([]:List TMethod))]),a6,a7) h (Ghost.trans (ghost_mvC 1 0 7 56 2 (Ob.arr 48 6 [[(V.own 7 a4.length),(V.own 6 (a5++[(TType.mk x81 ([]:List TMethod))]).length),(V.own 3 a6.length),(V.own 4 a7.length),(sV ([116,121,112,101]:List UInt8)),(bV a3)]]) rfl rfl rfl (ObSub.box (.cons Sub.mv (.cons Sub.keepMv (.cons Sub.keepMv (.cons Sub.keepMv (.cons Sub.keepMv (.cons Sub.keepMv .nil))))))) rfl rfl) (Ghost.trans (ghost_mvC 3 0 8 71 4 (Ob.arr 48 6 [[(V.own 7 a4.length),(V.own 6 (a5++[(TType.mk x81 ([]:List TMethod))]).length),(V.own 8 a6.length),(V.own 4 a7.length),(sV ([116,121,112,101]:List UInt8)),(bV a3)]]) rfl rfl rfl (ObSub.box (.cons Sub.keepMv (.cons Sub.keepMv (.cons Sub.mv (.cons Sub.keepMv (.cons Sub.keepMv (.cons Sub.keepMv .nil))))))) rfl rfl) (Ghost.trans (ghost_mvC 4 0 9 9 1 (Ob.arr 48 6 [[(V.own 7 a4.length),(V.own 6 (a5++[(TType.mk x81 ([]:List TMethod))]).length),(V.own 8 a6.length),(V.own 9 a7.length),(sV ([116,121,112,101]:List UInt8)),(bV a3)]]) rfl rfl rfl (ObSub.box (.cons Sub.keepMv (.cons Sub.keepMv (.cons Sub.keepMv (.cons Sub.mv (.cons Sub.keepMv (.cons Sub.keepMv .nil))))))) rfl rfl) (gr [0,1,2,3,4,7,6,8,9] rfl (hB rfl rfl rfl (hD rfl (hD rfl (hD rfl (hD rfl (hR rfl rfl (hR rfl rfl (hR rfl rfl (hR rfl rfl .nil))))))))) rfl))))
  refine rn 5 rfl ?_
  refine spC h rfl (fun hb84 h=>?_) (fun hb84 h=>?_)
  ·refine rn 4 rfl ?_
   refine ln rfl rfl ?_
   refine rn 2 rfl ?_
   refine spC h rfl (fun hb85 h=>?_) (fun hb85 h=>?_)
   ·refine rn 4 rfl ?_
    replace h:=Option.some.inj h
    subst h
    exact wR ⟨.inl rfl,[(4,(bV false))],(Ghost.trans (ghost_mvC 1 0 5 56 2 (Ob.arr 48 6 [[(V.own 5 a4.length),(V.own 2 a5.length),(V.own 3 a6.length),(V.own 4 a7.length),(sV a2),(bV a3)]]) rfl rfl rfl (ObSub.box (.cons Sub.mv (.cons Sub.keepMv (.cons Sub.keepMv (.cons Sub.keepMv (.cons Sub.keepMv (.cons Sub.keepMv .nil))))))) rfl rfl) (Ghost.trans (ghost_mvC 2 0 6 61 2 (Ob.arr 48 6 [[(V.own 5 a4.length),(V.own 6 a5.length),(V.own 3 a6.length),(V.own 4 a7.length),(sV a2),(bV a3)]]) rfl rfl rfl (ObSub.box (.cons Sub.keepMv (.cons Sub.mv (.cons Sub.keepMv (.cons Sub.keepMv (.cons Sub.keepMv (.cons Sub.keepMv .nil))))))) rfl rfl) (Ghost.trans (ghost_mvC 3 0 7 71 4 (Ob.arr 48 6 [[(V.own 5 a4.length),(V.own 6 a5.length),(V.own 7 a6.length),(V.own 4 a7.length),(sV a2),(bV a3)]]) rfl rfl rfl (ObSub.box (.cons Sub.keepMv (.cons Sub.keepMv (.cons Sub.mv (.cons Sub.keepMv (.cons Sub.keepMv (.cons Sub.keepMv .nil))))))) rfl rfl) (Ghost.trans (ghost_mvC 4 0 8 9 1 (Ob.arr 48 6 [[(V.own 5 a4.length),(V.own 6 a5.length),(V.own 7 a6.length),(V.own 8 a7.length),(sV a2),(bV a3)]]) rfl rfl rfl (ObSub.box (.cons Sub.keepMv (.cons Sub.keepMv (.cons Sub.keepMv (.cons Sub.mv (.cons Sub.keepMv (.cons Sub.keepMv .nil))))))) rfl rfl) (gr [0,1,2,3,4,5,6,7,8] rfl (hB rfl rfl rfl (hD rfl (hD rfl (hD rfl (hD rfl (hR rfl rfl (hR rfl rfl (hR rfl rfl (hR rfl rfl .nil))))))))) rfl))))),(.cons (.tmp rfl) .nil)⟩
   obtain⟨x86,hx87,h⟩:=bind_some h
   obtain⟨x88,hx89,h⟩:=bind_some h
   refine rn 2 rfl ?_
   refine ck h (fun hc90 h=>?_)
   refine awp_ghost ghost_res ?_
   refine awp_ghost ghost_res ?_
   refine fa ?_
   refine dr mixed (vs 7 rfl (iD hx87 rfl rfl rfl (vs 2 rfl (iD hx89 rfl rfl rfl (vs 2 rfl (xD (OD.mk [(76,(V.agg [(sV x86),(sV x88),nV,nV]))] [(5,Ob.res)] [(77,(V.own 5 1))] [(5,(Ob.arr 71 4 [[(sV x86),(sV x88),nV,nV]]))]) ⟨⟨rfl,trivial⟩,⟨rfl,trivial⟩⟩ (by exact fun S hn h hh=>aops_buildSlice_at 5 rfl hn hh.1 [(0,(V.agg [(sV x86),(sV x88),nV,nV]))] [[(sV x86),(sV x88),nV,nV]] tEl24 tZ71 wants_none rfl rfl rfl rfl (evp_cons h.1 evp_nil) rfl rfl (by simp) rfl (aops_nil ⟨rfl,rfl⟩)) rfl (xD (OD.mk [(69,(V.own 3 a6.length)),(77,(V.own 5 1))] [(3,(Ob.arr 71 4 (a6.map dencTFunc))),(5,(Ob.arr 71 4 [[(sV x86),(sV x88),nV,nV]])),(6,Ob.res)] [(78,(V.own 6 (a6++[(TFunc.mk x86 x88 ([]:List TCall) ([]:List (List UInt8)))]).length))] [(6,(Ob.arr 71 4 ((a6++[(TFunc.mk x86 x88 ([]:List TCall) ([]:List (List UInt8)))]).map dencTFunc))),(3,Ob.dead)]) ⟨⟨rfl,rfl,trivial⟩,⟨rfl,rfl,rfl,trivial⟩⟩ (by exact fun S hn h hh=>aops_appendS_at 6 rfl hn hh.2.2.1 dencTFunc (TFunc.mk x86 x88 ([]:List TCall) ([]:List (List UInt8))) tEl24 tIsSl24 rfl rfl wants_none h.1 hh.1 (by simp) h.2.1 hh.2.1 rfl (.cons (csub_keep _) (.cons (csub_keep _) (.cons (csub_nil 74 4) (.cons (csub_nil 9 1) .nil)))) rfl hc90 rfl (aops_nil ⟨rfl,rfl⟩)) rfl (vs 4 rfl .nil)))))))) (by kernel_rfl) ?_
   refine rn 6 rfl ?_
   exact jX (([102,117,110,99]:List UInt8),a4,a5,(a6++[(TFunc.mk x86 x88 ([]:List TCall) ([]:List (List UInt8)))]),a7) h (Ghost.trans (ghost_mvC 1 0 7 56 2 (Ob.arr 48 6 [[(V.own 7 a4.length),(V.own 2 a5.length),(V.own 6 (a6++[(TFunc.mk x86 x88 ([]:List TCall) ([]:List (List UInt8)))]).length),(V.own 4 a7.length),(sV ([102,117,110,99]:List UInt8)),(bV a3)]]) rfl rfl rfl (ObSub.box (.cons Sub.mv (.cons Sub.keepMv (.cons Sub.keepMv (.cons Sub.keepMv (.cons Sub.keepMv (.cons Sub.keepMv .nil))))))) rfl rfl) (Ghost.trans (ghost_mvC 2 0 8 61 2 (Ob.arr 48 6 [[(V.own 7 a4.length),(V.own 8 a5.length),(V.own 6 (a6++[(TFunc.mk x86 x88 ([]:List TCall) ([]:List (List UInt8)))]).length),(V.own 4 a7.length),(sV ([102,117,110,99]:List UInt8)),(bV a3)]]) rfl rfl rfl (ObSub.box (.cons Sub.keepMv (.cons Sub.mv (.cons Sub.keepMv (.cons Sub.keepMv (.cons Sub.keepMv (.cons Sub.keepMv .nil))))))) rfl rfl) (Ghost.trans (ghost_mvC 4 0 9 9 1 (Ob.arr 48 6 [[(V.own 7 a4.length),(V.own 8 a5.length),(V.own 6 (a6++[(TFunc.mk x86 x88 ([]:List TCall) ([]:List (List UInt8)))]).length),(V.own 9 a7.length),(sV ([102,117,110,99]:List UInt8)),(bV a3)]]) rfl rfl rfl (ObSub.box (.cons Sub.keepMv (.cons Sub.keepMv (.cons Sub.keepMv (.cons Sub.mv (.cons Sub.keepMv (.cons Sub.keepMv .nil))))))) rfl rfl) (gr [0,1,2,3,4,7,8,6,9] rfl (hB rfl rfl rfl (hD rfl (hD rfl (hD rfl (hD rfl (hR rfl rfl (hR rfl rfl (hR rfl rfl (hR rfl rfl .nil))))))))) rfl))))
  refine rn 5 rfl ?_
  refine spC h rfl (fun hb91 h=>?_) (fun hb91 h=>?_)
  ·refine rn 4 rfl ?_
   refine ln rfl rfl ?_
   refine rn 2 rfl ?_
   refine spC h rfl (fun hb92 h=>?_) (fun hb92 h=>?_)
   ·refine rn 4 rfl ?_
    replace h:=Option.some.inj h
    subst h
    exact wR ⟨.inl rfl,[(4,(bV false))],(Ghost.trans (ghost_mvC 1 0 5 56 2 (Ob.arr 48 6 [[(V.own 5 a4.length),(V.own 2 a5.length),(V.own 3 a6.length),(V.own 4 a7.length),(sV a2),(bV a3)]]) rfl rfl rfl (ObSub.box (.cons Sub.mv (.cons Sub.keepMv (.cons Sub.keepMv (.cons Sub.keepMv (.cons Sub.keepMv (.cons Sub.keepMv .nil))))))) rfl rfl) (Ghost.trans (ghost_mvC 2 0 6 61 2 (Ob.arr 48 6 [[(V.own 5 a4.length),(V.own 6 a5.length),(V.own 3 a6.length),(V.own 4 a7.length),(sV a2),(bV a3)]]) rfl rfl rfl (ObSub.box (.cons Sub.keepMv (.cons Sub.mv (.cons Sub.keepMv (.cons Sub.keepMv (.cons Sub.keepMv (.cons Sub.keepMv .nil))))))) rfl rfl) (Ghost.trans (ghost_mvC 3 0 7 71 4 (Ob.arr 48 6 [[(V.own 5 a4.length),(V.own 6 a5.length),(V.own 7 a6.length),(V.own 4 a7.length),(sV a2),(bV a3)]]) rfl rfl rfl (ObSub.box (.cons Sub.keepMv (.cons Sub.keepMv (.cons Sub.mv (.cons Sub.keepMv (.cons Sub.keepMv (.cons Sub.keepMv .nil))))))) rfl rfl) (Ghost.trans (ghost_mvC 4 0 8 9 1 (Ob.arr 48 6 [[(V.own 5 a4.length),(V.own 6 a5.length),(V.own 7 a6.length),(V.own 8 a7.length),(sV a2),(bV a3)]]) rfl rfl rfl (ObSub.box (.cons Sub.keepMv (.cons Sub.keepMv (.cons Sub.keepMv (.cons Sub.mv (.cons Sub.keepMv (.cons Sub.keepMv .nil))))))) rfl rfl) (gr [0,1,2,3,4,5,6,7,8] rfl (hB rfl rfl rfl (hD rfl (hD rfl (hD rfl (hD rfl (hR rfl rfl (hR rfl rfl (hR rfl rfl (hR rfl rfl .nil))))))))) rfl))))),(.cons (.tmp rfl) .nil)⟩
   obtain⟨x93,hx94,h⟩:=bind_some h
   refine rn 2 rfl ?_
   refine ck h (fun hc95 h=>?_)
   refine awp_ghost ghost_res ?_
   refine fa ?_
   refine dr mixed (vs 7 rfl (iD hx94 rfl rfl rfl (vs 1 rfl (xD (OD.mk [(98,(sV x93))] [] [(99,(V.lst 1 (([x93]:List (List UInt8)).map encS)))] []) ⟨⟨rfl,trivial⟩,trivial⟩ (by exact fun S hn h hh=>aops_buildSlice_imm [(0,(sV x93))] [[(sV x93)]] tEl25 tZ9 wants_none rfl rfl rfl rfl (evp_cons h.1 evp_nil) rfl rfl (by simp) (imms_rows (.cons (.cons (Imm.con _) .nil) .nil)) rfl (aops_nil ⟨rfl,rfl⟩)) rfl (xD (OD.mk [(95,(V.own 4 a7.length)),(99,(V.lst 1 (([x93]:List (List UInt8)).map encS)))] [(4,(Ob.arr 9 1 (a7.map encS))),(5,Ob.res)] [(100,(V.own 5 (a7++([x93]:List (List UInt8))).length))] [(5,(Ob.arr 9 1 ((a7++([x93]:List (List UInt8))).map encS))),(4,Ob.dead)]) ⟨⟨rfl,rfl,trivial⟩,⟨rfl,rfl,trivial⟩⟩ (by exact fun S hn h hh=>aops_append_at 5 rfl hn hh.2.1 (([x93]:List (List UInt8)).map encS) ((a7++([x93]:List (List UInt8))).map encS) tEl25 tIsSl25 rfl rfl wants_none h.1 hh.1 (by simp) h.2.1 (.lst (rows_one one_encS)) (map_snoc encS a7 ([x93]:List (List UInt8))) (List.length_map ..) hc95 rfl (aops_nil ⟨rfl,rfl⟩)) rfl (vs 4 rfl .nil)))))) (by kernel_rfl) ?_
   refine rn 6 rfl ?_
   exact jX (([]:List UInt8),a4,a5,a6,(a7++([x93]:List (List UInt8)))) h (Ghost.trans (ghost_mvC 1 0 6 56 2 (Ob.arr 48 6 [[(V.own 6 a4.length),(V.own 2 a5.length),(V.own 3 a6.length),(V.own 5 (a7++([x93]:List (List UInt8))).length),(sV ([]:List UInt8)),(bV a3)]]) rfl rfl rfl (ObSub.box (.cons Sub.mv (.cons Sub.keepMv (.cons Sub.keepMv (.cons Sub.keepMv (.cons Sub.keepMv (.cons Sub.keepMv .nil))))))) rfl rfl) (Ghost.trans (ghost_mvC 2 0 7 61 2 (Ob.arr 48 6 [[(V.own 6 a4.length),(V.own 7 a5.length),(V.own 3 a6.length),(V.own 5 (a7++([x93]:List (List UInt8))).length),(sV ([]:List UInt8)),(bV a3)]]) rfl rfl rfl (ObSub.box (.cons Sub.keepMv (.cons Sub.mv (.cons Sub.keepMv (.cons Sub.keepMv (.cons Sub.keepMv (.cons Sub.keepMv .nil))))))) rfl rfl) (Ghost.trans (ghost_mvC 3 0 8 71 4 (Ob.arr 48 6 [[(V.own 6 a4.length),(V.own 7 a5.length),(V.own 8 a6.length),(V.own 5 (a7++([x93]:List (List UInt8))).length),(sV ([]:List UInt8)),(bV a3)]]) rfl rfl rfl (ObSub.box (.cons Sub.keepMv (.cons Sub.keepMv (.cons Sub.mv (.cons Sub.keepMv (.cons Sub.keepMv (.cons Sub.keepMv .nil))))))) rfl rfl) (gr [0,1,2,3,4,6,7,8,5] rfl (hB rfl rfl rfl (hD rfl (hD rfl (hD rfl (hD rfl (hR rfl rfl (hR rfl rfl (hR rfl rfl (hR rfl rfl .nil))))))))) rfl))))
  refine rn 5 rfl ?_
  refine spC h rfl (fun hb96 h=>?_) (fun hb96 h=>?_)
  ·refine rn 4 rfl ?_
   refine ln rfl rfl ?_
   refine rn 2 rfl ?_
   refine spO 112 h rfl (fun hb97 h=>?_) (fun hb97 h=>?_)
   ·refine rn 12 rfl ?_
    replace h:=Option.some.inj h
    subst h
    exact wR ⟨.inl rfl,[(4,(bV false))],(Ghost.trans (ghost_mvC 1 0 5 56 2 (Ob.arr 48 6 [[(V.own 5 a4.length),(V.own 2 a5.length),(V.own 3 a6.length),(V.own 4 a7.length),(sV a2),(bV a3)]]) rfl rfl rfl (ObSub.box (.cons Sub.mv (.cons Sub.keepMv (.cons Sub.keepMv (.cons Sub.keepMv (.cons Sub.keepMv (.cons Sub.keepMv .nil))))))) rfl rfl) (Ghost.trans (ghost_mvC 2 0 6 61 2 (Ob.arr 48 6 [[(V.own 5 a4.length),(V.own 6 a5.length),(V.own 3 a6.length),(V.own 4 a7.length),(sV a2),(bV a3)]]) rfl rfl rfl (ObSub.box (.cons Sub.keepMv (.cons Sub.mv (.cons Sub.keepMv (.cons Sub.keepMv (.cons Sub.keepMv (.cons Sub.keepMv .nil))))))) rfl rfl) (Ghost.trans (ghost_mvC 3 0 7 71 4 (Ob.arr 48 6 [[(V.own 5 a4.length),(V.own 6 a5.length),(V.own 7 a6.length),(V.own 4 a7.length),(sV a2),(bV a3)]]) rfl rfl rfl (ObSub.box (.cons Sub.keepMv (.cons Sub.keepMv (.cons Sub.mv (.cons Sub.keepMv (.cons Sub.keepMv (.cons Sub.keepMv .nil))))))) rfl rfl) (Ghost.trans (ghost_mvC 4 0 8 9 1 (Ob.arr 48 6 [[(V.own 5 a4.length),(V.own 6 a5.length),(V.own 7 a6.length),(V.own 8 a7.length),(sV a2),(bV a3)]]) rfl rfl rfl (ObSub.box (.cons Sub.keepMv (.cons Sub.keepMv (.cons Sub.keepMv (.cons Sub.mv (.cons Sub.keepMv (.cons Sub.keepMv .nil))))))) rfl rfl) (gr [0,1,2,3,4,5,6,7,8] rfl (hB rfl rfl rfl (hD rfl (hD rfl (hD rfl (hD rfl (hR rfl rfl (hR rfl rfl (hR rfl rfl (hR rfl rfl .nil))))))))) rfl))))),(.cons (.tmp rfl) .nil)⟩
   refine rn 7 rfl ?_
   refine spC h rfl (fun hb98 h=>?_) (fun hb98 h=>?_)
   ·refine rn 4 rfl ?_
    replace h:=Option.some.inj h
    subst h
    exact wR ⟨.inl rfl,[(4,(bV false))],(Ghost.trans (ghost_mvC 1 0 5 56 2 (Ob.arr 48 6 [[(V.own 5 a4.length),(V.own 2 a5.length),(V.own 3 a6.length),(V.own 4 a7.length),(sV a2),(bV a3)]]) rfl rfl rfl (ObSub.box (.cons Sub.mv (.cons Sub.keepMv (.cons Sub.keepMv (.cons Sub.keepMv (.cons Sub.keepMv (.cons Sub.keepMv .nil))))))) rfl rfl) (Ghost.trans (ghost_mvC 2 0 6 61 2 (Ob.arr 48 6 [[(V.own 5 a4.length),(V.own 6 a5.length),(V.own 3 a6.length),(V.own 4 a7.length),(sV a2),(bV a3)]]) rfl rfl rfl (ObSub.box (.cons Sub.keepMv (.cons Sub.mv (.cons Sub.keepMv (.cons Sub.keepMv (.cons Sub.keepMv (.cons Sub.keepMv .nil))))))) rfl rfl) (Ghost.trans (ghost_mvC 3 0 7 71 4 (Ob.arr 48 6 [[(V.own 5 a4.length),(V.own 6 a5.length),(V.own 7 a6.length),(V.own 4 a7.length),(sV a2),(bV a3)]]) rfl rfl rfl (ObSub.box (.cons Sub.keepMv (.cons Sub.keepMv (.cons Sub.mv (.cons Sub.keepMv (.cons Sub.keepMv (.cons Sub.keepMv .nil))))))) rfl rfl) (Ghost.trans (ghost_mvC 4 0 8 9 1 (Ob.arr 48 6 [[(V.own 5 a4.length),(V.own 6 a5.length),(V.own 7 a6.length),(V.own 8 a7.length),(sV a2),(bV a3)]]) rfl rfl rfl (ObSub.box (.cons Sub.keepMv (.cons Sub.keepMv (.cons Sub.keepMv (.cons Sub.mv (.cons Sub.keepMv (.cons Sub.keepMv .nil))))))) rfl rfl) (gr [0,1,2,3,4,5,6,7,8] rfl (hB rfl rfl rfl (hD rfl (hD rfl (hD rfl (hD rfl (hR rfl rfl (hR rfl rfl (hR rfl rfl (hR rfl rfl .nil))))))))) rfl))))),(.cons (.tmp rfl) .nil)⟩
   obtain⟨x99,hx100,h⟩:=bind_some h
   refine rn 2 rfl ?_
   refine dr mixed (vs 12 rfl (oD (a:=a5) hx100 rfl rfl rfl rfl (vs 1 rfl .nil))) (by kernel_rfl) ?_
   obtain⟨x101,hx102,h⟩:=bind_some h
   obtain⟨x103,hx104,h⟩:=bind_some h
   refine ck h (fun hc105 h=>?_)
   refine awp_ghost ghost_res ?_
   refine awp_ghost ghost_res ?_
   refine fa ?_
   refine dr mixed (vs 4 rfl (xD (OD.mk [(135,(V.ptr 2 2 (w64 (((a5.length:Nat):Int) - 1)).toNat 1))] [(2,(Ob.arr 61 2 (a5.map dencTType))),(5,Ob.res)] [(136,(V.own 5 x99.Methods.length))] [(2,(Ob.arr 61 2 (setC (a5.map dencTType) ((w64 (((a5.length:Nat):Int) - 1)).toNat) (dencTType x99) 1 (V.own 5 x99.Methods.length)))),(5,(Ob.arr 64 2 (x99.Methods.map encTMethod)))]) ⟨⟨rfl,trivial⟩,⟨rfl,rfl,trivial⟩⟩ (by exact fun S hn h hh=>aops_load_takeS_at 5 rfl hn hh.2.1 dencTType encTMethod rfl tC59 wants_none h.1 hh.1 (idx_some hx100).2 rfl rfl (aops_nil ⟨rfl,rfl⟩)) rfl (vs 1 rfl (iD hx102 rfl rfl rfl (vs 2 rfl (iD hx104 rfl rfl rfl (vs 2 rfl (xD (OD.mk [(143,(V.agg [(sV x101),(sV x103)]))] [] [(144,(V.lst 2 (([(TMethod.mk x101 x103)]:List TMethod).map encTMethod)))] []) ⟨⟨rfl,trivial⟩,trivial⟩ (by exact fun S hn h hh=>aops_buildSlice_imm [(0,(V.agg [(sV x101),(sV x103)]))] [[(sV x101),(sV x103)]] tEl59 tZ64 wants_none rfl rfl rfl rfl (evp_cons h.1 evp_nil) rfl rfl (by simp) (imms_rows (.cons (.cons (Imm.con _) (.cons (Imm.con _) .nil)) .nil)) rfl (aops_nil ⟨rfl,rfl⟩)) rfl (xD (OD.mk [(136,(V.own 5 x99.Methods.length)),(144,(V.lst 2 (([(TMethod.mk x101 x103)]:List TMethod).map encTMethod)))] [(5,(Ob.arr 64 2 (x99.Methods.map encTMethod))),(6,Ob.res)] [(145,(V.own 6 (x99.Methods++([(TMethod.mk x101 x103)]:List TMethod)).length))] [(6,(Ob.arr 64 2 ((x99.Methods++([(TMethod.mk x101 x103)]:List TMethod)).map encTMethod))),(5,Ob.dead)]) ⟨⟨rfl,rfl,trivial⟩,⟨rfl,rfl,trivial⟩⟩ (by exact fun S hn h hh=>aops_append_at 6 rfl hn hh.2.1 (([(TMethod.mk x101 x103)]:List TMethod).map encTMethod) ((x99.Methods++([(TMethod.mk x101 x103)]:List TMethod)).map encTMethod) tEl59 tIsSl59 rfl rfl wants_none h.1 hh.1 (by simp) h.2.1 (.lst (rows_one one_encTMethod)) (map_snoc encTMethod x99.Methods ([(TMethod.mk x101 x103)]:List TMethod)) (List.length_map ..) hc105 rfl (aops_nil ⟨rfl,rfl⟩)) rfl (vs 2 rfl (xD (OD.mk [(147,(V.ptr 2 2 (w64 (((a5.length:Nat):Int) - 1)).toNat 1)),(145,(V.own 6 (x99.Methods++([(TMethod.mk x101 x103)]:List TMethod)).length))] [(2,(Ob.arr 61 2 (setC (a5.map dencTType) ((w64 (((a5.length:Nat):Int) - 1)).toNat) (dencTType x99) 1 (V.own 5 x99.Methods.length)))),(6,(Ob.arr 64 2 ((x99.Methods++([(TMethod.mk x101 x103)]:List TMethod)).map encTMethod)))] [] [(2,(Ob.arr 61 2 ((a5.set ((w64 (((a5.length:Nat):Int) - 1)).toNat) ({ x99 with Methods:=(x99.Methods++([(TMethod.mk x101 x103)]:List TMethod)) }:TType)).map dencTType))),(6,Ob.dead)]) ⟨⟨rfl,rfl,trivial⟩,⟨rfl,rfl,trivial⟩⟩ (by exact fun S hn h hh=>aops_store_untakeS dencTType encTMethod (fun z=>(imms_encTMethod z).keep) (a5.set ((w64 (((a5.length:Nat):Int) - 1)).toNat) ({ x99 with Methods:=(x99.Methods++([(TMethod.mk x101 x103)]:List TMethod)) }:TType)) tS59 wants_none h.1 h.2.1 hh.1 (Nat.le_of_ble_eq_true rfl) (by simpa using idx_lt hx100) hh.2.1 (by simp) rfl (by rw[List.map_set];rfl) (aops_nil ⟨rfl,rfl⟩)) rfl .nil))))))))))) (by kernel_rfl) ?_
   exact jX (a2,a4,(a5.set ((w64 (((a5.length:Nat):Int) - 1)).toNat) ({ x99 with Methods:=(x99.Methods++([(TMethod.mk x101 x103)]:List TMethod)) }:TType)),a6,a7) h (Ghost.trans (ghost_mvC 1 0 7 56 2 (Ob.arr 48 6 [[(V.own 7 a4.length),(V.own 2 a5.length),(V.own 3 a6.length),(V.own 4 a7.length),(sV a2),(bV a3)]]) rfl rfl rfl (ObSub.box (.cons Sub.mv (.cons Sub.keepMv (.cons Sub.keepMv (.cons Sub.keepMv (.cons Sub.keepMv (.cons Sub.keepMv .nil))))))) rfl rfl) (Ghost.trans (ghost_mvC 2 0 8 61 2 (Ob.arr 48 6 [[(V.own 7 a4.length),(V.own 8 a5.length),(V.own 3 a6.length),(V.own 4 a7.length),(sV a2),(bV a3)]]) rfl rfl rfl (ObSub.box (.cons Sub.keepMv (.cons Sub.mv (.cons Sub.keepMv (.cons Sub.keepMv (.cons Sub.keepMv (.cons Sub.keepMv .nil))))))) rfl rfl) (Ghost.trans (ghost_mvC 3 0 9 71 4 (Ob.arr 48 6 [[(V.own 7 a4.length),(V.own 8 a5.length),(V.own 9 a6.length),(V.own 4 a7.length),(sV a2),(bV a3)]]) rfl rfl rfl (ObSub.box (.cons Sub.keepMv (.cons Sub.keepMv (.cons Sub.mv (.cons Sub.keepMv (.cons Sub.keepMv (.cons Sub.keepMv .nil))))))) rfl rfl) (Ghost.trans (ghost_mvC 4 0 10 9 1 (Ob.arr 48 6 [[(V.own 7 a4.length),(V.own 8 a5.length),(V.own 9 a6.length),(V.own 10 a7.length),(sV a2),(bV a3)]]) rfl rfl rfl (ObSub.box (.cons Sub.keepMv (.cons Sub.keepMv (.cons Sub.keepMv (.cons Sub.mv (.cons Sub.keepMv (.cons Sub.keepMv .nil))))))) rfl rfl) (ghost_ren 9 (fun i=>([0,1,2,3,4,7,8,9,10]:List Nat).getD i 0) _ _ (by decide) (EnvSub.get .nil) (HpSub.get (.cons rfl (ObSub.box (.cons (Sub.own rfl rfl) (.cons (Sub.ownE rfl rfl (by simp)) (.cons (Sub.own rfl rfl) (.cons (Sub.own rfl rfl) (.cons (Sub.imm (Imm.con _)) (.cons (Sub.imm (Imm.con _)) .nil))))))) (.cons rfl ObSub.deadT (.cons rfl ObSub.deadT (.cons rfl ObSub.deadT (.cons rfl ObSub.deadT (.cons rfl (ObSub.rows (rows_imm imms_encTIface)) (.cons rfl (ObSub.rowsK RK.h) (.cons rfl (ObSub.rowsK RK.h) (.cons rfl (ObSub.rows (rows_imm imms_encS)) .nil)))))))))) rfl)))))
  refine rn 6 rfl ?_
  refine jK h (fun(p:Bool)=>(⟨[(0,(V.ptr 0 6 0 0)),(1,(V.lst 1 (a1.map encS))),(148,(bV p))],[(0,(Ob.arr 48 6 [[(V.own 1 a4.length),(V.own 2 a5.length),(V.own 3 a6.length),(V.own 4 a7.length),(sV a2),(bV a3)]])),(1,(Ob.arr 56 2 (a4.map encTIface))),(2,(Ob.arr 61 2 (a5.map dencTType))),(3,(Ob.arr 71 4 (a6.map dencTFunc))),(4,(Ob.arr 9 1 (a7.map encS)))],5⟩:St)) (fun k106 p=>k106 p=some r) (fun k106 h=>?_) ?_
  ·refine spC h rfl (fun hb108 h=>?_) (fun hb108 h=>?_)
   ·refine rn 1 rfl ?_
    exact jX (x64==([99,97,108,108]:List UInt8)) h (gr [0,1,2,3,4] rfl (hB rfl rfl rfl (hR rfl rfl (hR rfl rfl (hR rfl rfl (hR rfl rfl .nil))))) rfl)
   refine rn 5 rfl ?_
   refine spC h rfl (fun hb109 h=>?_) (fun hb109 h=>?_)
   ·refine rn 1 rfl ?_
    exact jX (x64==([100,105,115,112,97,116,99,104]:List UInt8)) h (gr [0,1,2,3,4] rfl (hB rfl rfl rfl (hR rfl rfl (hR rfl rfl (hR rfl rfl (hR rfl rfl .nil))))) rfl)
   refine rn 4 rfl ?_
   exact jX (x64==([109,97,107,101,115]:List UInt8)) h (gr [0,1,2,3,4] rfl (hB rfl rfl rfl (hR rfl rfl (hR rfl rfl (hR rfl rfl (hR rfl rfl .nil))))) rfl)
  intro b107 h
  refine spC h rfl (fun hb110 h=>?_) (fun hb110 h=>?_)
  ·refine rn 8 rfl ?_
   refine spO 157 h rfl (fun hb111 h=>?_) (fun hb111 h=>?_)
   ·obtain⟨y112,hx113,h⟩:=bind_some h
    refine rn 2 rfl ?_
    refine aops_mcallS (bV (y112.1)) [(V.ptr 0 6 0 0),(V.lst 1 (a1.map encS))] (fun i=>([0,1,2,3,4]:List Nat).getD i 0) (fun i=>([0,1,2,3,4]:List Nat).getD i 0) 5 5 [(0,(Ob.arr 48 6 [[(V.own 1 a4.length),(V.own 2 a5.length),(V.own 3 (y112.2).length),(V.own 4 a7.length),(sV a2),(bV a3)]])),(1,(Ob.arr 56 2 (a4.map encTIface))),(2,(Ob.arr 61 2 (a5.map dencTType))),(3,(Ob.arr 71 4 ((y112.2).map dencTFunc))),(4,(Ob.arr 9 1 (a7.map encS)))] fOk63 (wants_some (c:=true) (b:=true) 157 rfl rfl rfl) rfl (evm_cons rfl (evm_cons rfl evm_nil)) (.cons (Sub.ptr rfl rfl) (.cons (Sub.imm (Imm.lst _ _)) .nil)) (.cons rfl (ObSub.box (.cons (Sub.own rfl rfl) (.cons (Sub.own rfl rfl) (.cons (Sub.own rfl rfl) (.cons (Sub.own rfl rfl) (.cons (Sub.imm (Imm.con _)) (.cons (Sub.imm (Imm.con _)) .nil))))))) (.cons rfl (ObSub.rows (rows_imm imms_encTIface)) (.cons rfl (ObSub.rowsK RK.h) (.cons rfl (ObSub.rowsK RK.h) (.cons rfl (ObSub.rows (rows_imm imms_encS)) .nil))))) (W63 F a1 a2 a3 a4 a5 a6 a7 y112 hx113) rfl rfl rfl rfl (Sub.immT (Imm.con _)) (.cons rfl (ObSub.box (.cons (Sub.ownT rfl rfl) (.cons (Sub.ownT rfl rfl) (.cons (Sub.ownT rfl rfl) (.cons (Sub.ownT rfl rfl) (.cons (Sub.immT (Imm.con _)) (.cons (Sub.immT (Imm.con _)) .nil))))))) (.cons rfl (ObSub.rowsT (rows_imm imms_encTIface)) (.cons rfl (ObSub.rowsTK RK.h) (.cons rfl (ObSub.rowsTK RK.h) (.cons rfl (ObSub.rowsT (rows_imm imms_encS)) .nil))))) _ rfl ?_
    refine fo (rn 3 rfl ?_)
    replace h:=Option.some.inj h
    subst h
    exact wR ⟨.inl rfl,[(4,(bV (y112.1)))],(Ghost.trans (ghost_mvC 1 0 5 56 2 (Ob.arr 48 6 [[(V.own 5 a4.length),(V.own 2 a5.length),(V.own 3 (y112.2).length),(V.own 4 a7.length),(sV a2),(bV a3)]]) rfl rfl rfl (ObSub.box (.cons Sub.mv (.cons Sub.keepMv (.cons Sub.keepMv (.cons Sub.keepMv (.cons Sub.keepMv (.cons Sub.keepMv .nil))))))) rfl rfl) (Ghost.trans (ghost_mvC 2 0 6 61 2 (Ob.arr 48 6 [[(V.own 5 a4.length),(V.own 6 a5.length),(V.own 3 (y112.2).length),(V.own 4 a7.length),(sV a2),(bV a3)]]) rfl rfl rfl (ObSub.box (.cons Sub.keepMv (.cons Sub.mv (.cons Sub.keepMv (.cons Sub.keepMv (.cons Sub.keepMv (.cons Sub.keepMv .nil))))))) rfl rfl) (Ghost.trans (ghost_mvC 3 0 7 71 4 (Ob.arr 48 6 [[(V.own 5 a4.length),(V.own 6 a5.length),(V.own 7 (y112.2).length),(V.own 4 a7.length),(sV a2),(bV a3)]]) rfl rfl rfl (ObSub.box (.cons Sub.keepMv (.cons Sub.keepMv (.cons Sub.mv (.cons Sub.keepMv (.cons Sub.keepMv (.cons Sub.keepMv .nil))))))) rfl rfl) (Ghost.trans (ghost_mvC 4 0 8 9 1 (Ob.arr 48 6 [[(V.own 5 a4.length),(V.own 6 a5.length),(V.own 7 (y112.2).length),(V.own 8 a7.length),(sV a2),(bV a3)]]) rfl rfl rfl (ObSub.box (.cons Sub.keepMv (.cons Sub.keepMv (.cons Sub.keepMv (.cons Sub.mv (.cons Sub.keepMv (.cons Sub.keepMv .nil))))))) rfl rfl) (gr [0,1,2,3,4,5,6,7,8] rfl (hB rfl rfl rfl (hD rfl (hD rfl (hD rfl (hD rfl (hR rfl rfl (hR rfl rfl (hR rfl rfl (hR rfl rfl .nil))))))))) rfl))))),(.cons (.tmp rfl) .nil)⟩
   refine rn 6 rfl ?_
   replace h:=Option.some.inj h
   subst h
   exact wR ⟨.inl rfl,[(4,(bV false))],(Ghost.trans (ghost_mvC 1 0 5 56 2 (Ob.arr 48 6 [[(V.own 5 a4.length),(V.own 2 a5.length),(V.own 3 a6.length),(V.own 4 a7.length),(sV a2),(bV a3)]]) rfl rfl rfl (ObSub.box (.cons Sub.mv (.cons Sub.keepMv (.cons Sub.keepMv (.cons Sub.keepMv (.cons Sub.keepMv (.cons Sub.keepMv .nil))))))) rfl rfl) (Ghost.trans (ghost_mvC 2 0 6 61 2 (Ob.arr 48 6 [[(V.own 5 a4.length),(V.own 6 a5.length),(V.own 3 a6.length),(V.own 4 a7.length),(sV a2),(bV a3)]]) rfl rfl rfl (ObSub.box (.cons Sub.keepMv (.cons Sub.mv (.cons Sub.keepMv (.cons Sub.keepMv (.cons Sub.keepMv (.cons Sub.keepMv .nil))))))) rfl rfl) (Ghost.trans (ghost_mvC 3 0 7 71 4 (Ob.arr 48 6 [[(V.own 5 a4.length),(V.own 6 a5.length),(V.own 7 a6.length),(V.own 4 a7.length),(sV a2),(bV a3)]]) rfl rfl rfl (ObSub.box (.cons Sub.keepMv (.cons Sub.keepMv (.cons Sub.mv (.cons Sub.keepMv (.cons Sub.keepMv (.cons Sub.keepMv .nil))))))) rfl rfl) (Ghost.trans (ghost_mvC 4 0 8 9 1 (Ob.arr 48 6 [[(V.own 5 a4.length),(V.own 6 a5.length),(V.own 7 a6.length),(V.own 8 a7.length),(sV a2),(bV a3)]]) rfl rfl rfl (ObSub.box (.cons Sub.keepMv (.cons Sub.keepMv (.cons Sub.keepMv (.cons Sub.mv (.cons Sub.keepMv (.cons Sub.keepMv .nil))))))) rfl rfl) (gr [0,1,2,3,4,5,6,7,8] rfl (hB rfl rfl rfl (hD rfl (hD rfl (hD rfl (hD rfl (hR rfl rfl (hR rfl rfl (hR rfl rfl (hR rfl rfl .nil))))))))) rfl))))),(.cons (.tmp rfl) .nil)⟩
  refine rn 4 rfl ?_
  replace h:=Option.some.inj h
  subst h
  exact wR ⟨.inl rfl,[(4,(bV false))],(Ghost.trans (ghost_mvC 1 0 5 56 2 (Ob.arr 48 6 [[(V.own 5 a4.length),(V.own 2 a5.length),(V.own 3 a6.length),(V.own 4 a7.length),(sV a2),(bV a3)]]) rfl rfl rfl (ObSub.box (.cons Sub.mv (.cons Sub.keepMv (.cons Sub.keepMv (.cons Sub.keepMv (.cons Sub.keepMv (.cons Sub.keepMv .nil))))))) rfl rfl) (Ghost.trans (ghost_mvC 2 0 6 61 2 (Ob.arr 48 6 [[(V.own 5 a4.length),(V.own 6 a5.length),(V.own 3 a6.length),(V.own 4 a7.length),(sV a2),(bV a3)]]) rfl rfl rfl (ObSub.box (.cons Sub.keepMv (.cons Sub.mv (.cons Sub.keepMv (.cons Sub.keepMv (.cons Sub.keepMv (.cons Sub.keepMv .nil))))))) rfl rfl) (Ghost.trans (ghost_mvC 3 0 7 71 4 (Ob.arr 48 6 [[(V.own 5 a4.length),(V.own 6 a5.length),(V.own 7 a6.length),(V.own 4 a7.length),(sV a2),(bV a3)]]) rfl rfl rfl (ObSub.box (.cons Sub.keepMv (.cons Sub.keepMv (.cons Sub.mv (.cons Sub.keepMv (.cons Sub.keepMv (.cons Sub.keepMv .nil))))))) rfl rfl) (Ghost.trans (ghost_mvC 4 0 8 9 1 (Ob.arr 48 6 [[(V.own 5 a4.length),(V.own 6 a5.length),(V.own 7 a6.length),(V.own 8 a7.length),(sV a2),(bV a3)]]) rfl rfl rfl (ObSub.box (.cons Sub.keepMv (.cons Sub.keepMv (.cons Sub.keepMv (.cons Sub.mv (.cons Sub.keepMv (.cons Sub.keepMv .nil))))))) rfl rfl) (gr [0,1,2,3,4,5,6,7,8] rfl (hB rfl rfl rfl (hD rfl (hD rfl (hD rfl (hD rfl (hR rfl rfl (hR rfl rfl (hR rfl rfl (hR rfl rfl .nil))))))))) rfl))))),(.cons (.tmp rfl) .nil)⟩
 rintro⟨s67,l68,l69,l70,l71⟩ h
 refine rn 5 rfl ?_
 replace h:=Option.some.inj h
 subst h
 exact wR ⟨.inl rfl,[(4,(bV true))],(gr [0,1,2,3,4,5,6,7,8] rfl (hB rfl rfl rfl (hD rfl (hD rfl (hD rfl (hD rfl (hR rfl rfl (hR rfl rfl (hR rfl rfl (hR rfl rfl .nil))))))))) rfl),(.cons (.tmp rfl) .nil)⟩
theorem W94_B(R94:(List (List UInt8))->Int->Int->Tprovenderref6_reader->Option (Bool×(List Int)))(hR94:∀(a1:(List (List UInt8))) (a2:Int) (a3:Int) (a4:Tprovenderref6_reader) (r:(Bool×(List Int))),R94 a1 a2 a3 a4=some r->MutG (gl mx) Tryz.prog 94 [(V.ptr 0 6 0 0),(V.lst 1 (a1.map encS)),(iV a2),(iV a3)] 1 [(0,(Ob.arr 48 6 [(encTprovenderref6_reader a4)]))] (resV [(V.own 1 (r.2).length)]) 2 [(0,(Ob.arr 48 6 [[(V.lst 2 (a4.g.Ifaces.map encTIface)),(V.lst 2 (a4.g.Types.map encTType)),(V.lst 4 (a4.g.Funcs.map encTFunc)),(V.lst 1 (a4.g.Entries.map encS)),(sV a4.inside),(bV (r.1))]])),(1,(Ob.arr 3 1 ((r.2).map encI_i64)))])(F:Nat)(a1:(List (List UInt8)))(a2:Int)(a3:Int)(a4:Tprovenderref6_reader)(r:(Bool×(List Int)))(h:M94_B R94 F a1 a2 a3 a4=some r):MutG (gl mx) Tryz.prog 94 [(V.ptr 0 6 0 0),(V.lst 1 (a1.map encS)),(iV a2),(iV a3)] 1 [(0,(Ob.arr 48 6 [(encTprovenderref6_reader a4)]))] (resV [(V.own 1 (r.2).length)]) 2 [(0,(Ob.arr 48 6 [[(V.lst 2 (a4.g.Ifaces.map encTIface)),(V.lst 2 (a4.g.Types.map encTType)),(V.lst 4 (a4.g.Funcs.map encTFunc)),(V.lst 1 (a4.g.Entries.map encS)),(sV a4.inside),(bV (r.1))]])),(1,(Ob.arr 3 1 ((r.2).map encI_i64)))]:=by
 refine mut_enter Tryz.func94 rfl rfl (l:=[.tmp 8]) rfl rfl [(0,(V.ptr 0 6 0 0)),(1,(V.lst 1 (a1.map encS))),(2,(iV a2)),(3,(iV a3))] rfl (fun w0 m0 β0 hg=>en ?_)
 unfold M94_B at h
 refine rn 12 rfl ?_
 refine spC h rfl (fun hb98 h=>?_) (fun hb98 h=>?_)
 ·refine rn 3 rfl ?_
  refine aops_buildSlice [(0,(iV a2))] [[(iV a2)]] tEl120 tZ3 rfl rfl rfl rfl wants_none (evp_cons rfl evp_nil) rfl rfl (by simp) rfl ?_
  refine fo (rn 2 rfl ?_)
  replace h:=Option.some.inj h
  subst h
  exact wR ⟨.inl rfl,[(8,(V.own 1 ([a2]:List Int).length))],(ghost_ren 2 (fun i=>([0,1]:List Nat).getD i 0) _ _ (by decide) (EnvSub.get (.cons (Sub.ownE rfl rfl (by simp)) .nil)) (HpSub.get (.cons rfl (ObSub.box (.cons (Sub.imm (Imm.lst _ _)) (.cons (Sub.imm (Imm.lst _ _)) (.cons (Sub.imm (Imm.lst _ _)) (.cons (Sub.imm (Imm.lst _ _)) (.cons (Sub.imm (Imm.con _)) (.cons (Sub.imm (Imm.con _)) .nil))))))) (.cons rfl (ObSub.rows (rows_imm imms_encI_i64)) .nil))) rfl),(.cons (.tmp rfl) .nil)⟩
 obtain⟨y99,hx100,h⟩:=bind_some h
 refine rn 15 rfl ?_
 refine aops_mcallS (V.own 1 (y99.2).length) [(V.ptr 0 6 0 0),(V.lst 1 (a1.map encS)),(iV a2),(iV (w64 (Int.tdiv (w64 (a2+a3)) 2)))] (fun i=>([0]:List Nat).getD i 0) (fun i=>([0,1]:List Nat).getD i 0) 1 2 [(0,(Ob.arr 48 6 [[(V.lst 2 (a4.g.Ifaces.map encTIface)),(V.lst 2 (a4.g.Types.map encTType)),(V.lst 4 (a4.g.Funcs.map encTFunc)),(V.lst 1 (a4.g.Entries.map encS)),(sV a4.inside),(bV (y99.1))]])),(1,(Ob.arr 3 1 ((y99.2).map encI_i64)))] fOk94 wants_none rfl (evm_cons rfl (evm_cons rfl (evm_cons rfl (evm_cons rfl evm_nil)))) (.cons (Sub.ptr rfl rfl) (.cons (Sub.imm (Imm.lst _ _)) (.cons (Sub.imm (Imm.con _)) (.cons (Sub.imm (Imm.con _)) .nil)))) (.cons rfl (ObSub.box (.cons (Sub.imm (Imm.lst _ _)) (.cons (Sub.imm (Imm.lst _ _)) (.cons (Sub.imm (Imm.lst _ _)) (.cons (Sub.imm (Imm.lst _ _)) (.cons (Sub.imm (Imm.con _)) (.cons (Sub.imm (Imm.con _)) .nil))))))) .nil) (hR94 a1 a2 (w64 (Int.tdiv (w64 (a2+a3)) 2)) a4 _ hx100) rfl rfl rfl rfl (Sub.ownT rfl rfl) (.cons rfl (ObSub.box (.cons (Sub.immT (Imm.lst _ _)) (.cons (Sub.immT (Imm.lst _ _)) (.cons (Sub.immT (Imm.lst _ _)) (.cons (Sub.immT (Imm.lst _ _)) (.cons (Sub.immT (Imm.con _)) (.cons (Sub.immT (Imm.con _)) .nil))))))) (.cons rfl (ObSub.rowsT (rows_imm imms_encI_i64)) .nil)) _ rfl ?_
 refine aops_ghost (ghost_frzE 1 27 rfl (rows_imm imms_encI_i64) rfl (List.length_map ..).symm) ?_
 obtain⟨y101,hx102,h⟩:=bind_some h
 refine fo (rn 4 rfl ?_)
 refine aops_mcallS (V.own 2 (y101.2).length) [(V.ptr 0 6 0 0),(V.lst 1 (a1.map encS)),(iV (w64 (Int.tdiv (w64 (a2+a3)) 2))),(iV a3)] (fun i=>([0]:List Nat).getD i 0) (fun i=>([0,2]:List Nat).getD i 0) 2 3 [(0,(Ob.arr 48 6 [[(V.lst 2 (a4.g.Ifaces.map encTIface)),(V.lst 2 (a4.g.Types.map encTType)),(V.lst 4 (a4.g.Funcs.map encTFunc)),(V.lst 1 (a4.g.Entries.map encS)),(sV a4.inside),(bV (y101.1))]])),(2,(Ob.arr 3 1 ((y101.2).map encI_i64)))] fOk94 wants_none rfl (evm_cons rfl (evm_cons rfl (evm_cons rfl (evm_cons rfl evm_nil)))) (.cons (Sub.ptr rfl rfl) (.cons (Sub.imm (Imm.lst _ _)) (.cons (Sub.imm (Imm.con _)) (.cons (Sub.imm (Imm.con _)) .nil)))) (.cons rfl (ObSub.box (.cons (Sub.imm (Imm.lst _ _)) (.cons (Sub.imm (Imm.lst _ _)) (.cons (Sub.imm (Imm.lst _ _)) (.cons (Sub.imm (Imm.lst _ _)) (.cons (Sub.imm (Imm.con _)) (.cons (Sub.imm (Imm.con _)) .nil))))))) .nil) (hR94 a1 (w64 (Int.tdiv (w64 (a2+a3)) 2)) a3 (Tprovenderref6_reader.mk a4.g a4.inside (y99.1)) _ hx102) rfl rfl rfl rfl (Sub.ownT rfl rfl) (.cons rfl (ObSub.box (.cons (Sub.immT (Imm.lst _ _)) (.cons (Sub.immT (Imm.lst _ _)) (.cons (Sub.immT (Imm.lst _ _)) (.cons (Sub.immT (Imm.lst _ _)) (.cons (Sub.immT (Imm.con _)) (.cons (Sub.immT (Imm.con _)) .nil))))))) (.cons rfl (ObSub.rowsT (rows_imm imms_encI_i64)) .nil)) _ rfl ?_
 refine aops_ghost (ghost_frzE 2 32 rfl (rows_imm imms_encI_i64) rfl (List.length_map ..).symm) ?_
 refine fo (rn 8 rfl ?_)
 refine jK h (fun(p:Bool×(List Int))=>(⟨[(12,(V.own 1 (p.2).length))],[(0,(Ob.arr 48 6 [[(V.lst 2 (a4.g.Ifaces.map encTIface)),(V.lst 2 (a4.g.Types.map encTType)),(V.lst 4 (a4.g.Funcs.map encTFunc)),(V.lst 1 (a4.g.Entries.map encS)),(sV a4.inside),(bV (p.1))]])),(1,(Ob.arr 3 1 ((p.2).map encI_i64)))],2⟩:St)) (fun k103 p=>k103 p.1 p.2=some r) (fun k103 h=>?_) ?_
 ·refine rn 1 rfl ?_
  refine lC (fun(p:(List Int)×(List Int)×Bool×(List Int))=>(⟨[(0,(V.ptr 0 6 0 0)),(1,(V.lst 1 (a1.map encS))),(10,(V.lst 1 ((p.1).map encI_i64))),(11,(V.lst 1 ((p.2.1).map encI_i64))),(12,(V.own 1 (p.2.2.2).length))],[(0,(Ob.arr 48 6 [[(V.lst 2 (a4.g.Ifaces.map encTIface)),(V.lst 2 (a4.g.Types.map encTType)),(V.lst 4 (a4.g.Funcs.map encTFunc)),(V.lst 1 (a4.g.Entries.map encS)),(sV a4.inside),(bV (p.2.2.1))]])),(1,(Ob.arr 3 1 ((p.2.2.2).map encI_i64)))],2⟩:St)) (fun n p=>M94_L1 F a1 k103 n p.1 p.2.1 p.2.2.1 p.2.2.2=some r) (fun p h=>by simp[M94_L1] at h) F ((y99.2),(y101.2),(y101.1),([]:List Int)) h (Ghost.trans (ghost_nilE 12 3 1 rfl) (ghost_ren 2 (fun i=>([0,3]:List Nat).getD i 0) _ _ (by decide) (EnvSub.get (.cons (Sub.ptr rfl rfl) (.cons (Sub.imm (Imm.lst _ _)) (.cons (Sub.imm (Imm.lst _ _)) (.cons (Sub.imm (Imm.lst _ _)) (.cons (Sub.ownE rfl rfl (by simp)) .nil)))))) (HpSub.get (.cons rfl (ObSub.box (.cons (Sub.imm (Imm.lst _ _)) (.cons (Sub.imm (Imm.lst _ _)) (.cons (Sub.imm (Imm.lst _ _)) (.cons (Sub.imm (Imm.lst _ _)) (.cons (Sub.imm (Imm.con _)) (.cons (Sub.imm (Imm.con _)) .nil))))))) (.cons rfl (ObSub.rows (rows_imm imms_encI_i64)) .nil))) rfl)) (fun n p h=>?_)
  obtain⟨l110,l111,b112,l113⟩:=p
  unfold M94_L1 at h
  refine rn 4 rfl ?_
  refine ln rfl rfl ?_
  refine rn 2 rfl ?_
  refine spO 36 h rfl (fun hb114 h=>?_) (fun hb114 h=>?_)
  ·refine rn 10 rfl ?_
   refine bs h (fun hb115 h=>?_) (fun hb115 h=>?_)
   ·obtain⟨x116,hx117,h⟩:=bind_some h
    obtain⟨x118,hx119,h⟩:=bind_some h
    obtain⟨x120,hx121,h⟩:=bind_some h
    obtain⟨x122,hx123,h⟩:=bind_some h
    refine dr mixed (vs 1 rfl (nD rfl rfl rfl (vs 1 rfl (vb hb114 rfl (vs 1 rfl (nD rfl rfl rfl (vs 2 rfl (vb hb115 rfl (vs 2 rfl (iD hx117 rfl rfl rfl (vs 1 rfl (iD hx119 rfl rfl rfl (vs 3 rfl (iD hx121 rfl rfl rfl (vs 1 rfl (iD hx123 rfl rfl rfl (vs 3 rfl .nil))))))))))))))))) (by kernel_rfl) ?_
    refine jK h (fun(p:Bool)=>(⟨[(0,(V.ptr 0 6 0 0)),(1,(V.lst 1 (a1.map encS))),(10,(V.lst 1 (l110.map encI_i64))),(11,(V.lst 1 (l111.map encI_i64))),(12,(V.own 1 l113.length)),(39,(V.con undef)),(47,(bV (decide (((l111.length:Nat):Int)>0)))),(62,(bV (x118==x122)))],[(0,(Ob.arr 48 6 [[(V.lst 2 (a4.g.Ifaces.map encTIface)),(V.lst 2 (a4.g.Types.map encTType)),(V.lst 4 (a4.g.Funcs.map encTFunc)),(V.lst 1 (a4.g.Entries.map encS)),(sV a4.inside),(bV p)]])),(1,(Ob.arr 3 1 (l113.map encI_i64)))],2⟩:St)) (fun k124 p=>k124 p=some r) (fun k124 h=>?_) ?_
    ·refine spC h rfl (fun hb126 h=>?_) (fun hb126 h=>?_)
     ·refine rn 6 rfl ?_
      exact jX true h (gr [0,1] rfl (hB rfl rfl rfl (hR rfl rfl .nil)) rfl)
     refine rn 1 rfl ?_
     exact jX b112 h (gr [0,1] rfl (hB rfl rfl rfl (hR rfl rfl .nil)) rfl)
    intro b125 h
    refine rn 1 rfl ?_
    refine bs h (fun hb127 h=>?_) (fun hb127 h=>?_)
    ·refine dr mixed (vs 1 rfl (nD rfl rfl rfl (vs 1 rfl (vb hb127 rfl (vs 19 rfl .nil))))) (by kernel_rfl) ?_
     obtain⟨x128,hx129,h⟩:=bind_some h
     refine rn 1 rfl ?_
     refine ck h (fun hc130 h=>?_)
     refine ck h (fun hc131 h=>?_)
     refine awp_ghost ghost_res ?_
     refine fa ?_
     refine dr mixed (vs 2 rfl (iD hx129 rfl rfl rfl (vs 1 rfl (xD (OD.mk [(93,(iV x128))] [] [(94,(V.lst 1 (([x128]:List Int).map encI_i64)))] []) ⟨⟨rfl,trivial⟩,trivial⟩ (by exact fun S hn h hh=>aops_buildSlice_imm [(0,(iV x128))] [[(iV x128)]] tEl120 tZ3 wants_none rfl rfl rfl rfl (evp_cons h.1 evp_nil) rfl rfl (by simp) (imms_rows (.cons (.cons (Imm.con _) .nil) .nil)) rfl (aops_nil ⟨rfl,rfl⟩)) rfl (xD (OD.mk [(90,(V.own 1 l113.length)),(94,(V.lst 1 (([x128]:List Int).map encI_i64)))] [(1,(Ob.arr 3 1 (l113.map encI_i64))),(2,Ob.res)] [(95,(V.own 2 (l113++([x128]:List Int)).length))] [(2,(Ob.arr 3 1 ((l113++([x128]:List Int)).map encI_i64))),(1,Ob.dead)]) ⟨⟨rfl,rfl,trivial⟩,⟨rfl,rfl,trivial⟩⟩ (by exact fun S hn h hh=>aops_append_at 2 rfl hn hh.2.1 (([x128]:List Int).map encI_i64) ((l113++([x128]:List Int)).map encI_i64) tEl120 tIsSl120 rfl rfl wants_none h.1 hh.1 (by simp) h.2.1 (.lst (rows_one one_encI_i64)) (map_snoc encI_i64 l113 ([x128]:List Int)) (List.length_map ..) hc130 rfl (aops_nil ⟨rfl,rfl⟩)) rfl (vs 1 rfl (xD (OD.mk [(96,(V.lst 1 (l110.map encI_i64)))] [] [(97,(V.lst 1 ((l110.drop 1).map encI_i64)))] []) ⟨⟨rfl,trivial⟩,trivial⟩ (by exact fun S hn h hh=>aops_slice_lst (1) (l110.length) ((l110.drop 1).map encI_i64) tSl120 wants_none h.1 ⟨_,rfl⟩ (List.length_map ..).symm hc131 (Nat.le_of_eq (List.length_map ..).symm) slL_hi rfl (aops_nil ⟨rfl,rfl⟩)) rfl (vs 2 rfl .nil)))))))) (by kernel_rfl) ?_
     refine rn 1 rfl ?_
     exact jX ((l110.drop 1),l111,b125,(l113++([x128]:List Int))) h (gr [0,2] rfl (hB rfl rfl rfl (hR rfl rfl .nil)) rfl)
    obtain⟨x132,hx133,h⟩:=bind_some h
    obtain⟨x134,hx135,h⟩:=bind_some h
    obtain⟨x136,hx137,h⟩:=bind_some h
    obtain⟨x138,hx139,h⟩:=bind_some h
    refine dr mixed (vs 1 rfl (nD rfl rfl rfl (vs 1 rfl (vb hb127 rfl (vs 1 rfl (nD rfl rfl rfl (vs 1 rfl (vb hb114 rfl (vs 2 rfl (iD hx133 rfl rfl rfl (vs 1 rfl (iD hx135 rfl rfl rfl (vs 3 rfl (iD hx137 rfl rfl rfl (vs 1 rfl (iD hx139 rfl rfl rfl (vs 4 rfl .nil))))))))))))))))) (by kernel_rfl) ?_
    refine jK h (fun(p:(List Int)×(List Int)×(List Int))=>(⟨[(0,(V.ptr 0 6 0 0)),(1,(V.lst 1 (a1.map encS))),(10,(V.lst 1 ((p.1).map encI_i64))),(11,(V.lst 1 ((p.2.1).map encI_i64))),(12,(V.own 1 (p.2.2).length)),(39,(V.con undef)),(47,(bV (decide (((l111.length:Nat):Int)>0)))),(62,(bV (x118==x122))),(87,(bV (Op.bytesLess x134 x138||x134==x138))),(88,(bV (Op.bytesLess x134 x138||x134==x138)))],[(0,(Ob.arr 48 6 [[(V.lst 2 (a4.g.Ifaces.map encTIface)),(V.lst 2 (a4.g.Types.map encTType)),(V.lst 4 (a4.g.Funcs.map encTFunc)),(V.lst 1 (a4.g.Entries.map encS)),(sV a4.inside),(bV b125)]])),(1,(Ob.arr 3 1 ((p.2.2).map encI_i64)))],2⟩:St)) (fun k140 p=>k140 p.1 p.2.1 p.2.2=some r) (fun k140 h=>?_) ?_
    ·refine spC h rfl (fun hb144 h=>?_) (fun hb144 h=>?_)
     ·obtain⟨x145,hx146,h⟩:=bind_some h
      refine ck h (fun hc147 h=>?_)
      refine ck h (fun hc148 h=>?_)
      refine awp_ghost ghost_res ?_
      refine fa ?_
      refine dr mixed (vs 2 rfl (iD hx146 rfl rfl rfl (vs 1 rfl (xD (OD.mk [(93,(iV x145))] [] [(94,(V.lst 1 (([x145]:List Int).map encI_i64)))] []) ⟨⟨rfl,trivial⟩,trivial⟩ (by exact fun S hn h hh=>aops_buildSlice_imm [(0,(iV x145))] [[(iV x145)]] tEl120 tZ3 wants_none rfl rfl rfl rfl (evp_cons h.1 evp_nil) rfl rfl (by simp) (imms_rows (.cons (.cons (Imm.con _) .nil) .nil)) rfl (aops_nil ⟨rfl,rfl⟩)) rfl (xD (OD.mk [(90,(V.own 1 l113.length)),(94,(V.lst 1 (([x145]:List Int).map encI_i64)))] [(1,(Ob.arr 3 1 (l113.map encI_i64))),(2,Ob.res)] [(95,(V.own 2 (l113++([x145]:List Int)).length))] [(2,(Ob.arr 3 1 ((l113++([x145]:List Int)).map encI_i64))),(1,Ob.dead)]) ⟨⟨rfl,rfl,trivial⟩,⟨rfl,rfl,trivial⟩⟩ (by exact fun S hn h hh=>aops_append_at 2 rfl hn hh.2.1 (([x145]:List Int).map encI_i64) ((l113++([x145]:List Int)).map encI_i64) tEl120 tIsSl120 rfl rfl wants_none h.1 hh.1 (by simp) h.2.1 (.lst (rows_one one_encI_i64)) (map_snoc encI_i64 l113 ([x145]:List Int)) (List.length_map ..) hc147 rfl (aops_nil ⟨rfl,rfl⟩)) rfl (vs 1 rfl (xD (OD.mk [(96,(V.lst 1 (l110.map encI_i64)))] [] [(97,(V.lst 1 ((l110.drop 1).map encI_i64)))] []) ⟨⟨rfl,trivial⟩,trivial⟩ (by exact fun S hn h hh=>aops_slice_lst (1) (l110.length) ((l110.drop 1).map encI_i64) tSl120 wants_none h.1 ⟨_,rfl⟩ (List.length_map ..).symm hc148 (Nat.le_of_eq (List.length_map ..).symm) slL_hi rfl (aops_nil ⟨rfl,rfl⟩)) rfl (vs 2 rfl .nil)))))))) (by kernel_rfl) ?_
      exact jX ((l110.drop 1),l111,(l113++([x145]:List Int))) h (gr [0,2] rfl (hB rfl rfl rfl (hR rfl rfl .nil)) rfl)
     obtain⟨x149,hx150,h⟩:=bind_some h
     refine ck h (fun hc151 h=>?_)
     refine ck h (fun hc152 h=>?_)
     refine awp_ghost ghost_res ?_
     refine fa ?_
     refine dr mixed (vs 2 rfl (iD hx150 rfl rfl rfl (vs 1 rfl (xD (OD.mk [(101,(iV x149))] [] [(102,(V.lst 1 (([x149]:List Int).map encI_i64)))] []) ⟨⟨rfl,trivial⟩,trivial⟩ (by exact fun S hn h hh=>aops_buildSlice_imm [(0,(iV x149))] [[(iV x149)]] tEl120 tZ3 wants_none rfl rfl rfl rfl (evp_cons h.1 evp_nil) rfl rfl (by simp) (imms_rows (.cons (.cons (Imm.con _) .nil) .nil)) rfl (aops_nil ⟨rfl,rfl⟩)) rfl (xD (OD.mk [(98,(V.own 1 l113.length)),(102,(V.lst 1 (([x149]:List Int).map encI_i64)))] [(1,(Ob.arr 3 1 (l113.map encI_i64))),(2,Ob.res)] [(103,(V.own 2 (l113++([x149]:List Int)).length))] [(2,(Ob.arr 3 1 ((l113++([x149]:List Int)).map encI_i64))),(1,Ob.dead)]) ⟨⟨rfl,rfl,trivial⟩,⟨rfl,rfl,trivial⟩⟩ (by exact fun S hn h hh=>aops_append_at 2 rfl hn hh.2.1 (([x149]:List Int).map encI_i64) ((l113++([x149]:List Int)).map encI_i64) tEl120 tIsSl120 rfl rfl wants_none h.1 hh.1 (by simp) h.2.1 (.lst (rows_one one_encI_i64)) (map_snoc encI_i64 l113 ([x149]:List Int)) (List.length_map ..) hc151 rfl (aops_nil ⟨rfl,rfl⟩)) rfl (vs 1 rfl (xD (OD.mk [(104,(V.lst 1 (l111.map encI_i64)))] [] [(105,(V.lst 1 ((l111.drop 1).map encI_i64)))] []) ⟨⟨rfl,trivial⟩,trivial⟩ (by exact fun S hn h hh=>aops_slice_lst (1) (l111.length) ((l111.drop 1).map encI_i64) tSl120 wants_none h.1 ⟨_,rfl⟩ (List.length_map ..).symm hc152 (Nat.le_of_eq (List.length_map ..).symm) slL_hi rfl (aops_nil ⟨rfl,rfl⟩)) rfl (vs 2 rfl .nil)))))))) (by kernel_rfl) ?_
     exact jX (l110,(l111.drop 1),(l113++([x149]:List Int))) h (gr [0,2] rfl (hB rfl rfl rfl (hR rfl rfl .nil)) rfl)
    rintro⟨l141,l142,l143⟩ h
    refine rn 1 rfl ?_
    exact jX (l141,l142,b125,l143) h (gr [0,1] rfl (hB rfl rfl rfl (hR rfl rfl .nil)) rfl)
   refine dr mixed (vs 1 rfl (nD rfl rfl rfl (vs 1 rfl (vb hb114 rfl (vs 1 rfl (nD rfl rfl rfl (vs 2 rfl (vb hb115 rfl (vs 14 rfl .nil))))))))) (by kernel_rfl) ?_
   refine rn 3 rfl ?_
   refine bs h (fun hb153 h=>?_) (fun hb153 h=>?_)
   ·refine dr mixed (vs 1 rfl (nD rfl rfl rfl (vs 1 rfl (vb hb153 rfl (vs 19 rfl .nil))))) (by kernel_rfl) ?_
    obtain⟨x154,hx155,h⟩:=bind_some h
    refine rn 1 rfl ?_
    refine ck h (fun hc156 h=>?_)
    refine ck h (fun hc157 h=>?_)
    refine awp_ghost ghost_res ?_
    refine fa ?_
    refine dr mixed (vs 2 rfl (iD hx155 rfl rfl rfl (vs 1 rfl (xD (OD.mk [(93,(iV x154))] [] [(94,(V.lst 1 (([x154]:List Int).map encI_i64)))] []) ⟨⟨rfl,trivial⟩,trivial⟩ (by exact fun S hn h hh=>aops_buildSlice_imm [(0,(iV x154))] [[(iV x154)]] tEl120 tZ3 wants_none rfl rfl rfl rfl (evp_cons h.1 evp_nil) rfl rfl (by simp) (imms_rows (.cons (.cons (Imm.con _) .nil) .nil)) rfl (aops_nil ⟨rfl,rfl⟩)) rfl (xD (OD.mk [(90,(V.own 1 l113.length)),(94,(V.lst 1 (([x154]:List Int).map encI_i64)))] [(1,(Ob.arr 3 1 (l113.map encI_i64))),(2,Ob.res)] [(95,(V.own 2 (l113++([x154]:List Int)).length))] [(2,(Ob.arr 3 1 ((l113++([x154]:List Int)).map encI_i64))),(1,Ob.dead)]) ⟨⟨rfl,rfl,trivial⟩,⟨rfl,rfl,trivial⟩⟩ (by exact fun S hn h hh=>aops_append_at 2 rfl hn hh.2.1 (([x154]:List Int).map encI_i64) ((l113++([x154]:List Int)).map encI_i64) tEl120 tIsSl120 rfl rfl wants_none h.1 hh.1 (by simp) h.2.1 (.lst (rows_one one_encI_i64)) (map_snoc encI_i64 l113 ([x154]:List Int)) (List.length_map ..) hc156 rfl (aops_nil ⟨rfl,rfl⟩)) rfl (vs 1 rfl (xD (OD.mk [(96,(V.lst 1 (l110.map encI_i64)))] [] [(97,(V.lst 1 ((l110.drop 1).map encI_i64)))] []) ⟨⟨rfl,trivial⟩,trivial⟩ (by exact fun S hn h hh=>aops_slice_lst (1) (l110.length) ((l110.drop 1).map encI_i64) tSl120 wants_none h.1 ⟨_,rfl⟩ (List.length_map ..).symm hc157 (Nat.le_of_eq (List.length_map ..).symm) slL_hi rfl (aops_nil ⟨rfl,rfl⟩)) rfl (vs 2 rfl .nil)))))))) (by kernel_rfl) ?_
    refine rn 1 rfl ?_
    exact jX ((l110.drop 1),l111,b112,(l113++([x154]:List Int))) h (gr [0,2] rfl (hB rfl rfl rfl (hR rfl rfl .nil)) rfl)
   obtain⟨x158,hx159,h⟩:=bind_some h
   obtain⟨x160,hx161,h⟩:=bind_some h
   obtain⟨x162,hx163,h⟩:=bind_some h
   obtain⟨x164,hx165,h⟩:=bind_some h
   refine dr mixed (vs 1 rfl (nD rfl rfl rfl (vs 1 rfl (vb hb153 rfl (vs 1 rfl (nD rfl rfl rfl (vs 1 rfl (vb hb114 rfl (vs 2 rfl (iD hx159 rfl rfl rfl (vs 1 rfl (iD hx161 rfl rfl rfl (vs 3 rfl (iD hx163 rfl rfl rfl (vs 1 rfl (iD hx165 rfl rfl rfl (vs 4 rfl .nil))))))))))))))))) (by kernel_rfl) ?_
   refine jK h (fun(p:(List Int)×(List Int)×(List Int))=>(⟨[(0,(V.ptr 0 6 0 0)),(1,(V.lst 1 (a1.map encS))),(10,(V.lst 1 ((p.1).map encI_i64))),(11,(V.lst 1 ((p.2.1).map encI_i64))),(12,(V.own 1 (p.2.2).length)),(39,(V.con undef)),(47,(bV (decide (((l111.length:Nat):Int)>0)))),(62,(V.con undef)),(87,(bV (Op.bytesLess x160 x164||x160==x164))),(88,(bV (Op.bytesLess x160 x164||x160==x164)))],[(0,(Ob.arr 48 6 [[(V.lst 2 (a4.g.Ifaces.map encTIface)),(V.lst 2 (a4.g.Types.map encTType)),(V.lst 4 (a4.g.Funcs.map encTFunc)),(V.lst 1 (a4.g.Entries.map encS)),(sV a4.inside),(bV b112)]])),(1,(Ob.arr 3 1 ((p.2.2).map encI_i64)))],2⟩:St)) (fun k166 p=>k166 p.1 p.2.1 p.2.2=some r) (fun k166 h=>?_) ?_
   ·refine spC h rfl (fun hb170 h=>?_) (fun hb170 h=>?_)
    ·obtain⟨x171,hx172,h⟩:=bind_some h
     refine ck h (fun hc173 h=>?_)
     refine ck h (fun hc174 h=>?_)
     refine awp_ghost ghost_res ?_
     refine fa ?_
     refine dr mixed (vs 2 rfl (iD hx172 rfl rfl rfl (vs 1 rfl (xD (OD.mk [(93,(iV x171))] [] [(94,(V.lst 1 (([x171]:List Int).map encI_i64)))] []) ⟨⟨rfl,trivial⟩,trivial⟩ (by exact fun S hn h hh=>aops_buildSlice_imm [(0,(iV x171))] [[(iV x171)]] tEl120 tZ3 wants_none rfl rfl rfl rfl (evp_cons h.1 evp_nil) rfl rfl (by simp) (imms_rows (.cons (.cons (Imm.con _) .nil) .nil)) rfl (aops_nil ⟨rfl,rfl⟩)) rfl (xD (OD.mk [(90,(V.own 1 l113.length)),(94,(V.lst 1 (([x171]:List Int).map encI_i64)))] [(1,(Ob.arr 3 1 (l113.map encI_i64))),(2,Ob.res)] [(95,(V.own 2 (l113++([x171]:List Int)).length))] [(2,(Ob.arr 3 1 ((l113++([x171]:List Int)).map encI_i64))),(1,Ob.dead)]) ⟨⟨rfl,rfl,trivial⟩,⟨rfl,rfl,trivial⟩⟩ (by exact fun S hn h hh=>aops_append_at 2 rfl hn hh.2.1 (([x171]:List Int).map encI_i64) ((l113++([x171]:List Int)).map encI_i64) tEl120 tIsSl120 rfl rfl wants_none h.1 hh.1 (by simp) h.2.1 (.lst (rows_one one_encI_i64)) (map_snoc encI_i64 l113 ([x171]:List Int)) (List.length_map ..) hc173 rfl (aops_nil ⟨rfl,rfl⟩)) rfl (vs 1 rfl (xD (OD.mk [(96,(V.lst 1 (l110.map encI_i64)))] [] [(97,(V.lst 1 ((l110.drop 1).map encI_i64)))] []) ⟨⟨rfl,trivial⟩,trivial⟩ (by exact fun S hn h hh=>aops_slice_lst (1) (l110.length) ((l110.drop 1).map encI_i64) tSl120 wants_none h.1 ⟨_,rfl⟩ (List.length_map ..).symm hc174 (Nat.le_of_eq (List.length_map ..).symm) slL_hi rfl (aops_nil ⟨rfl,rfl⟩)) rfl (vs 2 rfl .nil)))))))) (by kernel_rfl) ?_
     exact jX ((l110.drop 1),l111,(l113++([x171]:List Int))) h (gr [0,2] rfl (hB rfl rfl rfl (hR rfl rfl .nil)) rfl)
    obtain⟨x175,hx176,h⟩:=bind_some h
    refine ck h (fun hc177 h=>?_)
    refine ck h (fun hc178 h=>?_)
    refine awp_ghost ghost_res ?_
    refine fa ?_
    refine dr mixed (vs 2 rfl (iD hx176 rfl rfl rfl (vs 1 rfl (xD (OD.mk [(101,(iV x175))] [] [(102,(V.lst 1 (([x175]:List Int).map encI_i64)))] []) ⟨⟨rfl,trivial⟩,trivial⟩ (by exact fun S hn h hh=>aops_buildSlice_imm [(0,(iV x175))] [[(iV x175)]] tEl120 tZ3 wants_none rfl rfl rfl rfl (evp_cons h.1 evp_nil) rfl rfl (by simp) (imms_rows (.cons (.cons (Imm.con _) .nil) .nil)) rfl (aops_nil ⟨rfl,rfl⟩)) rfl (xD (OD.mk [(98,(V.own 1 l113.length)),(102,(V.lst 1 (([x175]:List Int).map encI_i64)))] [(1,(Ob.arr 3 1 (l113.map encI_i64))),(2,Ob.res)] [(103,(V.own 2 (l113++([x175]:List Int)).length))] [(2,(Ob.arr 3 1 ((l113++([x175]:List Int)).map encI_i64))),(1,Ob.dead)]) ⟨⟨rfl,rfl,trivial⟩,⟨rfl,rfl,trivial⟩⟩ (by exact fun S hn h hh=>aops_append_at 2 rfl hn hh.2.1 (([x175]:List Int).map encI_i64) ((l113++([x175]:List Int)).map encI_i64) tEl120 tIsSl120 rfl rfl wants_none h.1 hh.1 (by simp) h.2.1 (.lst (rows_one one_encI_i64)) (map_snoc encI_i64 l113 ([x175]:List Int)) (List.length_map ..) hc177 rfl (aops_nil ⟨rfl,rfl⟩)) rfl (vs 1 rfl (xD (OD.mk [(104,(V.lst 1 (l111.map encI_i64)))] [] [(105,(V.lst 1 ((l111.drop 1).map encI_i64)))] []) ⟨⟨rfl,trivial⟩,trivial⟩ (by exact fun S hn h hh=>aops_slice_lst (1) (l111.length) ((l111.drop 1).map encI_i64) tSl120 wants_none h.1 ⟨_,rfl⟩ (List.length_map ..).symm hc178 (Nat.le_of_eq (List.length_map ..).symm) slL_hi rfl (aops_nil ⟨rfl,rfl⟩)) rfl (vs 2 rfl .nil)))))))) (by kernel_rfl) ?_
    exact jX (l110,(l111.drop 1),(l113++([x175]:List Int))) h (gr [0,2] rfl (hB rfl rfl rfl (hR rfl rfl .nil)) rfl)
   rintro⟨l167,l168,l169⟩ h
   refine rn 1 rfl ?_
   exact jX (l167,l168,b112,l169) h (gr [0,1] rfl (hB rfl rfl rfl (hR rfl rfl .nil)) rfl)
  refine rn 1 rfl ?_
  refine ln rfl rfl ?_
  refine rn 3 rfl ?_
  refine spC h rfl (fun hb179 h=>?_) (fun hb179 h=>?_)
  ·refine rn 4 rfl ?_
   refine dr mixed (vs 1 rfl (nD rfl rfl rfl (vs 1 rfl (vb hb114 rfl (vs 19 rfl .nil))))) (by kernel_rfl) ?_
   refine rn 3 rfl ?_
   refine bs h (fun hb180 h=>?_) (fun hb180 h=>?_)
   ·refine dr mixed (vs 1 rfl (nD rfl rfl rfl (vs 1 rfl (vb hb180 rfl (vs 19 rfl .nil))))) (by kernel_rfl) ?_
    obtain⟨x181,hx182,h⟩:=bind_some h
    refine rn 1 rfl ?_
    refine ck h (fun hc183 h=>?_)
    refine ck h (fun hc184 h=>?_)
    refine awp_ghost ghost_res ?_
    refine fa ?_
    refine dr mixed (vs 2 rfl (iD hx182 rfl rfl rfl (vs 1 rfl (xD (OD.mk [(93,(iV x181))] [] [(94,(V.lst 1 (([x181]:List Int).map encI_i64)))] []) ⟨⟨rfl,trivial⟩,trivial⟩ (by exact fun S hn h hh=>aops_buildSlice_imm [(0,(iV x181))] [[(iV x181)]] tEl120 tZ3 wants_none rfl rfl rfl rfl (evp_cons h.1 evp_nil) rfl rfl (by simp) (imms_rows (.cons (.cons (Imm.con _) .nil) .nil)) rfl (aops_nil ⟨rfl,rfl⟩)) rfl (xD (OD.mk [(90,(V.own 1 l113.length)),(94,(V.lst 1 (([x181]:List Int).map encI_i64)))] [(1,(Ob.arr 3 1 (l113.map encI_i64))),(2,Ob.res)] [(95,(V.own 2 (l113++([x181]:List Int)).length))] [(2,(Ob.arr 3 1 ((l113++([x181]:List Int)).map encI_i64))),(1,Ob.dead)]) ⟨⟨rfl,rfl,trivial⟩,⟨rfl,rfl,trivial⟩⟩ (by exact fun S hn h hh=>aops_append_at 2 rfl hn hh.2.1 (([x181]:List Int).map encI_i64) ((l113++([x181]:List Int)).map encI_i64) tEl120 tIsSl120 rfl rfl wants_none h.1 hh.1 (by simp) h.2.1 (.lst (rows_one one_encI_i64)) (map_snoc encI_i64 l113 ([x181]:List Int)) (List.length_map ..) hc183 rfl (aops_nil ⟨rfl,rfl⟩)) rfl (vs 1 rfl (xD (OD.mk [(96,(V.lst 1 (l110.map encI_i64)))] [] [(97,(V.lst 1 ((l110.drop 1).map encI_i64)))] []) ⟨⟨rfl,trivial⟩,trivial⟩ (by exact fun S hn h hh=>aops_slice_lst (1) (l110.length) ((l110.drop 1).map encI_i64) tSl120 wants_none h.1 ⟨_,rfl⟩ (List.length_map ..).symm hc184 (Nat.le_of_eq (List.length_map ..).symm) slL_hi rfl (aops_nil ⟨rfl,rfl⟩)) rfl (vs 2 rfl .nil)))))))) (by kernel_rfl) ?_
    refine rn 1 rfl ?_
    exact jX ((l110.drop 1),l111,b112,(l113++([x181]:List Int))) h (gr [0,2] rfl (hB rfl rfl rfl (hR rfl rfl .nil)) rfl)
   refine dr mixed (vs 1 rfl (nD rfl rfl rfl (vs 1 rfl (vb hb180 rfl (vs 1 rfl (nD rfl rfl rfl (vs 1 rfl (vb hb114 rfl (vs 15 rfl .nil))))))))) (by kernel_rfl) ?_
   obtain⟨x185,hx186,h⟩:=bind_some h
   refine rn 1 rfl ?_
   refine ck h (fun hc187 h=>?_)
   refine ck h (fun hc188 h=>?_)
   refine awp_ghost ghost_res ?_
   refine fa ?_
   refine dr mixed (vs 2 rfl (iD hx186 rfl rfl rfl (vs 1 rfl (xD (OD.mk [(101,(iV x185))] [] [(102,(V.lst 1 (([x185]:List Int).map encI_i64)))] []) ⟨⟨rfl,trivial⟩,trivial⟩ (by exact fun S hn h hh=>aops_buildSlice_imm [(0,(iV x185))] [[(iV x185)]] tEl120 tZ3 wants_none rfl rfl rfl rfl (evp_cons h.1 evp_nil) rfl rfl (by simp) (imms_rows (.cons (.cons (Imm.con _) .nil) .nil)) rfl (aops_nil ⟨rfl,rfl⟩)) rfl (xD (OD.mk [(98,(V.own 1 l113.length)),(102,(V.lst 1 (([x185]:List Int).map encI_i64)))] [(1,(Ob.arr 3 1 (l113.map encI_i64))),(2,Ob.res)] [(103,(V.own 2 (l113++([x185]:List Int)).length))] [(2,(Ob.arr 3 1 ((l113++([x185]:List Int)).map encI_i64))),(1,Ob.dead)]) ⟨⟨rfl,rfl,trivial⟩,⟨rfl,rfl,trivial⟩⟩ (by exact fun S hn h hh=>aops_append_at 2 rfl hn hh.2.1 (([x185]:List Int).map encI_i64) ((l113++([x185]:List Int)).map encI_i64) tEl120 tIsSl120 rfl rfl wants_none h.1 hh.1 (by simp) h.2.1 (.lst (rows_one one_encI_i64)) (map_snoc encI_i64 l113 ([x185]:List Int)) (List.length_map ..) hc187 rfl (aops_nil ⟨rfl,rfl⟩)) rfl (vs 1 rfl (xD (OD.mk [(104,(V.lst 1 (l111.map encI_i64)))] [] [(105,(V.lst 1 ((l111.drop 1).map encI_i64)))] []) ⟨⟨rfl,trivial⟩,trivial⟩ (by exact fun S hn h hh=>aops_slice_lst (1) (l111.length) ((l111.drop 1).map encI_i64) tSl120 wants_none h.1 ⟨_,rfl⟩ (List.length_map ..).symm hc188 (Nat.le_of_eq (List.length_map ..).symm) slL_hi rfl (aops_nil ⟨rfl,rfl⟩)) rfl (vs 2 rfl .nil)))))))) (by kernel_rfl) ?_
   refine rn 1 rfl ?_
   exact jX (l110,(l111.drop 1),b112,(l113++([x185]:List Int))) h (gr [0,2] rfl (hB rfl rfl rfl (hR rfl rfl .nil)) rfl)
  refine rn 1 rfl ?_
  exact jX (b112,l113) h (gr [0,1] rfl (hB rfl rfl rfl (hR rfl rfl .nil)) rfl)
 rintro⟨b104,l105⟩ h
 refine rn 5 rfl ?_
 replace h:=Option.some.inj h
 subst h
 exact wR ⟨.inl rfl,[(8,(V.own 1 l105.length))],(gr [0,1] rfl (hB rfl rfl rfl (hR rfl rfl .nil)) rfl),(.cons (.tmp rfl) .nil)⟩
theorem W94:∀(F:Nat) (a1:(List (List UInt8))) (a2:Int) (a3:Int) (a4:Tprovenderref6_reader) (r:(Bool×(List Int))) (h:M94 F a1 a2 a3 a4=some r),MutG (gl mx) Tryz.prog 94 [(V.ptr 0 6 0 0),(V.lst 1 (a1.map encS)),(iV a2),(iV a3)] 1 [(0,(Ob.arr 48 6 [(encTprovenderref6_reader a4)]))] (resV [(V.own 1 (r.2).length)]) 2 [(0,(Ob.arr 48 6 [[(V.lst 2 (a4.g.Ifaces.map encTIface)),(V.lst 2 (a4.g.Types.map encTType)),(V.lst 4 (a4.g.Funcs.map encTFunc)),(V.lst 1 (a4.g.Entries.map encS)),(sV a4.inside),(bV (r.1))]])),(1,(Ob.arr 3 1 ((r.2).map encI_i64)))]:=by
 intro F
 induction F with
 |zero=>intros;simp[M94] at *
 |succ F ih=>exact fun a1 a2 a3 a4 r h=>W94_B (M94 F) ih F a1 a2 a3 a4 r h
theorem W64(F:Nat)(a1:(List (List UInt8)))(a2:Tprovenderref6_reader)(r:(Bool×(List Int)))(h:M64 F a1 a2=some r):MutG (gl mx) Tryz.prog 64 [(V.ptr 0 6 0 0),(V.lst 1 (a1.map encS))] 1 [(0,(Ob.arr 48 6 [(encTprovenderref6_reader a2)]))] (resV [(V.own 1 (r.2).length)]) 2 [(0,(Ob.arr 48 6 [[(V.lst 2 (a2.g.Ifaces.map encTIface)),(V.lst 2 (a2.g.Types.map encTType)),(V.lst 4 (a2.g.Funcs.map encTFunc)),(V.lst 1 (a2.g.Entries.map encS)),(sV a2.inside),(bV (r.1))]])),(1,(Ob.arr 3 1 ((r.2).map encI_i64)))]:=by
 refine mut_enter Tryz.func64 rfl rfl (l:=[.tmp 4]) rfl rfl [(0,(V.ptr 0 6 0 0)),(1,(V.lst 1 (a1.map encS)))] rfl (fun w0 m0 β0 hg=>en ?_)
 unfold M64 at h
 refine rn 8 rfl ?_
 refine ln rfl rfl ?_
 refine rn 2 rfl ?_
 refine spC h rfl (fun hb8 h=>?_) (fun hb8 h=>?_)
 ·refine rn 4 rfl ?_
  replace h:=Option.some.inj h
  subst h
  exact wR ⟨.inl rfl,[(4,(V.own 1 ([]:List Int).length))],(Ghost.trans (ghost_nilE 4 3 1 rfl) (ghost_ren 2 (fun i=>([0,1]:List Nat).getD i 0) _ _ (by decide) (EnvSub.get (.cons (Sub.ownE rfl rfl (by simp)) .nil)) (HpSub.get (.cons rfl (ObSub.box (.cons (Sub.imm (Imm.lst _ _)) (.cons (Sub.imm (Imm.lst _ _)) (.cons (Sub.imm (Imm.lst _ _)) (.cons (Sub.imm (Imm.lst _ _)) (.cons (Sub.imm (Imm.con _)) (.cons (Sub.imm (Imm.con _)) .nil))))))) (.cons rfl (ObSub.rows (rows_imm imms_encI_i64)) .nil))) rfl)),(.cons (.tmp rfl) .nil)⟩
 refine rn 6 rfl ?_
 refine ln rfl rfl ?_
 obtain⟨y9,hx10,h⟩:=bind_some h
 refine aops_mcallS (V.own 1 (y9.2).length) [(V.ptr 0 6 0 0),(V.lst 1 (a1.map encS)),(iV 0),(iV ((a1.length:Nat):Int))] (fun i=>([0]:List Nat).getD i 0) (fun i=>([0,1]:List Nat).getD i 0) 1 2 [(0,(Ob.arr 48 6 [[(V.lst 2 (a2.g.Ifaces.map encTIface)),(V.lst 2 (a2.g.Types.map encTType)),(V.lst 4 (a2.g.Funcs.map encTFunc)),(V.lst 1 (a2.g.Entries.map encS)),(sV a2.inside),(bV (y9.1))]])),(1,(Ob.arr 3 1 ((y9.2).map encI_i64)))] fOk94 wants_none rfl (evm_cons rfl (evm_cons rfl (evm_cons rfl (evm_cons rfl evm_nil)))) (.cons (Sub.ptr rfl rfl) (.cons (Sub.imm (Imm.lst _ _)) (.cons (Sub.imm (Imm.con _)) (.cons (Sub.imm (Imm.con _)) .nil)))) (.cons rfl (ObSub.box (.cons (Sub.imm (Imm.lst _ _)) (.cons (Sub.imm (Imm.lst _ _)) (.cons (Sub.imm (Imm.lst _ _)) (.cons (Sub.imm (Imm.lst _ _)) (.cons (Sub.imm (Imm.con _)) (.cons (Sub.imm (Imm.con _)) .nil))))))) .nil) (W94 F a1 0 ((a1.length:Nat):Int) a2 y9 hx10) rfl rfl rfl rfl (Sub.ownT rfl rfl) (.cons rfl (ObSub.box (.cons (Sub.immT (Imm.lst _ _)) (.cons (Sub.immT (Imm.lst _ _)) (.cons (Sub.immT (Imm.lst _ _)) (.cons (Sub.immT (Imm.lst _ _)) (.cons (Sub.immT (Imm.con _)) (.cons (Sub.immT (Imm.con _)) .nil))))))) (.cons rfl (ObSub.rowsT (rows_imm imms_encI_i64)) .nil)) _ rfl ?_
 refine fo (rn 2 rfl ?_)
 replace h:=Option.some.inj h
 subst h
 exact wR ⟨.inl rfl,[(4,(V.own 1 (y9.2).length))],(gr [0,1] rfl (hB rfl rfl rfl (hR rfl rfl .nil)) rfl),(.cons (.tmp rfl) .nil)⟩
theorem W18(F:Nat)(a1:Tprovenderref6_reader)(r:(Bool×(List TIface)))(h:M18 F a1=some r):MutG (gl mx) Tryz.prog 18 [(V.ptr 0 6 0 0)] 1 [(0,(Ob.arr 48 6 [(encTprovenderref6_reader a1)]))] (resV [(V.own 1 (r.2).length)]) 2 [(0,(Ob.arr 48 6 [[(V.lst 2 (a1.g.Ifaces.map encTIface)),(V.lst 2 (a1.g.Types.map encTType)),(V.lst 4 (a1.g.Funcs.map encTFunc)),(V.lst 1 (a1.g.Entries.map encS)),(sV a1.inside),(bV (r.1))]])),(1,(Ob.arr 56 2 ((r.2).map encTIface)))]:=by
 refine mut_enter Tryz.func18 rfl rfl (l:=[.tmp 2]) rfl rfl [(0,(V.ptr 0 6 0 0))] rfl (fun w0 m0 β0 hg=>en ?_)
 unfold M18 at h
 refine rn 16 rfl ?_
 refine ln rfl rfl ?_
 refine rn 2 rfl ?_
 refine jK h (fun(p:(List (List UInt8)))=>(⟨[(0,(V.ptr 0 6 0 0)),(3,(V.own 1 p.length))],[(0,(Ob.arr 48 6 [(encTprovenderref6_reader a1)])),(1,(Ob.arr 9 1 (p.map encS)))],2⟩:St)) (fun k30 p=>k30 p=some r) (fun k30 h=>?_) ?_
 ·refine rn 1 rfl ?_
  refine wl (A:=a1.g.Ifaces) 13 rfl (fun hA40=>?_)
  refine lC (fun(p:Int×(List (List UInt8)))=>(⟨[(0,(V.ptr 0 6 0 0)),(3,(V.own 1 (p.2).length)),(13,(V.lst 2 (a1.g.Ifaces.map encTIface))),(14,(iV ((a1.g.Ifaces.length:Nat):Int))),(15,(iV (p.1)))],[(0,(Ob.arr 48 6 [(encTprovenderref6_reader a1)])),(1,(Ob.arr 9 1 ((p.2).map encS)))],2⟩:St)) (fun n p=>RG a1.g.Ifaces (fun tl nn=>M18_L1 F k30 tl p.2=some r) n p.1) (fun p h=>RG.zero h) (a1.g.Ifaces.length+1) (0,([]:List (List UInt8))) (RG.start h) (Ghost.trans (ghost_nilE 3 9 1 rfl) (ghost_ren 2 (fun i=>([0,1]:List Nat).getD i 0) _ _ (by decide) (EnvSub.get (.cons (Sub.ptr rfl rfl) (.cons (Sub.ownE rfl rfl (by simp)) (.cons (Sub.imm (Imm.lst _ _)) (.cons (Sub.imm (Imm.con _)) (.cons (Sub.imm (Imm.con _)) .nil)))))) (HpSub.get (.cons rfl (ObSub.box (.cons (Sub.imm (Imm.lst _ _)) (.cons (Sub.imm (Imm.lst _ _)) (.cons (Sub.imm (Imm.lst _ _)) (.cons (Sub.imm (Imm.lst _ _)) (.cons (Sub.imm (Imm.con _)) (.cons (Sub.imm (Imm.con _)) .nil))))))) (.cons rfl (ObSub.rows (rows_imm imms_encS)) .nil))) rfl)) (fun n p h=>?_)
  obtain⟨n34,l35⟩:=p
  refine rn 5 rfl ?_
  refine spL rfl (fun hb36=>?_) (fun hb36=>?_)
  ·obtain⟨x37,tl,hx38,h,hk1⟩:=RG.t hA40 h hb36
   unfold M18_L1 at h
   refine rn 5 rfl ?_
   refine ixh hx38 rfl rfl ?_
   refine rn 8 rfl ?_
   refine aops_buildSlice [(0,(sV x37.Name))] [[(sV x37.Name)]] tEl25 tZ9 rfl rfl rfl rfl wants_none (evp_cons rfl evp_nil) rfl rfl (by simp) rfl ?_
   refine fo ?_
   refine apO encS h rfl rfl rfl rfl rfl rfl rfl rfl (fun h=>?_)
   refine rn 7 rfl ?_
   exact jX ((w64 (n34+1)),(l35++([x37.Name]:List (List UInt8)))) (hk1 _ h) (gr [0,4] rfl (hB rfl rfl rfl (hR rfl rfl .nil)) rfl)
  replace h:=RG.f h hb36
  unfold M18_L1 at h
  refine rn 1 rfl ?_
  exact jX l35 h (gr [0,1] rfl (hB rfl rfl rfl (hR rfl rfl .nil)) rfl)
 intro l31 h
 obtain⟨y41,hx42,h⟩:=bind_some h
 refine rn 9 rfl ?_
 refine aops_ghost (ghost_frzEs 1 [26,3] rfl (rows_imm imms_encS) (List.forall_mem_cons.2 ⟨rfl,(List.forall_mem_cons.2 ⟨rfl,(fun _ hx=>nomatch hx)⟩)⟩) (List.length_map ..).symm) ?_
 refine aops_mcallS (V.own 2 (y41.2).length) [(V.ptr 0 6 0 0),(V.lst 1 (l31.map encS))] (fun i=>([0]:List Nat).getD i 0) (fun i=>([0,2]:List Nat).getD i 0) 2 3 [(0,(Ob.arr 48 6 [[(V.lst 2 (a1.g.Ifaces.map encTIface)),(V.lst 2 (a1.g.Types.map encTType)),(V.lst 4 (a1.g.Funcs.map encTFunc)),(V.lst 1 (a1.g.Entries.map encS)),(sV a1.inside),(bV (y41.1))]])),(2,(Ob.arr 3 1 ((y41.2).map encI_i64)))] fOk64 wants_none rfl (evm_cons rfl (evm_cons rfl evm_nil)) (.cons (Sub.ptr rfl rfl) (.cons (Sub.imm (Imm.lst _ _)) .nil)) (.cons rfl (ObSub.box (.cons (Sub.imm (Imm.lst _ _)) (.cons (Sub.imm (Imm.lst _ _)) (.cons (Sub.imm (Imm.lst _ _)) (.cons (Sub.imm (Imm.lst _ _)) (.cons (Sub.imm (Imm.con _)) (.cons (Sub.imm (Imm.con _)) .nil))))))) .nil) (W64 F l31 a1 y41 hx42) rfl rfl rfl rfl (Sub.ownT rfl rfl) (.cons rfl (ObSub.box (.cons (Sub.immT (Imm.lst _ _)) (.cons (Sub.immT (Imm.lst _ _)) (.cons (Sub.immT (Imm.lst _ _)) (.cons (Sub.immT (Imm.lst _ _)) (.cons (Sub.immT (Imm.con _)) (.cons (Sub.immT (Imm.con _)) .nil))))))) (.cons rfl (ObSub.rowsT (rows_imm imms_encI_i64)) .nil)) _ rfl ?_
 refine fo (rn 3 rfl ?_)
 refine jK h (fun(p:(List TIface))=>(⟨[(6,(V.own 1 p.length))],[(0,(Ob.arr 48 6 [[(V.lst 2 (a1.g.Ifaces.map encTIface)),(V.lst 2 (a1.g.Types.map encTType)),(V.lst 4 (a1.g.Funcs.map encTFunc)),(V.lst 1 (a1.g.Entries.map encS)),(sV a1.inside),(bV (y41.1))]])),(1,(Ob.arr 56 2 (p.map encTIface)))],2⟩:St)) (fun k43 p=>k43 p=some r) (fun k43 h=>?_) ?_
 ·refine rn 1 rfl ?_
  refine wlO (A:=(y41.2)) 2 rfl (fun hA55=>?_)
  refine lC (fun(p:Int×(List TIface))=>(⟨[(0,(V.ptr 0 6 0 0)),(6,(V.own 1 (p.2).length)),(27,(V.own 2 (y41.2).length)),(28,(iV (((y41.2).length:Nat):Int))),(29,(iV (p.1)))],[(0,(Ob.arr 48 6 [[(V.lst 2 (a1.g.Ifaces.map encTIface)),(V.lst 2 (a1.g.Types.map encTType)),(V.lst 4 (a1.g.Funcs.map encTFunc)),(V.lst 1 (a1.g.Entries.map encS)),(sV a1.inside),(bV (y41.1))]])),(1,(Ob.arr 56 2 ((p.2).map encTIface))),(2,(Ob.arr 3 1 ((y41.2).map encI_i64)))],3⟩:St)) (fun n p=>RG (y41.2) (fun tl nn=>M18_L2 F a1 k43 tl p.2=some r) n p.1) (fun p h=>RG.zero h) ((y41.2).length+1) (0,([]:List TIface)) (RG.start h) (Ghost.trans (ghost_nilE 6 56 2 rfl) (ghost_ren 3 (fun i=>([0,3,2]:List Nat).getD i 0) _ _ (by decide) (EnvSub.get (.cons (Sub.ptr rfl rfl) (.cons (Sub.ownE rfl rfl (by simp)) (.cons (Sub.own rfl rfl) (.cons (Sub.imm (Imm.con _)) (.cons (Sub.imm (Imm.con _)) .nil)))))) (HpSub.get (.cons rfl (ObSub.box (.cons (Sub.imm (Imm.lst _ _)) (.cons (Sub.imm (Imm.lst _ _)) (.cons (Sub.imm (Imm.lst _ _)) (.cons (Sub.imm (Imm.lst _ _)) (.cons (Sub.imm (Imm.con _)) (.cons (Sub.imm (Imm.con _)) .nil))))))) (.cons rfl (ObSub.rows (rows_imm imms_encTIface)) (.cons rfl (ObSub.rows (rows_imm imms_encI_i64)) .nil)))) rfl)) (fun n p h=>?_)
  obtain⟨n47,l48⟩:=p
  refine rn 5 rfl ?_
  refine spL rfl (fun hb49=>?_) (fun hb49=>?_)
  ·obtain⟨x50,tl,hx51,h,hk2⟩:=RG.t hA55 h hb49
   unfold M18_L2 at h
   refine rn 5 rfl ?_
   refine ixoh (a:=(y41.2)) hx51 rfl rfl rfl ?_
   refine ldp hx51 rfl rfl rfl rfl ?_
   refine rn 10 rfl ?_
   refine ixl h rfl rfl (fun x52 hx53 h=>?_)
   refine rn 1 rfl ?_
   refine aops_buildSlice [(0,(V.agg (encTIface x52)))] [(encTIface x52)] tEl22 tZ56 rfl rfl rfl rfl wants_none (evp_cons rfl evp_nil) rfl rfl (by simp) rfl ?_
   refine fo ?_
   refine apO encTIface h rfl rfl rfl rfl rfl rfl rfl rfl (fun h=>?_)
   refine rn 7 rfl ?_
   exact jX ((w64 (n47+1)),(l48++([x52]:List TIface))) (hk2 _ h) (gr [0,4,2] rfl (hB rfl rfl rfl (hR rfl rfl (hR rfl rfl .nil))) rfl)
  replace h:=RG.f h hb49
  unfold M18_L2 at h
  refine rn 1 rfl ?_
  exact jX l48 h (gr [0,1] rfl (hB rfl rfl rfl (hR rfl rfl .nil)) rfl)
 intro l44 h
 refine rn 5 rfl ?_
 replace h:=Option.some.inj h
 subst h
 exact wR ⟨.inl rfl,[(2,(V.own 1 l44.length))],(gr [0,1] rfl (hB rfl rfl rfl (hR rfl rfl .nil)) rfl),(.cons (.tmp rfl) .nil)⟩
theorem W19(F:Nat)(a1:Tprovenderref6_reader)(r:(Bool×(List TType)))(h:M19 F a1=some r):MutG (gl mx) Tryz.prog 19 [(V.ptr 0 6 0 0)] 1 [(0,(Ob.arr 48 6 [(encTprovenderref6_reader a1)]))] (resV [(V.own 1 (r.2).length)]) 2 [(0,(Ob.arr 48 6 [[(V.lst 2 (a1.g.Ifaces.map encTIface)),(V.lst 2 (a1.g.Types.map encTType)),(V.lst 4 (a1.g.Funcs.map encTFunc)),(V.lst 1 (a1.g.Entries.map encS)),(sV a1.inside),(bV (r.1))]])),(1,(Ob.arr 61 2 ((r.2).map encTType)))]:=by
 refine mut_enter Tryz.func19 rfl rfl (l:=[.tmp 2]) rfl rfl [(0,(V.ptr 0 6 0 0))] rfl (fun w0 m0 β0 hg=>en ?_)
 unfold M19 at h
 refine rn 16 rfl ?_
 refine ln rfl rfl ?_
 refine rn 2 rfl ?_
 refine jK h (fun(p:(List (List UInt8)))=>(⟨[(0,(V.ptr 0 6 0 0)),(3,(V.own 1 p.length))],[(0,(Ob.arr 48 6 [(encTprovenderref6_reader a1)])),(1,(Ob.arr 9 1 (p.map encS)))],2⟩:St)) (fun k62 p=>k62 p=some r) (fun k62 h=>?_) ?_
 ·refine rn 1 rfl ?_
  refine wl (A:=a1.g.Types) 20 rfl (fun hA72=>?_)
  refine lC (fun(p:Int×(List (List UInt8)))=>(⟨[(0,(V.ptr 0 6 0 0)),(3,(V.own 1 (p.2).length)),(20,(V.lst 2 (a1.g.Types.map encTType))),(21,(iV ((a1.g.Types.length:Nat):Int))),(22,(iV (p.1)))],[(0,(Ob.arr 48 6 [(encTprovenderref6_reader a1)])),(1,(Ob.arr 9 1 ((p.2).map encS)))],2⟩:St)) (fun n p=>RG a1.g.Types (fun tl nn=>M19_L1 F k62 tl p.2=some r) n p.1) (fun p h=>RG.zero h) (a1.g.Types.length+1) (0,([]:List (List UInt8))) (RG.start h) (Ghost.trans (ghost_nilE 3 9 1 rfl) (ghost_ren 2 (fun i=>([0,1]:List Nat).getD i 0) _ _ (by decide) (EnvSub.get (.cons (Sub.ptr rfl rfl) (.cons (Sub.ownE rfl rfl (by simp)) (.cons (Sub.imm (Imm.lst _ _)) (.cons (Sub.imm (Imm.con _)) (.cons (Sub.imm (Imm.con _)) .nil)))))) (HpSub.get (.cons rfl (ObSub.box (.cons (Sub.imm (Imm.lst _ _)) (.cons (Sub.imm (Imm.lst _ _)) (.cons (Sub.imm (Imm.lst _ _)) (.cons (Sub.imm (Imm.lst _ _)) (.cons (Sub.imm (Imm.con _)) (.cons (Sub.imm (Imm.con _)) .nil))))))) (.cons rfl (ObSub.rows (rows_imm imms_encS)) .nil))) rfl)) (fun n p h=>?_)
  obtain⟨n66,l67⟩:=p
  refine rn 5 rfl ?_
  refine spL rfl (fun hb68=>?_) (fun hb68=>?_)
  ·obtain⟨x69,tl,hx70,h,hk1⟩:=RG.t hA72 h hb68
   unfold M19_L1 at h
   refine rn 5 rfl ?_
   refine ixh hx70 rfl rfl ?_
   refine rn 8 rfl ?_
   refine aops_buildSlice [(0,(sV x69.Name))] [[(sV x69.Name)]] tEl25 tZ9 rfl rfl rfl rfl wants_none (evp_cons rfl evp_nil) rfl rfl (by simp) rfl ?_
   refine fo ?_
   refine apO encS h rfl rfl rfl rfl rfl rfl rfl rfl (fun h=>?_)
   refine rn 7 rfl ?_
   exact jX ((w64 (n66+1)),(l67++([x69.Name]:List (List UInt8)))) (hk1 _ h) (gr [0,4] rfl (hB rfl rfl rfl (hR rfl rfl .nil)) rfl)
  replace h:=RG.f h hb68
  unfold M19_L1 at h
  refine rn 1 rfl ?_
  exact jX l67 h (gr [0,1] rfl (hB rfl rfl rfl (hR rfl rfl .nil)) rfl)
 intro l63 h
 obtain⟨y73,hx74,h⟩:=bind_some h
 refine rn 9 rfl ?_
 refine aops_ghost (ghost_frzEs 1 [33,3] rfl (rows_imm imms_encS) (List.forall_mem_cons.2 ⟨rfl,(List.forall_mem_cons.2 ⟨rfl,(fun _ hx=>nomatch hx)⟩)⟩) (List.length_map ..).symm) ?_
 refine aops_mcallS (V.own 2 (y73.2).length) [(V.ptr 0 6 0 0),(V.lst 1 (l63.map encS))] (fun i=>([0]:List Nat).getD i 0) (fun i=>([0,2]:List Nat).getD i 0) 2 3 [(0,(Ob.arr 48 6 [[(V.lst 2 (a1.g.Ifaces.map encTIface)),(V.lst 2 (a1.g.Types.map encTType)),(V.lst 4 (a1.g.Funcs.map encTFunc)),(V.lst 1 (a1.g.Entries.map encS)),(sV a1.inside),(bV (y73.1))]])),(2,(Ob.arr 3 1 ((y73.2).map encI_i64)))] fOk64 wants_none rfl (evm_cons rfl (evm_cons rfl evm_nil)) (.cons (Sub.ptr rfl rfl) (.cons (Sub.imm (Imm.lst _ _)) .nil)) (.cons rfl (ObSub.box (.cons (Sub.imm (Imm.lst _ _)) (.cons (Sub.imm (Imm.lst _ _)) (.cons (Sub.imm (Imm.lst _ _)) (.cons (Sub.imm (Imm.lst _ _)) (.cons (Sub.imm (Imm.con _)) (.cons (Sub.imm (Imm.con _)) .nil))))))) .nil) (W64 F l63 a1 y73 hx74) rfl rfl rfl rfl (Sub.ownT rfl rfl) (.cons rfl (ObSub.box (.cons (Sub.immT (Imm.lst _ _)) (.cons (Sub.immT (Imm.lst _ _)) (.cons (Sub.immT (Imm.lst _ _)) (.cons (Sub.immT (Imm.lst _ _)) (.cons (Sub.immT (Imm.con _)) (.cons (Sub.immT (Imm.con _)) .nil))))))) (.cons rfl (ObSub.rowsT (rows_imm imms_encI_i64)) .nil)) _ rfl ?_
 refine fo (rn 3 rfl ?_)
 refine jK h (fun(p:Bool×(List TType))=>(⟨[(6,(V.own 1 (p.2).length))],[(0,(Ob.arr 48 6 [[(V.lst 2 (a1.g.Ifaces.map encTIface)),(V.lst 2 (a1.g.Types.map encTType)),(V.lst 4 (a1.g.Funcs.map encTFunc)),(V.lst 1 (a1.g.Entries.map encS)),(sV a1.inside),(bV (p.1))]])),(1,(Ob.arr 61 2 ((p.2).map encTType)))],2⟩:St)) (fun k75 p=>k75 p.1 p.2=some r) (fun k75 h=>?_) ?_
 ·refine rn 1 rfl ?_
  refine wlO (A:=(y73.2)) 2 rfl (fun hA119=>?_)
  refine lC (fun(p:Int×Bool×(List TType))=>(⟨[(0,(V.ptr 0 6 0 0)),(6,(V.own 1 (p.2.2).length)),(34,(V.own 2 (y73.2).length)),(35,(iV (((y73.2).length:Nat):Int))),(36,(iV (p.1)))],[(0,(Ob.arr 48 6 [[(V.lst 2 (a1.g.Ifaces.map encTIface)),(V.lst 2 (a1.g.Types.map encTType)),(V.lst 4 (a1.g.Funcs.map encTFunc)),(V.lst 1 (a1.g.Entries.map encS)),(sV a1.inside),(bV (p.2.1))]])),(1,(Ob.arr 61 2 ((p.2.2).map encTType))),(2,(Ob.arr 3 1 ((y73.2).map encI_i64)))],3⟩:St)) (fun n p=>RG (y73.2) (fun tl nn=>M19_L2 F a1 k75 tl p.2.1 p.2.2=some r) n p.1) (fun p h=>RG.zero h) ((y73.2).length+1) (0,(y73.1),([]:List TType)) (RG.start h) (Ghost.trans (ghost_nilE 6 61 2 rfl) (ghost_ren 3 (fun i=>([0,3,2]:List Nat).getD i 0) _ _ (by decide) (EnvSub.get (.cons (Sub.ptr rfl rfl) (.cons (Sub.ownE rfl rfl (by simp)) (.cons (Sub.own rfl rfl) (.cons (Sub.imm (Imm.con _)) (.cons (Sub.imm (Imm.con _)) .nil)))))) (HpSub.get (.cons rfl (ObSub.box (.cons (Sub.imm (Imm.lst _ _)) (.cons (Sub.imm (Imm.lst _ _)) (.cons (Sub.imm (Imm.lst _ _)) (.cons (Sub.imm (Imm.lst _ _)) (.cons (Sub.imm (Imm.con _)) (.cons (Sub.imm (Imm.con _)) .nil))))))) (.cons rfl (ObSub.rows (rows_imm imms_encTType)) (.cons rfl (ObSub.rows (rows_imm imms_encI_i64)) .nil)))) rfl)) (fun n p h=>?_)
  obtain⟨n81,b82,l83⟩:=p
  refine rn 5 rfl ?_
  refine spL rfl (fun hb84=>?_) (fun hb84=>?_)
  ·obtain⟨x88,tl,hx89,h,hk2⟩:=RG.t hA119 h hb84
   unfold M19_L2 at h
   refine rn 2 rfl ?_
   refine jK h (fun(p:Bool×(List TType))=>(⟨[(0,(V.ptr 0 6 0 0)),(6,(V.own 1 (p.2).length)),(34,(V.own 2 (y73.2).length)),(35,(iV (((y73.2).length:Nat):Int))),(36,(iV n81))],[(0,(Ob.arr 48 6 [[(V.lst 2 (a1.g.Ifaces.map encTIface)),(V.lst 2 (a1.g.Types.map encTType)),(V.lst 4 (a1.g.Funcs.map encTFunc)),(V.lst 1 (a1.g.Entries.map encS)),(sV a1.inside),(bV (p.1))]])),(1,(Ob.arr 61 2 ((p.2).map encTType))),(2,(Ob.arr 3 1 ((y73.2).map encI_i64)))],3⟩:St)) (fun k85 p=>k85 p.1 p.2=some r) (fun k85 h=>?_) ?_
   ·refine rn 3 rfl ?_
    refine ixoh (a:=(y73.2)) hx89 rfl rfl rfl ?_
    refine ldp hx89 rfl rfl rfl rfl ?_
    refine rn 10 rfl ?_
    refine ixl h rfl rfl (fun x90 hx91 h=>?_)
    refine rn 13 rfl ?_
    refine ln rfl rfl ?_
    refine rn 2 rfl ?_
    refine jK h (fun(p:(List (List UInt8)))=>(⟨[(0,(V.ptr 0 6 0 0)),(6,(V.own 1 l83.length)),(9,(V.ptr 2 2 0 0)),(10,(V.own 3 p.length)),(34,(V.own 4 (y73.2).length)),(35,(iV (((y73.2).length:Nat):Int))),(36,(iV n81))],[(0,(Ob.arr 48 6 [[(V.lst 2 (a1.g.Ifaces.map encTIface)),(V.lst 2 (a1.g.Types.map encTType)),(V.lst 4 (a1.g.Funcs.map encTFunc)),(V.lst 1 (a1.g.Entries.map encS)),(sV a1.inside),(bV b82)]])),(1,(Ob.arr 61 2 (l83.map encTType))),(2,(Ob.arr 61 2 [(encTType x90)])),(3,(Ob.arr 9 1 (p.map encS))),(4,(Ob.arr 3 1 ((y73.2).map encI_i64)))],5⟩:St)) (fun k92 p=>k92 p=some r) (fun k92 h=>?_) ?_
    ·refine rn 1 rfl ?_
     refine wl (A:=x90.Methods) 49 rfl (fun hA102=>?_)
     refine lC (fun(p:Int×(List (List UInt8)))=>(⟨[(0,(V.ptr 0 6 0 0)),(6,(V.own 1 l83.length)),(9,(V.ptr 2 2 0 0)),(10,(V.own 3 (p.2).length)),(34,(V.own 4 (y73.2).length)),(35,(iV (((y73.2).length:Nat):Int))),(36,(iV n81)),(49,(V.lst 2 (x90.Methods.map encTMethod))),(50,(iV ((x90.Methods.length:Nat):Int))),(51,(iV (p.1)))],[(0,(Ob.arr 48 6 [[(V.lst 2 (a1.g.Ifaces.map encTIface)),(V.lst 2 (a1.g.Types.map encTType)),(V.lst 4 (a1.g.Funcs.map encTFunc)),(V.lst 1 (a1.g.Entries.map encS)),(sV a1.inside),(bV b82)]])),(1,(Ob.arr 61 2 (l83.map encTType))),(2,(Ob.arr 61 2 [(encTType x90)])),(3,(Ob.arr 9 1 ((p.2).map encS))),(4,(Ob.arr 3 1 ((y73.2).map encI_i64)))],5⟩:St)) (fun n p=>RG x90.Methods (fun tl nn=>M19_L3 F k92 tl p.2=some r) n p.1) (fun p h=>RG.zero h) (x90.Methods.length+1) (0,([]:List (List UInt8))) (RG.start h) (Ghost.trans (ghost_nilE 10 9 1 rfl) (ghost_ren 5 (fun i=>([0,1,3,4,2]:List Nat).getD i 0) _ _ (by decide) (EnvSub.get (.cons (Sub.ptr rfl rfl) (.cons (Sub.own rfl rfl) (.cons (Sub.ptr rfl rfl) (.cons (Sub.ownE rfl rfl (by simp)) (.cons (Sub.own rfl rfl) (.cons (Sub.imm (Imm.con _)) (.cons (Sub.imm (Imm.con _)) (.cons (Sub.imm (Imm.lst _ _)) (.cons (Sub.imm (Imm.con _)) (.cons (Sub.imm (Imm.con _)) .nil))))))))))) (HpSub.get (.cons rfl (ObSub.box (.cons (Sub.imm (Imm.lst _ _)) (.cons (Sub.imm (Imm.lst _ _)) (.cons (Sub.imm (Imm.lst _ _)) (.cons (Sub.imm (Imm.lst _ _)) (.cons (Sub.imm (Imm.con _)) (.cons (Sub.imm (Imm.con _)) .nil))))))) (.cons rfl (ObSub.rows (rows_imm imms_encTType)) (.cons rfl (ObSub.box (.cons (Sub.imm (Imm.con _)) (.cons (Sub.imm (Imm.lst _ _)) .nil))) (.cons rfl (ObSub.rows (rows_imm imms_encS)) (.cons rfl (ObSub.rows (rows_imm imms_encI_i64)) .nil)))))) rfl)) (fun n p h=>?_)
     obtain⟨n96,l97⟩:=p
     refine rn 5 rfl ?_
     refine spL rfl (fun hb98=>?_) (fun hb98=>?_)
     ·obtain⟨x99,tl,hx100,h,hk3⟩:=RG.t hA102 h hb98
      unfold M19_L3 at h
      refine rn 5 rfl ?_
      refine ixh hx100 rfl rfl ?_
      refine rn 8 rfl ?_
      refine aops_buildSlice [(0,(sV x99.Name))] [[(sV x99.Name)]] tEl25 tZ9 rfl rfl rfl rfl wants_none (evp_cons rfl evp_nil) rfl rfl (by simp) rfl ?_
      refine fo ?_
      refine apO encS h rfl rfl rfl rfl rfl rfl rfl rfl (fun h=>?_)
      refine rn 7 rfl ?_
      exact jX ((w64 (n96+1)),(l97++([x99.Name]:List (List UInt8)))) (hk3 _ h) (gr [0,1,2,7,4] rfl (hB rfl rfl rfl (hR rfl rfl (hB rfl rfl rfl (hR rfl rfl (hR rfl rfl .nil))))) rfl)
     replace h:=RG.f h hb98
     unfold M19_L3 at h
     refine rn 1 rfl ?_
     exact jX l97 h (gr [0,1,2,3,4] rfl (hB rfl rfl rfl (hR rfl rfl (hB rfl rfl rfl (hR rfl rfl (hR rfl rfl .nil))))) rfl)
    intro l93 h
    obtain⟨y103,hx104,h⟩:=bind_some h
    refine rn 9 rfl ?_
    refine aops_ghost (ghost_frzEs 3 [62,10] rfl (rows_imm imms_encS) (List.forall_mem_cons.2 ⟨rfl,(List.forall_mem_cons.2 ⟨rfl,(fun _ hx=>nomatch hx)⟩)⟩) (List.length_map ..).symm) ?_
    refine aops_mcallS (V.own 5 (y103.2).length) [(V.ptr 0 6 0 0),(V.lst 1 (l93.map encS))] (fun i=>([0]:List Nat).getD i 0) (fun i=>([0,5]:List Nat).getD i 0) 5 6 [(0,(Ob.arr 48 6 [[(V.lst 2 (a1.g.Ifaces.map encTIface)),(V.lst 2 (a1.g.Types.map encTType)),(V.lst 4 (a1.g.Funcs.map encTFunc)),(V.lst 1 (a1.g.Entries.map encS)),(sV a1.inside),(bV (y103.1))]])),(5,(Ob.arr 3 1 ((y103.2).map encI_i64)))] fOk64 wants_none rfl (evm_cons rfl (evm_cons rfl evm_nil)) (.cons (Sub.ptr rfl rfl) (.cons (Sub.imm (Imm.lst _ _)) .nil)) (.cons rfl (ObSub.box (.cons (Sub.imm (Imm.lst _ _)) (.cons (Sub.imm (Imm.lst _ _)) (.cons (Sub.imm (Imm.lst _ _)) (.cons (Sub.imm (Imm.lst _ _)) (.cons (Sub.imm (Imm.con _)) (.cons (Sub.imm (Imm.con _)) .nil))))))) .nil) (W64 F l93 (Tprovenderref6_reader.mk a1.g a1.inside b82) y103 hx104) rfl rfl rfl rfl (Sub.ownT rfl rfl) (.cons rfl (ObSub.box (.cons (Sub.immT (Imm.lst _ _)) (.cons (Sub.immT (Imm.lst _ _)) (.cons (Sub.immT (Imm.lst _ _)) (.cons (Sub.immT (Imm.lst _ _)) (.cons (Sub.immT (Imm.con _)) (.cons (Sub.immT (Imm.con _)) .nil))))))) (.cons rfl (ObSub.rowsT (rows_imm imms_encI_i64)) .nil)) _ rfl ?_
    refine fo (rn 3 rfl ?_)
    refine jK h (fun(p:(List TMethod))=>(⟨[(0,(V.ptr 0 6 0 0)),(6,(V.own 1 l83.length)),(9,(V.ptr 2 2 0 0)),(13,(V.own 3 p.length)),(34,(V.own 4 (y73.2).length)),(35,(iV (((y73.2).length:Nat):Int))),(36,(iV n81))],[(0,(Ob.arr 48 6 [[(V.lst 2 (a1.g.Ifaces.map encTIface)),(V.lst 2 (a1.g.Types.map encTType)),(V.lst 4 (a1.g.Funcs.map encTFunc)),(V.lst 1 (a1.g.Entries.map encS)),(sV a1.inside),(bV (y103.1))]])),(1,(Ob.arr 61 2 (l83.map encTType))),(2,(Ob.arr 61 2 [(encTType x90)])),(3,(Ob.arr 64 2 (p.map encTMethod))),(4,(Ob.arr 3 1 ((y73.2).map encI_i64)))],5⟩:St)) (fun k105 p=>k105 p=some r) (fun k105 h=>?_) ?_
    ·refine rn 1 rfl ?_
     refine wlO (A:=(y103.2)) 5 rfl (fun hA117=>?_)
     refine lC (fun(p:Int×(List TMethod))=>(⟨[(0,(V.ptr 0 6 0 0)),(6,(V.own 1 l83.length)),(9,(V.ptr 2 2 0 0)),(13,(V.own 3 (p.2).length)),(34,(V.own 4 (y73.2).length)),(35,(iV (((y73.2).length:Nat):Int))),(36,(iV n81)),(63,(V.own 5 (y103.2).length)),(64,(iV (((y103.2).length:Nat):Int))),(65,(iV (p.1)))],[(0,(Ob.arr 48 6 [[(V.lst 2 (a1.g.Ifaces.map encTIface)),(V.lst 2 (a1.g.Types.map encTType)),(V.lst 4 (a1.g.Funcs.map encTFunc)),(V.lst 1 (a1.g.Entries.map encS)),(sV a1.inside),(bV (y103.1))]])),(1,(Ob.arr 61 2 (l83.map encTType))),(2,(Ob.arr 61 2 [(encTType x90)])),(3,(Ob.arr 64 2 ((p.2).map encTMethod))),(4,(Ob.arr 3 1 ((y73.2).map encI_i64))),(5,(Ob.arr 3 1 ((y103.2).map encI_i64)))],6⟩:St)) (fun n p=>RG (y103.2) (fun tl nn=>M19_L4 F x90 k105 tl p.2=some r) n p.1) (fun p h=>RG.zero h) ((y103.2).length+1) (0,([]:List TMethod)) (RG.start h) (Ghost.trans (ghost_nilE 13 64 2 rfl) (ghost_ren 6 (fun i=>([0,1,2,6,4,5]:List Nat).getD i 0) _ _ (by decide) (EnvSub.get (.cons (Sub.ptr rfl rfl) (.cons (Sub.own rfl rfl) (.cons (Sub.ptr rfl rfl) (.cons (Sub.ownE rfl rfl (by simp)) (.cons (Sub.own rfl rfl) (.cons (Sub.imm (Imm.con _)) (.cons (Sub.imm (Imm.con _)) (.cons (Sub.own rfl rfl) (.cons (Sub.imm (Imm.con _)) (.cons (Sub.imm (Imm.con _)) .nil))))))))))) (HpSub.get (.cons rfl (ObSub.box (.cons (Sub.imm (Imm.lst _ _)) (.cons (Sub.imm (Imm.lst _ _)) (.cons (Sub.imm (Imm.lst _ _)) (.cons (Sub.imm (Imm.lst _ _)) (.cons (Sub.imm (Imm.con _)) (.cons (Sub.imm (Imm.con _)) .nil))))))) (.cons rfl (ObSub.rows (rows_imm imms_encTType)) (.cons rfl (ObSub.box (.cons (Sub.imm (Imm.con _)) (.cons (Sub.imm (Imm.lst _ _)) .nil))) (.cons rfl (ObSub.rows (rows_imm imms_encTMethod)) (.cons rfl (ObSub.rows (rows_imm imms_encI_i64)) (.cons rfl (ObSub.rows (rows_imm imms_encI_i64)) .nil))))))) rfl)) (fun n p h=>?_)
     obtain⟨n109,l110⟩:=p
     refine rn 5 rfl ?_
     refine spL rfl (fun hb111=>?_) (fun hb111=>?_)
     ·obtain⟨x112,tl,hx113,h,hk4⟩:=RG.t hA117 h hb111
      unfold M19_L4 at h
      refine rn 5 rfl ?_
      refine ixoh (a:=(y103.2)) hx113 rfl rfl rfl ?_
      refine ldp hx113 rfl rfl rfl rfl ?_
      refine rn 7 rfl ?_
      refine ixl h rfl rfl (fun x114 hx115 h=>?_)
      refine rn 1 rfl ?_
      refine aops_buildSlice [(0,(V.agg (encTMethod x114)))] [(encTMethod x114)] tEl59 tZ64 rfl rfl rfl rfl wants_none (evp_cons rfl evp_nil) rfl rfl (by simp) rfl ?_
      refine fo ?_
      refine apO encTMethod h rfl rfl rfl rfl rfl rfl rfl rfl (fun h=>?_)
      refine rn 7 rfl ?_
      exact jX ((w64 (n109+1)),(l110++([x114]:List TMethod))) (hk4 _ h) (gr [0,1,2,7,4,5] rfl (hB rfl rfl rfl (hR rfl rfl (hB rfl rfl rfl (hR rfl rfl (hR rfl rfl (hR rfl rfl .nil)))))) rfl)
     replace h:=RG.f h hb111
     unfold M19_L4 at h
     refine rn 1 rfl ?_
     exact jX l110 h (gr [0,1,2,3,4] rfl (hB rfl rfl rfl (hR rfl rfl (hB rfl rfl rfl (hR rfl rfl (hR rfl rfl .nil))))) rfl)
    intro l106 h
    refine rn 6 rfl ?_
    refine aops_ghost (ghost_frzV 3 82 (V.agg [(sV x90.Name),(V.lst 2 (l106.map encTMethod))]) rfl (rows_imm imms_encTMethod) rfl (Sub.agg (.cons Sub.keep (.cons (Sub.frzAll (rows:=l106.map encTMethod) (List.length_map ..).symm) .nil)))) ?_
    refine aops_buildSlice [(0,(V.agg [(sV x90.Name),(V.lst 2 (l106.map encTMethod))]))] [[(sV x90.Name),(V.lst 2 (l106.map encTMethod))]] tEl23 tZ61 rfl rfl rfl rfl wants_none (evp_cons rfl evp_nil) rfl rfl (by simp) rfl ?_
    refine fo ?_
    refine apO encTType h rfl rfl rfl rfl rfl rfl rfl rfl (fun h=>?_)
    refine rn 3 rfl ?_
    exact jX ((y103.1),(l83++([(TType.mk x90.Name l106)]:List TType))) h (gr [0,6,4] rfl (hB rfl rfl rfl (hR rfl rfl (hR rfl rfl .nil))) rfl)
   rintro⟨b86,l87⟩ h
   refine rn 4 rfl ?_
   exact jX ((w64 (n81+1)),b86,l87) (hk2 _ h) (gr [0,1,2] rfl (hB rfl rfl rfl (hR rfl rfl (hR rfl rfl .nil))) rfl)
  replace h:=RG.f h hb84
  unfold M19_L2 at h
  refine rn 1 rfl ?_
  exact jX (b82,l83) h (gr [0,1] rfl (hB rfl rfl rfl (hR rfl rfl .nil)) rfl)
 rintro⟨b76,l77⟩ h
 refine rn 5 rfl ?_
 replace h:=Option.some.inj h
 subst h
 exact wR ⟨.inl rfl,[(2,(V.own 1 l77.length))],(gr [0,1] rfl (hB rfl rfl rfl (hR rfl rfl .nil)) rfl),(.cons (.tmp rfl) .nil)⟩
theorem W21(F:Nat)(a1:(List (List UInt8)))(a2:Tprovenderref6_reader)(r:(Bool×(List (List UInt8))))(h:M21 F a1 a2=some r):MutG (gl mx) Tryz.prog 21 [(V.ptr 0 6 0 0),(V.lst 1 (a1.map encS))] 1 [(0,(Ob.arr 48 6 [(encTprovenderref6_reader a2)]))] (resV [(V.own 1 (r.2).length)]) 2 [(0,(Ob.arr 48 6 [[(V.lst 2 (a2.g.Ifaces.map encTIface)),(V.lst 2 (a2.g.Types.map encTType)),(V.lst 4 (a2.g.Funcs.map encTFunc)),(V.lst 1 (a2.g.Entries.map encS)),(sV a2.inside),(bV (r.1))]])),(1,(Ob.arr 9 1 ((r.2).map encS)))]:=by
 refine mut_enter Tryz.func21 rfl rfl (l:=[.tmp 4]) rfl rfl [(0,(V.ptr 0 6 0 0)),(1,(V.lst 1 (a1.map encS)))] rfl (fun w0 m0 β0 hg=>en ?_)
 unfold M21 at h
 obtain⟨y20,hx21,h⟩:=bind_some h
 refine rn 13 rfl ?_
 refine aops_mcallS (V.own 1 (y20.2).length) [(V.ptr 0 6 0 0),(V.lst 1 (a1.map encS))] (fun i=>([0]:List Nat).getD i 0) (fun i=>([0,1]:List Nat).getD i 0) 1 2 [(0,(Ob.arr 48 6 [[(V.lst 2 (a2.g.Ifaces.map encTIface)),(V.lst 2 (a2.g.Types.map encTType)),(V.lst 4 (a2.g.Funcs.map encTFunc)),(V.lst 1 (a2.g.Entries.map encS)),(sV a2.inside),(bV (y20.1))]])),(1,(Ob.arr 3 1 ((y20.2).map encI_i64)))] fOk64 wants_none rfl (evm_cons rfl (evm_cons rfl evm_nil)) (.cons (Sub.ptr rfl rfl) (.cons (Sub.imm (Imm.lst _ _)) .nil)) (.cons rfl (ObSub.box (.cons (Sub.imm (Imm.lst _ _)) (.cons (Sub.imm (Imm.lst _ _)) (.cons (Sub.imm (Imm.lst _ _)) (.cons (Sub.imm (Imm.lst _ _)) (.cons (Sub.imm (Imm.con _)) (.cons (Sub.imm (Imm.con _)) .nil))))))) .nil) (W64 F a1 a2 y20 hx21) rfl rfl rfl rfl (Sub.ownT rfl rfl) (.cons rfl (ObSub.box (.cons (Sub.immT (Imm.lst _ _)) (.cons (Sub.immT (Imm.lst _ _)) (.cons (Sub.immT (Imm.lst _ _)) (.cons (Sub.immT (Imm.lst _ _)) (.cons (Sub.immT (Imm.con _)) (.cons (Sub.immT (Imm.con _)) .nil))))))) (.cons rfl (ObSub.rowsT (rows_imm imms_encI_i64)) .nil)) _ rfl ?_
 refine fo (rn 3 rfl ?_)
 refine jK h (fun(p:(List (List UInt8)))=>(⟨[(5,(V.own 1 p.length))],[(0,(Ob.arr 48 6 [[(V.lst 2 (a2.g.Ifaces.map encTIface)),(V.lst 2 (a2.g.Types.map encTType)),(V.lst 4 (a2.g.Funcs.map encTFunc)),(V.lst 1 (a2.g.Entries.map encS)),(sV a2.inside),(bV (y20.1))]])),(1,(Ob.arr 9 1 (p.map encS)))],2⟩:St)) (fun k22 p=>k22 p=some r) (fun k22 h=>?_) ?_
 ·refine rn 1 rfl ?_
  refine wlO (A:=(y20.2)) 1 rfl (fun hA34=>?_)
  refine lC (fun(p:Int×(List (List UInt8)))=>(⟨[(1,(V.lst 1 (a1.map encS))),(5,(V.own 1 (p.2).length)),(10,(V.own 2 (y20.2).length)),(11,(iV (((y20.2).length:Nat):Int))),(12,(iV (p.1)))],[(0,(Ob.arr 48 6 [[(V.lst 2 (a2.g.Ifaces.map encTIface)),(V.lst 2 (a2.g.Types.map encTType)),(V.lst 4 (a2.g.Funcs.map encTFunc)),(V.lst 1 (a2.g.Entries.map encS)),(sV a2.inside),(bV (y20.1))]])),(1,(Ob.arr 9 1 ((p.2).map encS))),(2,(Ob.arr 3 1 ((y20.2).map encI_i64)))],3⟩:St)) (fun n p=>RG (y20.2) (fun tl nn=>M21_L1 F a1 k22 tl p.2=some r) n p.1) (fun p h=>RG.zero h) ((y20.2).length+1) (0,([]:List (List UInt8))) (RG.start h) (Ghost.trans (ghost_nilE 5 9 1 rfl) (ghost_ren 3 (fun i=>([0,2,1]:List Nat).getD i 0) _ _ (by decide) (EnvSub.get (.cons (Sub.imm (Imm.lst _ _)) (.cons (Sub.ownE rfl rfl (by simp)) (.cons (Sub.own rfl rfl) (.cons (Sub.imm (Imm.con _)) (.cons (Sub.imm (Imm.con _)) .nil)))))) (HpSub.get (.cons rfl (ObSub.box (.cons (Sub.imm (Imm.lst _ _)) (.cons (Sub.imm (Imm.lst _ _)) (.cons (Sub.imm (Imm.lst _ _)) (.cons (Sub.imm (Imm.lst _ _)) (.cons (Sub.imm (Imm.con _)) (.cons (Sub.imm (Imm.con _)) .nil))))))) (.cons rfl (ObSub.rows (rows_imm imms_encS)) (.cons rfl (ObSub.rows (rows_imm imms_encI_i64)) .nil)))) rfl)) (fun n p h=>?_)
  obtain⟨n26,l27⟩:=p
  refine rn 5 rfl ?_
  refine spL rfl (fun hb28=>?_) (fun hb28=>?_)
  ·obtain⟨x29,tl,hx30,h,hk1⟩:=RG.t hA34 h hb28
   unfold M21_L1 at h
   refine rn 5 rfl ?_
   refine ixoh (a:=(y20.2)) hx30 rfl rfl rfl ?_
   refine ldp hx30 rfl rfl rfl rfl ?_
   refine rn 6 rfl ?_
   refine ixl h rfl rfl (fun x31 hx32 h=>?_)
   refine rn 1 rfl ?_
   refine aops_buildSlice [(0,(sV x31))] [[(sV x31)]] tEl25 tZ9 rfl rfl rfl rfl wants_none (evp_cons rfl evp_nil) rfl rfl (by simp) rfl ?_
   refine fo ?_
   refine apO encS h rfl rfl rfl rfl rfl rfl rfl rfl (fun h=>?_)
   refine rn 7 rfl ?_
   exact jX ((w64 (n26+1)),(l27++([x31]:List (List UInt8)))) (hk1 _ h) (gr [0,4,2] rfl (hB rfl rfl rfl (hR rfl rfl (hR rfl rfl .nil))) rfl)
  replace h:=RG.f h hb28
  unfold M21_L1 at h
  refine rn 1 rfl ?_
  exact jX l27 h (gr [0,1] rfl (hB rfl rfl rfl (hR rfl rfl .nil)) rfl)
 intro l23 h
 refine rn 5 rfl ?_
 replace h:=Option.some.inj h
 subst h
 exact wR ⟨.inl rfl,[(4,(V.own 1 l23.length))],(gr [0,1] rfl (hB rfl rfl rfl (hR rfl rfl .nil)) rfl),(.cons (.tmp rfl) .nil)⟩
theorem W20(F:Nat)(a1:Tprovenderref6_reader)(r:(Bool×(List TFunc)))(h:M20 F a1=some r):MutG (gl mx) Tryz.prog 20 [(V.ptr 0 6 0 0)] 1 [(0,(Ob.arr 48 6 [(encTprovenderref6_reader a1)]))] (resV [(V.own 1 (r.2).length)]) 2 [(0,(Ob.arr 48 6 [[(V.lst 2 (a1.g.Ifaces.map encTIface)),(V.lst 2 (a1.g.Types.map encTType)),(V.lst 4 (a1.g.Funcs.map encTFunc)),(V.lst 1 (a1.g.Entries.map encS)),(sV a1.inside),(bV (r.1))]])),(1,(Ob.arr 71 4 ((r.2).map encTFunc)))]:=by
 refine mut_enter Tryz.func20 rfl rfl (l:=[.tmp 2]) rfl rfl [(0,(V.ptr 0 6 0 0))] rfl (fun w0 m0 β0 hg=>en ?_)
 unfold M20 at h
 refine rn 16 rfl ?_
 refine ln rfl rfl ?_
 refine rn 2 rfl ?_
 refine jK h (fun(p:(List (List UInt8)))=>(⟨[(0,(V.ptr 0 6 0 0)),(3,(V.own 1 p.length))],[(0,(Ob.arr 48 6 [(encTprovenderref6_reader a1)])),(1,(Ob.arr 9 1 (p.map encS)))],2⟩:St)) (fun k35 p=>k35 p=some r) (fun k35 h=>?_) ?_
 ·refine rn 1 rfl ?_
  refine wl (A:=a1.g.Funcs) 14 rfl (fun hA45=>?_)
  refine lC (fun(p:Int×(List (List UInt8)))=>(⟨[(0,(V.ptr 0 6 0 0)),(3,(V.own 1 (p.2).length)),(14,(V.lst 4 (a1.g.Funcs.map encTFunc))),(15,(iV ((a1.g.Funcs.length:Nat):Int))),(16,(iV (p.1)))],[(0,(Ob.arr 48 6 [(encTprovenderref6_reader a1)])),(1,(Ob.arr 9 1 ((p.2).map encS)))],2⟩:St)) (fun n p=>RG a1.g.Funcs (fun tl nn=>M20_L1 F k35 tl p.2=some r) n p.1) (fun p h=>RG.zero h) (a1.g.Funcs.length+1) (0,([]:List (List UInt8))) (RG.start h) (Ghost.trans (ghost_nilE 3 9 1 rfl) (ghost_ren 2 (fun i=>([0,1]:List Nat).getD i 0) _ _ (by decide) (EnvSub.get (.cons (Sub.ptr rfl rfl) (.cons (Sub.ownE rfl rfl (by simp)) (.cons (Sub.imm (Imm.lst _ _)) (.cons (Sub.imm (Imm.con _)) (.cons (Sub.imm (Imm.con _)) .nil)))))) (HpSub.get (.cons rfl (ObSub.box (.cons (Sub.imm (Imm.lst _ _)) (.cons (Sub.imm (Imm.lst _ _)) (.cons (Sub.imm (Imm.lst _ _)) (.cons (Sub.imm (Imm.lst _ _)) (.cons (Sub.imm (Imm.con _)) (.cons (Sub.imm (Imm.con _)) .nil))))))) (.cons rfl (ObSub.rows (rows_imm imms_encS)) .nil))) rfl)) (fun n p h=>?_)
  obtain⟨n39,l40⟩:=p
  refine rn 5 rfl ?_
  refine spL rfl (fun hb41=>?_) (fun hb41=>?_)
  ·obtain⟨x42,tl,hx43,h,hk1⟩:=RG.t hA45 h hb41
   unfold M20_L1 at h
   refine rn 5 rfl ?_
   refine ixh hx43 rfl rfl ?_
   refine rn 8 rfl ?_
   refine aops_buildSlice [(0,(sV x42.Name))] [[(sV x42.Name)]] tEl25 tZ9 rfl rfl rfl rfl wants_none (evp_cons rfl evp_nil) rfl rfl (by simp) rfl ?_
   refine fo ?_
   refine apO encS h rfl rfl rfl rfl rfl rfl rfl rfl (fun h=>?_)
   refine rn 7 rfl ?_
   exact jX ((w64 (n39+1)),(l40++([x42.Name]:List (List UInt8)))) (hk1 _ h) (gr [0,4] rfl (hB rfl rfl rfl (hR rfl rfl .nil)) rfl)
  replace h:=RG.f h hb41
  unfold M20_L1 at h
  refine rn 1 rfl ?_
  exact jX l40 h (gr [0,1] rfl (hB rfl rfl rfl (hR rfl rfl .nil)) rfl)
 intro l36 h
 obtain⟨y46,hx47,h⟩:=bind_some h
 refine rn 9 rfl ?_
 refine aops_ghost (ghost_frzEs 1 [27,3] rfl (rows_imm imms_encS) (List.forall_mem_cons.2 ⟨rfl,(List.forall_mem_cons.2 ⟨rfl,(fun _ hx=>nomatch hx)⟩)⟩) (List.length_map ..).symm) ?_
 refine aops_mcallS (V.own 2 (y46.2).length) [(V.ptr 0 6 0 0),(V.lst 1 (l36.map encS))] (fun i=>([0]:List Nat).getD i 0) (fun i=>([0,2]:List Nat).getD i 0) 2 3 [(0,(Ob.arr 48 6 [[(V.lst 2 (a1.g.Ifaces.map encTIface)),(V.lst 2 (a1.g.Types.map encTType)),(V.lst 4 (a1.g.Funcs.map encTFunc)),(V.lst 1 (a1.g.Entries.map encS)),(sV a1.inside),(bV (y46.1))]])),(2,(Ob.arr 3 1 ((y46.2).map encI_i64)))] fOk64 wants_none rfl (evm_cons rfl (evm_cons rfl evm_nil)) (.cons (Sub.ptr rfl rfl) (.cons (Sub.imm (Imm.lst _ _)) .nil)) (.cons rfl (ObSub.box (.cons (Sub.imm (Imm.lst _ _)) (.cons (Sub.imm (Imm.lst _ _)) (.cons (Sub.imm (Imm.lst _ _)) (.cons (Sub.imm (Imm.lst _ _)) (.cons (Sub.imm (Imm.con _)) (.cons (Sub.imm (Imm.con _)) .nil))))))) .nil) (W64 F l36 a1 y46 hx47) rfl rfl rfl rfl (Sub.ownT rfl rfl) (.cons rfl (ObSub.box (.cons (Sub.immT (Imm.lst _ _)) (.cons (Sub.immT (Imm.lst _ _)) (.cons (Sub.immT (Imm.lst _ _)) (.cons (Sub.immT (Imm.lst _ _)) (.cons (Sub.immT (Imm.con _)) (.cons (Sub.immT (Imm.con _)) .nil))))))) (.cons rfl (ObSub.rowsT (rows_imm imms_encI_i64)) .nil)) _ rfl ?_
 refine fo (rn 3 rfl ?_)
 refine jK h (fun(p:Bool×(List TFunc))=>(⟨[(6,(V.own 1 (p.2).length))],[(0,(Ob.arr 48 6 [[(V.lst 2 (a1.g.Ifaces.map encTIface)),(V.lst 2 (a1.g.Types.map encTType)),(V.lst 4 (a1.g.Funcs.map encTFunc)),(V.lst 1 (a1.g.Entries.map encS)),(sV a1.inside),(bV (p.1))]])),(1,(Ob.arr 71 4 ((p.2).map encTFunc)))],2⟩:St)) (fun k48 p=>k48 p.1 p.2=some r) (fun k48 h=>?_) ?_
 ·refine rn 1 rfl ?_
  refine wlO (A:=(y46.2)) 2 rfl (fun hA65=>?_)
  refine lC (fun(p:Int×Bool×(List TFunc))=>(⟨[(0,(V.ptr 0 6 0 0)),(6,(V.own 1 (p.2.2).length)),(28,(V.own 2 (y46.2).length)),(29,(iV (((y46.2).length:Nat):Int))),(30,(iV (p.1)))],[(0,(Ob.arr 48 6 [[(V.lst 2 (a1.g.Ifaces.map encTIface)),(V.lst 2 (a1.g.Types.map encTType)),(V.lst 4 (a1.g.Funcs.map encTFunc)),(V.lst 1 (a1.g.Entries.map encS)),(sV a1.inside),(bV (p.2.1))]])),(1,(Ob.arr 71 4 ((p.2.2).map encTFunc))),(2,(Ob.arr 3 1 ((y46.2).map encI_i64)))],3⟩:St)) (fun n p=>RG (y46.2) (fun tl nn=>M20_L2 F a1 k48 tl p.2.1 p.2.2=some r) n p.1) (fun p h=>RG.zero h) ((y46.2).length+1) (0,(y46.1),([]:List TFunc)) (RG.start h) (Ghost.trans (ghost_nilE 6 71 4 rfl) (ghost_ren 3 (fun i=>([0,3,2]:List Nat).getD i 0) _ _ (by decide) (EnvSub.get (.cons (Sub.ptr rfl rfl) (.cons (Sub.ownE rfl rfl (by simp)) (.cons (Sub.own rfl rfl) (.cons (Sub.imm (Imm.con _)) (.cons (Sub.imm (Imm.con _)) .nil)))))) (HpSub.get (.cons rfl (ObSub.box (.cons (Sub.imm (Imm.lst _ _)) (.cons (Sub.imm (Imm.lst _ _)) (.cons (Sub.imm (Imm.lst _ _)) (.cons (Sub.imm (Imm.lst _ _)) (.cons (Sub.imm (Imm.con _)) (.cons (Sub.imm (Imm.con _)) .nil))))))) (.cons rfl (ObSub.rows (rows_imm imms_encTFunc)) (.cons rfl (ObSub.rows (rows_imm imms_encI_i64)) .nil)))) rfl)) (fun n p h=>?_)
  obtain⟨n54,b55,l56⟩:=p
  refine rn 5 rfl ?_
  refine spL rfl (fun hb57=>?_) (fun hb57=>?_)
  ·obtain⟨x58,tl,hx59,h,hk2⟩:=RG.t hA65 h hb57
   unfold M20_L2 at h
   refine rn 5 rfl ?_
   refine ixoh (a:=(y46.2)) hx59 rfl rfl rfl ?_
   refine ldp hx59 rfl rfl rfl rfl ?_
   refine rn 10 rfl ?_
   refine ixl h rfl rfl (fun x60 hx61 h=>?_)
   obtain⟨y62,hx63,h⟩:=bind_some h
   refine rn 9 rfl ?_
   refine aops_mcallS (V.own 4 (y62.2).length) [(V.ptr 0 6 0 0),(V.lst 1 (x60.Makes.map encS))] (fun i=>([0]:List Nat).getD i 0) (fun i=>([0,4]:List Nat).getD i 0) 4 5 [(0,(Ob.arr 48 6 [[(V.lst 2 (a1.g.Ifaces.map encTIface)),(V.lst 2 (a1.g.Types.map encTType)),(V.lst 4 (a1.g.Funcs.map encTFunc)),(V.lst 1 (a1.g.Entries.map encS)),(sV a1.inside),(bV (y62.1))]])),(4,(Ob.arr 9 1 ((y62.2).map encS)))] fOk21 wants_none rfl (evm_cons rfl (evm_cons rfl evm_nil)) (.cons (Sub.ptr rfl rfl) (.cons (Sub.imm (Imm.lst _ _)) .nil)) (.cons rfl (ObSub.box (.cons (Sub.imm (Imm.lst _ _)) (.cons (Sub.imm (Imm.lst _ _)) (.cons (Sub.imm (Imm.lst _ _)) (.cons (Sub.imm (Imm.lst _ _)) (.cons (Sub.imm (Imm.con _)) (.cons (Sub.imm (Imm.con _)) .nil))))))) .nil) (W21 F x60.Makes (Tprovenderref6_reader.mk a1.g a1.inside b55) y62 hx63) rfl rfl rfl rfl (Sub.ownT rfl rfl) (.cons rfl (ObSub.box (.cons (Sub.immT (Imm.lst _ _)) (.cons (Sub.immT (Imm.lst _ _)) (.cons (Sub.immT (Imm.lst _ _)) (.cons (Sub.immT (Imm.lst _ _)) (.cons (Sub.immT (Imm.con _)) (.cons (Sub.immT (Imm.con _)) .nil))))))) (.cons rfl (ObSub.rowsT (rows_imm imms_encS)) .nil)) _ rfl ?_
   refine fo (rn 6 rfl ?_)
   refine aops_ghost (ghost_frzV 4 48 (V.agg [(sV x60.Name),(sV x60.Component),(V.lst 4 (x60.Calls.map encTCall)),(V.lst 1 ((y62.2).map encS))]) rfl (rows_imm imms_encS) rfl (Sub.agg (.cons Sub.keep (.cons Sub.keep (.cons Sub.keep (.cons (Sub.frzAll (rows:=(y62.2).map encS) (List.length_map ..).symm) .nil)))))) ?_
   refine aops_buildSlice [(0,(V.agg [(sV x60.Name),(sV x60.Component),(V.lst 4 (x60.Calls.map encTCall)),(V.lst 1 ((y62.2).map encS))]))] [[(sV x60.Name),(sV x60.Component),(V.lst 4 (x60.Calls.map encTCall)),(V.lst 1 ((y62.2).map encS))]] tEl24 tZ71 rfl rfl rfl rfl wants_none (evp_cons rfl evp_nil) rfl rfl (by simp) rfl ?_
   refine fo ?_
   refine apO encTFunc h rfl rfl rfl rfl rfl rfl rfl rfl (fun h=>?_)
   refine rn 7 rfl ?_
   exact jX ((w64 (n54+1)),(y62.1),(l56++([(TFunc.mk x60.Name x60.Component x60.Calls (y62.2))]:List TFunc))) (hk2 _ h) (gr [0,6,2] rfl (hB rfl rfl rfl (hR rfl rfl (hR rfl rfl .nil))) rfl)
  replace h:=RG.f h hb57
  unfold M20_L2 at h
  refine rn 1 rfl ?_
  exact jX (b55,l56) h (gr [0,1] rfl (hB rfl rfl rfl (hR rfl rfl .nil)) rfl)
 rintro⟨b49,l50⟩ h
 refine rn 5 rfl ?_
 replace h:=Option.some.inj h
 subst h
 exact wR ⟨.inl rfl,[(2,(V.own 1 l50.length))],(gr [0,1] rfl (hB rfl rfl rfl (hR rfl rfl .nil)) rfl),(.cons (.tmp rfl) .nil)⟩
theorem W65(F:Nat)(a1:TGraph)(r:Tprovenderref6_names)(h:M65 F a1=some r):PureG (gl mx) Tryz.prog 65 [(V.agg (encTGraph a1))] (V.agg (encTprovenderref6_names r)):=by
 refine pin (fun r=>(V.agg (encTprovenderref6_names r))) r rfl Tryz.func65 rfl rfl rfl rfl rfl (fun w0 m0 hg=>?_)
 unfold M65 at h
 refine rn 19 rfl ?_
 refine ln rfl rfl ?_
 refine rn 2 rfl ?_
 refine jK h (fun(p:(List ((List UInt8)×(List ((List UInt8)×Bool)))))=>(⟨[(1,(V.ptr 0 4 0 0)),(2,(V.ptr 1 3 0 0)),(3,(V.ptr 2 3 0 0))],[(0,(Ob.arr 27 4 [(encTGraph a1)])),(1,(Ob.arr 124 3 [[(V.con (.map none)),(V.con (.map none)),(V.con (.map none))]])),(2,(Ob.arr 124 3 [[(V.map 3),(V.map 4),(V.map 5)]])),(3,(Ob.map (p.map encM9_266))),(4,(Ob.map (([]:List ((List UInt8)×Bool)).map encM9_4))),(5,(Ob.map (([]:List ((List UInt8)×Bool)).map encM9_4)))],6⟩:St)) (fun k2 p=>k2 p=some r) (fun k2 h=>?_) ?_
 ·refine rn 1 rfl ?_
  refine wl (A:=a1.Ifaces) 17 rfl (fun hA24=>?_)
  refine lC (fun(p:Int×(List ((List UInt8)×(List ((List UInt8)×Bool)))))=>(⟨[(1,(V.ptr 0 4 0 0)),(2,(V.ptr 1 3 0 0)),(3,(V.ptr 2 3 0 0)),(17,(V.lst 2 (a1.Ifaces.map encTIface))),(18,(iV ((a1.Ifaces.length:Nat):Int))),(19,(iV (p.1)))],[(0,(Ob.arr 27 4 [(encTGraph a1)])),(1,(Ob.arr 124 3 [[(V.con (.map none)),(V.con (.map none)),(V.con (.map none))]])),(2,(Ob.arr 124 3 [[(V.map 3),(V.map 4),(V.map 5)]])),(3,(Ob.map ((p.2).map encM9_266))),(4,(Ob.map (([]:List ((List UInt8)×Bool)).map encM9_4))),(5,(Ob.map (([]:List ((List UInt8)×Bool)).map encM9_4)))],6⟩:St)) (fun n p=>RG a1.Ifaces (fun tl nn=>M65_L1 F k2 tl p.2=some r) n p.1) (fun p h=>RG.zero h) (a1.Ifaces.length+1) (0,([]:List ((List UInt8)×(List ((List UInt8)×Bool))))) (RG.start h) (gr [0,1,5,2,3,4] rfl (hB rfl rfl rfl (hB rfl rfl rfl (hB rfl rfl rfl (hM rfl rfl (hM rfl rfl (hM rfl rfl .nil)))))) rfl) (fun n p h=>?_)
  obtain⟨n6,m7⟩:=p
  refine rn 5 rfl ?_
  refine spL rfl (fun hb8=>?_) (fun hb8=>?_)
  ·obtain⟨x11,tl,hx12,h,hk1⟩:=RG.t hA24 h hb8
   unfold M65_L1 at h
   refine rn 2 rfl ?_
   refine jK h (fun(p:(List ((List UInt8)×(List ((List UInt8)×Bool)))))=>(⟨[(1,(V.ptr 0 4 0 0)),(2,(V.ptr 1 3 0 0)),(3,(V.ptr 2 3 0 0)),(17,(V.lst 2 (a1.Ifaces.map encTIface))),(18,(iV ((a1.Ifaces.length:Nat):Int))),(19,(iV n6))],[(0,(Ob.arr 27 4 [(encTGraph a1)])),(1,(Ob.arr 124 3 [[(V.con (.map none)),(V.con (.map none)),(V.con (.map none))]])),(2,(Ob.arr 124 3 [[(V.map 3),(V.map 4),(V.map 5)]])),(3,(Ob.map (p.map encM9_266))),(4,(Ob.map (([]:List ((List UInt8)×Bool)).map encM9_4))),(5,(Ob.map (([]:List ((List UInt8)×Bool)).map encM9_4)))],6⟩:St)) (fun k9 p=>k9 p=some r) (fun k9 h=>?_) ?_
   ·refine rn 3 rfl ?_
    refine ixh hx12 rfl rfl ?_
    refine rn 11 rfl ?_
    refine aops_mapUpdate_deepG (id2:=7) (o:=(V.map 7)) (dv:=(.dmp (([]:List ((List UInt8)×Bool)).map encM9_4))) (ob:=(.map (([]:List ((List UInt8)×Bool)).map encM9_4))) ((mput m7 x11.Name ([]:List ((List UInt8)×Bool))).map encM9_266) tMap122 tKey9 wants_none rfl rfl (.con rfl) ⟨_,rfl⟩ encM9_266_good rfl (by simp[ovl]) rfl rfl (okeep_ents encM9_4_im ([]:List ((List UInt8)×Bool))) (puts_new encM9_266 (fun k=>str k) encM9_4 (fun _=>rfl) inj_str x11.Name ([]:List ((List UInt8)×Bool)) m7) ?_
    refine fo (rn 5 rfl ?_)
    refine ln rfl rfl ?_
    refine rn 2 rfl ?_
    refine jK h (fun(p:(List ((List UInt8)×(List ((List UInt8)×Bool)))))=>(⟨[(1,(V.ptr 0 4 0 0)),(2,(V.ptr 1 3 0 0)),(3,(V.ptr 2 3 0 0)),(17,(V.lst 2 (a1.Ifaces.map encTIface))),(18,(iV ((a1.Ifaces.length:Nat):Int))),(19,(iV n6))],[(0,(Ob.arr 27 4 [(encTGraph a1)])),(1,(Ob.arr 124 3 [[(V.con (.map none)),(V.con (.map none)),(V.con (.map none))]])),(2,(Ob.arr 124 3 [[(V.map 3),(V.map 4),(V.map 5)]])),(3,(Ob.map (p.map encM9_266))),(4,(Ob.map (([]:List ((List UInt8)×Bool)).map encM9_4))),(5,(Ob.map (([]:List ((List UInt8)×Bool)).map encM9_4)))],6⟩:St)) (fun k13 p=>k13 p=some r) (fun k13 h=>?_) ?_
    ·refine rn 1 rfl ?_
     refine wl (A:=x11.Methods) 29 rfl (fun hA23=>?_)
     refine lC (fun(p:Int×(List ((List UInt8)×(List ((List UInt8)×Bool)))))=>(⟨[(1,(V.ptr 0 4 0 0)),(2,(V.ptr 1 3 0 0)),(3,(V.ptr 2 3 0 0)),(5,(V.ptr 3 2 0 0)),(17,(V.lst 2 (a1.Ifaces.map encTIface))),(18,(iV ((a1.Ifaces.length:Nat):Int))),(19,(iV n6)),(29,(V.lst 1 (x11.Methods.map encS))),(30,(iV ((x11.Methods.length:Nat):Int))),(31,(iV (p.1)))],[(0,(Ob.arr 27 4 [(encTGraph a1)])),(1,(Ob.arr 124 3 [[(V.con (.map none)),(V.con (.map none)),(V.con (.map none))]])),(2,(Ob.arr 124 3 [[(V.map 4),(V.map 5),(V.map 6)]])),(3,(Ob.arr 56 2 [(encTIface x11)])),(4,(Ob.map ((p.2).map encM9_266))),(5,(Ob.map (([]:List ((List UInt8)×Bool)).map encM9_4))),(6,(Ob.map (([]:List ((List UInt8)×Bool)).map encM9_4)))],7⟩:St)) (fun n p=>RG x11.Methods (fun tl nn=>M65_L2 F x11 k13 tl p.2=some r) n p.1) (fun p h=>RG.zero h) (x11.Methods.length+1) (0,(mput m7 x11.Name ([]:List ((List UInt8)×Bool)))) (RG.start h) (gr [0,1,2,6,3,4,5] rfl (hB rfl rfl rfl (hB rfl rfl rfl (hB rfl rfl rfl (hB rfl rfl rfl (hM rfl rfl (hM rfl rfl (hM rfl rfl .nil))))))) rfl) (fun n p h=>?_)
     obtain⟨n17,m18⟩:=p
     refine rn 5 rfl ?_
     refine spL rfl (fun hb19=>?_) (fun hb19=>?_)
     ·obtain⟨x20,tl,hx21,h,hk2⟩:=RG.t hA23 h hb19
      unfold M65_L2 at h
      refine rn 5 rfl ?_
      refine ixh hx21 rfl rfl ?_
      refine rn 8 rfl ?_
      refine ck h (fun hc22 h=>?_)
      refine aops_lookup_tkP tMap122 tKey9 wants_none rfl rfl (.con rfl) ⟨_,rfl⟩ encM9_266_good (lookD_enc encM9_266 (fun k=>str k) encM9_4 7 (fun _=>rfl) inj_str x11.Name m18 hc22) rfl rfl ?_
      refine fo (rn 1 rfl ?_)
      refine aops_mapUpdate (es:=((mget m18 x11.Name).getD []).map encM9_4) ((mput ((mget m18 x11.Name).getD []) x20 true).map encM9_4) tMap115 tKey9 wants_none rfl rfl (.con rfl) ⟨_,rfl⟩ encM9_4_good rfl (encM9_4_puts ((mget m18 x11.Name).getD []) x20 true) ?_
      refine aops_ghost (ghost_putN 4 7 encM9_266 (fun k=>str k) encM9_4 (fun _=>rfl) hc22 rfl rfl rfl encM9_4_im) ?_
      refine fo (rn 6 rfl ?_)
      exact jX ((w64 (n17+1)),(mput m18 x11.Name (mput ((mget m18 x11.Name).getD []) x20 true))) (hk2 _ h) (gr [0,1,2,3,4,5,6] rfl (hB rfl rfl rfl (hB rfl rfl rfl (hB rfl rfl rfl (hB rfl rfl rfl (hM rfl rfl (hM rfl rfl (hM rfl rfl .nil))))))) rfl)
     replace h:=RG.f h hb19
     unfold M65_L2 at h
     refine rn 1 rfl ?_
     exact jX m18 h (gr [0,1,2,4,5,6] rfl (hB rfl rfl rfl (hB rfl rfl rfl (hB rfl rfl rfl (hM rfl rfl (hM rfl rfl (hM rfl rfl .nil)))))) rfl)
    intro m14 h
    refine rn 1 rfl ?_
    exact jX m14 h (gr [0,1,2,3,4,5] rfl (hB rfl rfl rfl (hB rfl rfl rfl (hB rfl rfl rfl (hM rfl rfl (hM rfl rfl (hM rfl rfl .nil)))))) rfl)
   intro m10 h
   refine rn 4 rfl ?_
   exact jX ((w64 (n6+1)),m10) (hk1 _ h) (gr [0,1,2,3,4,5] rfl (hB rfl rfl rfl (hB rfl rfl rfl (hB rfl rfl rfl (hM rfl rfl (hM rfl rfl (hM rfl rfl .nil)))))) rfl)
  replace h:=RG.f h hb8
  unfold M65_L1 at h
  refine rn 1 rfl ?_
  exact jX m7 h (gr [0,1,2,3,4,5] rfl (hB rfl rfl rfl (hB rfl rfl rfl (hB rfl rfl rfl (hM rfl rfl (hM rfl rfl (hM rfl rfl .nil)))))) rfl)
 intro m3 h
 refine rn 5 rfl ?_
 refine ln rfl rfl ?_
 refine rn 2 rfl ?_
 refine jK h (fun(p:(List ((List UInt8)×Bool)))=>(⟨[(1,(V.ptr 0 4 0 0)),(2,(V.ptr 1 3 0 0)),(3,(V.ptr 2 3 0 0))],[(0,(Ob.arr 27 4 [(encTGraph a1)])),(1,(Ob.arr 124 3 [[(V.con (.map none)),(V.con (.map none)),(V.con (.map none))]])),(2,(Ob.arr 124 3 [[(V.map 3),(V.map 4),(V.map 5)]])),(3,(Ob.map (m3.map encM9_266))),(4,(Ob.map (p.map encM9_4))),(5,(Ob.map (([]:List ((List UInt8)×Bool)).map encM9_4)))],6⟩:St)) (fun k25 p=>k25 p=some r) (fun k25 h=>?_) ?_
 ·refine rn 1 rfl ?_
  refine wl (A:=a1.Types) 44 rfl (fun hA34=>?_)
  refine lC (fun(p:Int×(List ((List UInt8)×Bool)))=>(⟨[(1,(V.ptr 0 4 0 0)),(2,(V.ptr 1 3 0 0)),(3,(V.ptr 2 3 0 0)),(44,(V.lst 2 (a1.Types.map encTType))),(45,(iV ((a1.Types.length:Nat):Int))),(46,(iV (p.1)))],[(0,(Ob.arr 27 4 [(encTGraph a1)])),(1,(Ob.arr 124 3 [[(V.con (.map none)),(V.con (.map none)),(V.con (.map none))]])),(2,(Ob.arr 124 3 [[(V.map 3),(V.map 4),(V.map 5)]])),(3,(Ob.map (m3.map encM9_266))),(4,(Ob.map ((p.2).map encM9_4))),(5,(Ob.map (([]:List ((List UInt8)×Bool)).map encM9_4)))],6⟩:St)) (fun n p=>RG a1.Types (fun tl nn=>M65_L3 F k25 tl p.2=some r) n p.1) (fun p h=>RG.zero h) (a1.Types.length+1) (0,([]:List ((List UInt8)×Bool))) (RG.start h) (gr [0,1,2,3,4,5] rfl (hB rfl rfl rfl (hB rfl rfl rfl (hB rfl rfl rfl (hM rfl rfl (hM rfl rfl (hM rfl rfl .nil)))))) rfl) (fun n p h=>?_)
  obtain⟨n29,m30⟩:=p
  refine rn 5 rfl ?_
  refine spL rfl (fun hb31=>?_) (fun hb31=>?_)
  ·obtain⟨x32,tl,hx33,h,hk3⟩:=RG.t hA34 h hb31
   unfold M65_L3 at h
   refine rn 5 rfl ?_
   refine ixh hx33 rfl rfl ?_
   refine rn 9 rfl ?_
   refine aops_mapUpdate (es:=m30.map encM9_4) ((mput m30 x32.Name true).map encM9_4) tMap115 tKey9 wants_none rfl rfl (.con rfl) ⟨_,rfl⟩ encM9_4_good rfl (encM9_4_puts m30 x32.Name true) ?_
   refine fo (rn 6 rfl ?_)
   exact jX ((w64 (n29+1)),(mput m30 x32.Name true)) (hk3 _ h) (gr [0,1,2,3,4,5] rfl (hB rfl rfl rfl (hB rfl rfl rfl (hB rfl rfl rfl (hM rfl rfl (hM rfl rfl (hM rfl rfl .nil)))))) rfl)
  replace h:=RG.f h hb31
  unfold M65_L3 at h
  refine rn 1 rfl ?_
  exact jX m30 h (gr [0,1,2,3,4,5] rfl (hB rfl rfl rfl (hB rfl rfl rfl (hB rfl rfl rfl (hM rfl rfl (hM rfl rfl (hM rfl rfl .nil)))))) rfl)
 intro m26 h
 refine rn 5 rfl ?_
 refine ln rfl rfl ?_
 refine rn 2 rfl ?_
 refine jK h (fun(p:(List ((List UInt8)×Bool)))=>(⟨[(2,(V.ptr 0 3 0 0)),(3,(V.ptr 1 3 0 0))],[(0,(Ob.arr 124 3 [[(V.con (.map none)),(V.con (.map none)),(V.con (.map none))]])),(1,(Ob.arr 124 3 [[(V.map 2),(V.map 3),(V.map 4)]])),(2,(Ob.map (m3.map encM9_266))),(3,(Ob.map (m26.map encM9_4))),(4,(Ob.map (p.map encM9_4)))],5⟩:St)) (fun k35 p=>k35 p=some r) (fun k35 h=>?_) ?_
 ·refine rn 1 rfl ?_
  refine wl (A:=a1.Funcs) 56 rfl (fun hA44=>?_)
  refine lC (fun(p:Int×(List ((List UInt8)×Bool)))=>(⟨[(2,(V.ptr 0 3 0 0)),(3,(V.ptr 1 3 0 0)),(56,(V.lst 4 (a1.Funcs.map encTFunc))),(57,(iV ((a1.Funcs.length:Nat):Int))),(58,(iV (p.1)))],[(0,(Ob.arr 124 3 [[(V.con (.map none)),(V.con (.map none)),(V.con (.map none))]])),(1,(Ob.arr 124 3 [[(V.map 2),(V.map 3),(V.map 4)]])),(2,(Ob.map (m3.map encM9_266))),(3,(Ob.map (m26.map encM9_4))),(4,(Ob.map ((p.2).map encM9_4)))],5⟩:St)) (fun n p=>RG a1.Funcs (fun tl nn=>M65_L4 F k35 tl p.2=some r) n p.1) (fun p h=>RG.zero h) (a1.Funcs.length+1) (0,([]:List ((List UInt8)×Bool))) (RG.start h) (gr [1,2,3,4,5] rfl (hB rfl rfl rfl (hB rfl rfl rfl (hM rfl rfl (hM rfl rfl (hM rfl rfl .nil))))) rfl) (fun n p h=>?_)
  obtain⟨n39,m40⟩:=p
  refine rn 5 rfl ?_
  refine spL rfl (fun hb41=>?_) (fun hb41=>?_)
  ·obtain⟨x42,tl,hx43,h,hk4⟩:=RG.t hA44 h hb41
   unfold M65_L4 at h
   refine rn 5 rfl ?_
   refine ixh hx43 rfl rfl ?_
   refine rn 9 rfl ?_
   refine aops_mapUpdate (es:=m40.map encM9_4) ((mput m40 x42.Name true).map encM9_4) tMap115 tKey9 wants_none rfl rfl (.con rfl) ⟨_,rfl⟩ encM9_4_good rfl (encM9_4_puts m40 x42.Name true) ?_
   refine fo (rn 6 rfl ?_)
   exact jX ((w64 (n39+1)),(mput m40 x42.Name true)) (hk4 _ h) (gr [0,1,2,3,4] rfl (hB rfl rfl rfl (hB rfl rfl rfl (hM rfl rfl (hM rfl rfl (hM rfl rfl .nil))))) rfl)
  replace h:=RG.f h hb41
  unfold M65_L4 at h
  refine rn 1 rfl ?_
  exact jX m40 h (gr [0,1,2,3,4] rfl (hB rfl rfl rfl (hB rfl rfl rfl (hM rfl rfl (hM rfl rfl (hM rfl rfl .nil))))) rfl)
 intro m36 h
 refine rn 5 rfl ?_
 refine awp_ghost (ghost_frzDMC 2 0 (m3.map encM9_115) (Ob.arr 124 3 [[(V.imap (m3.map encM9_115)),(V.map 3),(V.map 4)]]) rfl (by simp) (und_map encM9_266_und _) (ObSub.box (.cons Sub.frzM (.cons Sub.keepM (.cons Sub.keepM .nil))))) ?_
 refine awp_ghost (ghost_frzMC 3 0 (Ob.arr 124 3 [[(V.imap (m3.map encM9_115)),(V.imap (m26.map encM9_4)),(V.map 4)]]) rfl encM9_4_imm (ObSub.box (.cons Sub.keepM (.cons Sub.frzM (.cons Sub.keepM .nil))))) ?_
 refine awp_ghost (ghost_frzMC 4 0 (Ob.arr 124 3 [[(V.imap (m3.map encM9_115)),(V.imap (m26.map encM9_4)),(V.imap (m36.map encM9_4))]]) rfl encM9_4_imm (ObSub.box (.cons Sub.keepM (.cons Sub.keepM (.cons Sub.frzM .nil))))) ?_
 refine fa ?_
 exact rt h rfl
theorem W132(F:Nat)(a1:(List UInt8))(r:Bool)(h:M132 F a1=some r):PureG (gl mx) Tryz.prog 132 [(sV a1)] (bV r):=by
 refine pin (fun r=>(bV r)) r rfl Tryz.func132 rfl rfl rfl rfl rfl (fun w0 m0 hg=>?_)
 unfold M132 at h
 refine rn 9 rfl ?_
 refine jK h (fun _:Unit=>(⟨[(0,(sV a1))],[],0⟩:St)) (fun k2 (_:Unit)=>k2=some r) (fun k2 h=>?_) ?_
 ·refine rn 1 rfl ?_
  refine ck h (fun hA15 h=>?_)
  refine lC (fun(p:Int)=>(⟨[(0,(sV a1)),(3,(iV p))],[],0⟩:St)) (fun n p=>RC (a1.length:Int) (fun tl nn=>M132_L1 F a1 k2 tl nn=some r) n p) (fun p h=>RC.zero h) (Int.toNat (a1.length:Int)+1) 0 (RC.start h) (g0 rfl rfl) (fun n n4 h=>?_)
  refine rn 8 rfl ?_
  refine spL rfl (fun hb5=>?_) (fun hb5=>?_)
  ·obtain⟨tl,h,hk1⟩:=RC.t hA15 h hb5
   unfold M132_L1 at h
   refine rn 7 rfl ?_
   refine ixs h rfl rfl (fun c6 hx7 h=>?_)
   refine rn 2 rfl ?_
   refine spO 14 h rfl (fun hb8 h=>?_) (fun hb8 h=>?_)
   ·refine rn 17 rfl ?_
    exact rt h rfl
   refine rn 2 rfl ?_
   refine ixs h rfl rfl (fun c9 hx10 h=>?_)
   refine rn 3 rfl ?_
   refine spO 20 h rfl (fun hb11 h=>?_) (fun hb11 h=>?_)
   ·refine rn 11 rfl ?_
    exact rt h rfl
   refine rn 2 rfl ?_
   refine ixs h rfl rfl (fun c12 hx13 h=>?_)
   refine rn 3 rfl ?_
   refine spC h rfl (fun hb14 h=>?_) (fun hb14 h=>?_)
   ·refine rn 4 rfl ?_
    exact rt h rfl
   refine rn 7 rfl ?_
   exact jX (w64 (n4+1)) (hk1 _ h) (g0 rfl rfl)
  replace h:=RC.f h hb5
  unfold M132_L1 at h
  refine rn 1 rfl ?_
  exact jX () h (g0 rfl rfl)
 intro _ h
 refine rn 6 rfl ?_
 refine spO 29 h rfl (fun hb16 h=>?_) (fun hb16 h=>?_)
 ·refine rn 6 rfl ?_
  exact rt h rfl
 refine rn 6 rfl ?_
 exact rt h rfl
theorem W98(F:Nat)(a1:(List (List UInt8)))(a2:Int)(r:Int)(h:M98 F a1 a2=some r):PureG (gl mx) Tryz.prog 98 [(V.lst 1 (a1.map encS)),(iV a2)] (iV r):=by
 refine pin (fun r=>(iV r)) r rfl Tryz.func98 rfl rfl rfl rfl rfl (fun w0 m0 hg=>?_)
 unfold M98 at h
 refine rn 6 rfl ?_
 refine bs h (fun hb3 h=>?_) (fun hb3 h=>?_)
 ·obtain⟨x4,hx5,h⟩:=bind_some h
  obtain⟨x6,hx7,h⟩:=bind_some h
  refine dr mixed (vs 2 rfl (vb hb3 rfl (vs 2 rfl (iD hx5 rfl rfl rfl (vs 4 rfl (iD hx7 rfl rfl rfl (vs 3 rfl .nil))))))) (by kernel_rfl) ?_
  refine spC h rfl (fun hb8 h=>?_) (fun hb8 h=>?_)
  ·refine rn 4 rfl ?_
   exact rt h rfl
  refine rn 5 rfl ?_
  exact rt h rfl
 refine dr mixed (vs 2 rfl (vb hb3 rfl (vs 11 rfl .nil))) (by kernel_rfl) ?_
 refine rn 6 rfl ?_
 exact rt h rfl
theorem W95(F:Nat)(a1:Tprovenderref6_checker)(r:Int)(h:M95 F a1=some r):PureG (gl mx) Tryz.prog 95 [(V.agg (encTprovenderref6_checker a1))] (iV r):=by
 refine pin (fun r=>(iV r)) r rfl Tryz.func95 rfl rfl rfl rfl rfl (fun w0 m0 hg=>?_)
 unfold M95 at h
 refine rn 15 rfl ?_
 refine ln rfl rfl ?_
 refine rn 2 rfl ?_
 refine jK h (fun _:Unit=>(⟨[],[],0⟩:St)) (fun k2 (_:Unit)=>k2=some r) (fun k2 h=>?_) ?_
 ·refine rn 1 rfl ?_
  refine wl (A:=a1.g.Ifaces) 11 rfl (fun hA31=>?_)
  refine lC (fun(p:(List UInt8)×Int)=>(⟨[(3,(sV (p.1))),(11,(V.lst 2 (a1.g.Ifaces.map encTIface))),(12,(iV ((a1.g.Ifaces.length:Nat):Int))),(13,(iV (p.2)))],[],0⟩:St)) (fun n p=>RG a1.g.Ifaces (fun tl nn=>M95_L1 F k2 tl p.1=some r) n p.2) (fun p h=>RG.zero h) (a1.g.Ifaces.length+1) (([]:List UInt8),0) (RG.start h) (g0 rfl rfl) (fun n p h=>?_)
  obtain⟨s5,n6⟩:=p
  refine rn 5 rfl ?_
  refine spL rfl (fun hb7=>?_) (fun hb7=>?_)
  ·obtain⟨x10,tl,hx11,h,hk1⟩:=RG.t hA31 h hb7
   unfold M95_L1 at h
   refine rn 2 rfl ?_
   refine jK h (fun(p:(List UInt8))=>(⟨[(3,(sV p)),(11,(V.lst 2 (a1.g.Ifaces.map encTIface))),(12,(iV ((a1.g.Ifaces.length:Nat):Int))),(13,(iV n6))],[],0⟩:St)) (fun k8 p=>k8 p=some r) (fun k8 h=>?_) ?_
   ·refine rn 3 rfl ?_
    refine ixh hx11 rfl rfl ?_
    refine rn 10 rfl ?_
    refine cl h rfl rfl rfl (W132 _ _) rfl (fun y12 hx13 h=>?_)
    refine rn 3 rfl ?_
    refine spC h rfl (fun hb14 h=>?_) (fun hb14 h=>?_)
    ·refine rn 4 rfl ?_
     exact rt h rfl
    refine rn 8 rfl ?_
    refine spC h rfl (fun hb15 h=>?_) (fun hb15 h=>?_)
    ·refine rn 4 rfl ?_
     exact rt h rfl
    refine rn 4 rfl ?_
    refine ln rfl rfl ?_
    refine rn 3 rfl ?_
    refine spC h rfl (fun hb16 h=>?_) (fun hb16 h=>?_)
    ·refine rn 4 rfl ?_
     exact rt h rfl
    refine rn 4 rfl ?_
    refine ln rfl rfl ?_
    refine rn 3 rfl ?_
    refine spC h rfl (fun hb17 h=>?_) (fun hb17 h=>?_)
    ·refine rn 4 rfl ?_
     exact rt h rfl
    refine rn 12 rfl ?_
    refine ln rfl rfl ?_
    refine rn 2 rfl ?_
    refine jK h (fun _:Unit=>(⟨[(3,(sV x10.Name)),(11,(V.lst 2 (a1.g.Ifaces.map encTIface))),(12,(iV ((a1.g.Ifaces.length:Nat):Int))),(13,(iV n6))],[],0⟩:St)) (fun k18 (_:Unit)=>k18=some r) (fun k18 h=>?_) ?_
    ·refine rn 1 rfl ?_
     refine wl (A:=x10.Methods) 29 rfl (fun hA30=>?_)
     refine lC (fun(p:Int)=>(⟨[(3,(sV x10.Name)),(5,(V.ptr 0 2 0 0)),(11,(V.lst 2 (a1.g.Ifaces.map encTIface))),(12,(iV ((a1.g.Ifaces.length:Nat):Int))),(13,(iV n6)),(40,(V.lst 1 (x10.Methods.map encS))),(41,(iV ((x10.Methods.length:Nat):Int))),(42,(iV p))],[(0,(Ob.arr 56 2 [(encTIface x10)]))],1⟩:St)) (fun n p=>RG x10.Methods (fun tl nn=>M95_L2 F x10 k18 tl nn=some r) n p) (fun p h=>RG.zero h) (x10.Methods.length+1) 0 (RG.start h) (gr [0] rfl (hB rfl rfl rfl .nil) rfl) (fun n n20 h=>?_)
     refine rn 5 rfl ?_
     refine spL rfl (fun hb21=>?_) (fun hb21=>?_)
     ·obtain⟨x22,tl,hx23,h,hk2⟩:=RG.t hA30 h hb21
      unfold M95_L2 at h
      refine rn 6 rfl ?_
      refine ixh hx23 rfl rfl ?_
      refine rn 8 rfl ?_
      refine cl h rfl rfl rfl (W132 _ _) rfl (fun y24 hx25 h=>?_)
      refine rn 2 rfl ?_
      refine spC h rfl (fun hb26 h=>?_) (fun hb26 h=>?_)
      ·refine rn 4 rfl ?_
       exact rt h rfl
      refine rn 6 rfl ?_
      refine cl h rfl rfl rfl (W98 _ _ _) rfl (fun y27 hx28 h=>?_)
      refine rn 7 rfl ?_
      refine spC h rfl (fun hb29 h=>?_) (fun hb29 h=>?_)
      ·refine rn 5 rfl ?_
       exact rt h rfl
      refine rn 6 rfl ?_
      exact jX (w64 (n20+1)) (hk2 _ h) (gr [0] rfl (hB rfl rfl rfl .nil) rfl)
     replace h:=RG.f h hb21
     unfold M95_L2 at h
     refine rn 1 rfl ?_
     exact jX () h (g0 rfl rfl)
    intro _ h
    refine rn 1 rfl ?_
    exact jX x10.Name h (g0 rfl rfl)
   intro s9 h
   refine rn 4 rfl ?_
   exact jX (s9,(w64 (n6+1))) (hk1 _ h) (g0 rfl rfl)
  replace h:=RG.f h hb7
  unfold M95_L1 at h
  refine rn 1 rfl ?_
  exact jX () h (g0 rfl rfl)
 intro _ h
 refine rn 4 rfl ?_
 exact rt h rfl
theorem W96(F:Nat)(a1:Tprovenderref6_checker)(r:Int)(h:M96 F a1=some r):PureG (gl mx) Tryz.prog 96 [(V.agg (encTprovenderref6_checker a1))] (iV r):=by
 refine pin (fun r=>(iV r)) r rfl Tryz.func96 rfl rfl rfl rfl rfl (fun w0 m0 hg=>?_)
 unfold M96 at h
 refine rn 15 rfl ?_
 refine ln rfl rfl ?_
 refine rn 2 rfl ?_
 refine jK h (fun _:Unit=>(⟨[],[],0⟩:St)) (fun k2 (_:Unit)=>k2=some r) (fun k2 h=>?_) ?_
 ·refine rn 1 rfl ?_
  refine wl (A:=a1.g.Types) 11 rfl (fun hA33=>?_)
  refine lC (fun(p:(List UInt8)×Int)=>(⟨[(1,(V.ptr 0 8 0 0)),(3,(sV (p.1))),(11,(V.lst 2 (a1.g.Types.map encTType))),(12,(iV ((a1.g.Types.length:Nat):Int))),(13,(iV (p.2)))],[(0,(Ob.arr 127 8 [(encTprovenderref6_checker a1)]))],1⟩:St)) (fun n p=>RG a1.g.Types (fun tl nn=>M96_L1 F a1 k2 tl p.1=some r) n p.2) (fun p h=>RG.zero h) (a1.g.Types.length+1) (([]:List UInt8),0) (RG.start h) (gr [0] rfl (hB rfl rfl rfl .nil) rfl) (fun n p h=>?_)
  obtain⟨s5,n6⟩:=p
  refine rn 5 rfl ?_
  refine spL rfl (fun hb7=>?_) (fun hb7=>?_)
  ·obtain⟨x10,tl,hx11,h,hk1⟩:=RG.t hA33 h hb7
   unfold M96_L1 at h
   refine rn 2 rfl ?_
   refine jK h (fun(p:(List UInt8))=>(⟨[(1,(V.ptr 0 8 0 0)),(3,(sV p)),(11,(V.lst 2 (a1.g.Types.map encTType))),(12,(iV ((a1.g.Types.length:Nat):Int))),(13,(iV n6))],[(0,(Ob.arr 127 8 [(encTprovenderref6_checker a1)]))],1⟩:St)) (fun k8 p=>k8 p=some r) (fun k8 h=>?_) ?_
   ·refine rn 3 rfl ?_
    refine ixh hx11 rfl rfl ?_
    refine rn 10 rfl ?_
    refine cl h rfl rfl rfl (W132 _ _) rfl (fun y12 hx13 h=>?_)
    refine rn 3 rfl ?_
    refine spC h rfl (fun hb14 h=>?_) (fun hb14 h=>?_)
    ·refine rn 4 rfl ?_
     exact rt h rfl
    refine rn 8 rfl ?_
    refine spC h rfl (fun hb15 h=>?_) (fun hb15 h=>?_)
    ·refine rn 4 rfl ?_
     exact rt h rfl
    refine rn 4 rfl ?_
    refine ln rfl rfl ?_
    refine rn 3 rfl ?_
    refine spC h rfl (fun hb16 h=>?_) (fun hb16 h=>?_)
    ·refine rn 4 rfl ?_
     exact rt h rfl
    refine rn 16 rfl ?_
    refine ln rfl rfl ?_
    refine rn 2 rfl ?_
    refine jK h (fun _:Unit=>(⟨[(1,(V.ptr 0 8 0 0)),(3,(sV x10.Name)),(11,(V.lst 2 (a1.g.Types.map encTType))),(12,(iV ((a1.g.Types.length:Nat):Int))),(13,(iV n6))],[(0,(Ob.arr 127 8 [(encTprovenderref6_checker a1)]))],1⟩:St)) (fun k17 (_:Unit)=>k17=some r) (fun k17 h=>?_) ?_
    ·refine rn 1 rfl ?_
     refine wl (A:=x10.Methods) 29 rfl (fun hA32=>?_)
     refine lC (fun(p:(List UInt8)×Int)=>(⟨[(1,(V.ptr 0 8 0 0)),(3,(sV x10.Name)),(6,(sV (p.1))),(11,(V.lst 2 (a1.g.Types.map encTType))),(12,(iV ((a1.g.Types.length:Nat):Int))),(13,(iV n6)),(35,(V.lst 2 (x10.Methods.map encTMethod))),(36,(iV ((x10.Methods.length:Nat):Int))),(37,(iV (p.2)))],[(0,(Ob.arr 127 8 [(encTprovenderref6_checker a1)]))],1⟩:St)) (fun n p=>RG x10.Methods (fun tl nn=>M96_L2 F a1 k17 tl p.1=some r) n p.2) (fun p h=>RG.zero h) (x10.Methods.length+1) (([]:List UInt8),0) (RG.start h) (gr [0] rfl (hB rfl rfl rfl .nil) rfl) (fun n p h=>?_)
     obtain⟨s20,n21⟩:=p
     refine rn 5 rfl ?_
     refine spL rfl (fun hb22=>?_) (fun hb22=>?_)
     ·obtain⟨x23,tl,hx24,h,hk2⟩:=RG.t hA32 h hb22
      unfold M96_L2 at h
      refine rn 5 rfl ?_
      refine ixh hx24 rfl rfl ?_
      refine rn 10 rfl ?_
      refine cl h rfl rfl rfl (W132 _ _) rfl (fun y25 hx26 h=>?_)
      refine rn 3 rfl ?_
      refine jK h (fun _:Unit=>(⟨[(1,(V.ptr 0 8 0 0)),(3,(sV x10.Name)),(8,(V.ptr 1 2 0 0)),(11,(V.lst 2 (a1.g.Types.map encTType))),(12,(iV ((a1.g.Types.length:Nat):Int))),(13,(iV n6)),(35,(V.lst 2 (x10.Methods.map encTMethod))),(36,(iV ((x10.Methods.length:Nat):Int))),(37,(iV n21))],[(0,(Ob.arr 127 8 [(encTprovenderref6_checker a1)])),(1,(Ob.arr 64 2 [(encTMethod x23)]))],2⟩:St)) (fun k27 (_:Unit)=>k27=some r) (fun k27 h=>?_) ?_
      ·refine spC h rfl (fun hb28 h=>?_) (fun hb28 h=>?_)
       ·refine rn 4 rfl ?_
        exact rt h rfl
       refine rn 8 rfl ?_
       refine spC h rfl (fun hb29 h=>?_) (fun hb29 h=>?_)
       ·refine rn 4 rfl ?_
        exact rt h rfl
       refine rn 6 rfl ?_
       refine spO 55 h rfl (fun hb30 h=>?_) (fun hb30 h=>?_)
       ·refine rn 5 rfl ?_
        refine aops_lookup _ (bV false) (bV ((mget a1.n.funcs x23.Func).getD false)) tMap115 tKey9 tZo4 (irel_con _) (wants_some (c:=true) (b:=true) 55 rfl rfl rfl) rfl .imm (.con rfl) ⟨_,rfl⟩ encM9_4_good (encM9_4_look a1.n.funcs x23.Func) (getD_map (encM9_4_val) (mget a1.n.funcs x23.Func) false) rfl ?_
        refine fo (rn 4 rfl ?_)
        refine spC h rfl (fun hb31 h=>?_) (fun hb31 h=>?_)
        ·refine rn 4 rfl ?_
         exact rt h rfl
        refine rn 1 rfl ?_
        exact jX () h (gr [0,1] rfl (hB rfl rfl rfl (hB rfl rfl rfl .nil)) rfl)
       refine rn 12 rfl ?_
       exact jX () h (gr [0,1] rfl (hB rfl rfl rfl (hB rfl rfl rfl .nil)) rfl)
      intro _ h
      refine rn 11 rfl ?_
      exact jX (x23.Name,(w64 (n21+1))) (hk2 _ h) (gr [0] rfl (hB rfl rfl rfl .nil) rfl)
     replace h:=RG.f h hb22
     unfold M96_L2 at h
     refine rn 1 rfl ?_
     exact jX () h (gr [0] rfl (hB rfl rfl rfl .nil) rfl)
    intro _ h
    refine rn 1 rfl ?_
    exact jX x10.Name h (gr [0] rfl (hB rfl rfl rfl .nil) rfl)
   intro s9 h
   refine rn 4 rfl ?_
   exact jX (s9,(w64 (n6+1))) (hk1 _ h) (gr [0] rfl (hB rfl rfl rfl .nil) rfl)
  replace h:=RG.f h hb7
  unfold M96_L1 at h
  refine rn 1 rfl ?_
  exact jX () h (g0 rfl rfl)
 intro _ h
 refine rn 4 rfl ?_
 exact rt h rfl
theorem W133(F:Nat)(a1:Tprovenderref6_checker)(a2:TCall)(r:Int)(h:M133 F a1 a2=some r):PureG (gl mx) Tryz.prog 133 [(V.agg (encTprovenderref6_checker a1)),(V.agg (encTCall a2))] (iV r):=by
 refine pin (fun r=>(iV r)) r rfl Tryz.func133 rfl rfl rfl rfl rfl (fun w0 m0 hg=>?_)
 unfold M133 at h
 refine rn 18 rfl ?_
 refine jK h (fun _:Unit=>(⟨[(3,(V.ptr 0 4 0 0))],[(0,(Ob.arr 74 4 [(encTCall a2)]))],1⟩:St)) (fun k3 (_:Unit)=>k3=some r) (fun k3 h=>?_) ?_
 ·refine spC h rfl (fun hb4 h=>?_) (fun hb4 h=>?_)
  ·refine rn 7 rfl ?_
   refine spO 14 h rfl (fun hb5 h=>?_) (fun hb5 h=>?_)
   ·refine rn 5 rfl ?_
    refine aops_lookup _ (bV false) (bV ((mget a1.n.funcs a2.Target).getD false)) tMap115 tKey9 tZo4 (irel_con _) (wants_some (c:=true) (b:=true) 14 rfl rfl rfl) rfl .imm (.con rfl) ⟨_,rfl⟩ encM9_4_good (encM9_4_look a1.n.funcs a2.Target) (getD_map (encM9_4_val) (mget a1.n.funcs a2.Target) false) rfl ?_
    refine fo (rn 3 rfl ?_)
    refine spC h rfl (fun hb6 h=>?_) (fun hb6 h=>?_)
    ·refine rn 4 rfl ?_
     exact rt h rfl
    refine rn 7 rfl ?_
    refine spC h rfl (fun hb7 h=>?_) (fun hb7 h=>?_)
    ·refine rn 4 rfl ?_
     exact rt h rfl
    refine rn 1 rfl ?_
    exact jX () h (gr [1] rfl (hB rfl rfl rfl .nil) rfl)
   refine rn 17 rfl ?_
   refine spC h rfl (fun hb8 h=>?_) (fun hb8 h=>?_)
   ·refine rn 4 rfl ?_
    exact rt h rfl
   refine rn 1 rfl ?_
   exact jX () h (gr [1] rfl (hB rfl rfl rfl .nil) rfl)
  refine rn 5 rfl ?_
  refine spC h rfl (fun hb9 h=>?_) (fun hb9 h=>?_)
  ·refine rn 7 rfl ?_
   refine bs h (fun hb10 h=>?_) (fun hb10 h=>?_)
   ·refine aops_lookup_okB _ (V.con (.map none)) (V.imap (((mget a1.n.ifaces a2.Target).getD []).map encM9_4)) tMap122 tKey9 tZo115 (irel_con _) wants_none rfl .imm (.con rfl) ⟨_,rfl⟩ encM9_115_good (encM9_115_look a1.n.ifaces a2.Target) (getD_mapT (y:=[]) hb10) (isSomeT hb10) rfl ?_
    refine fo (rn 12 rfl ?_)
    refine spO 40 h rfl (fun hb11 h=>?_) (fun hb11 h=>?_)
    ·refine rn 6 rfl ?_
     refine aops_lookup _ (bV false) (bV ((mget ((mget a1.n.ifaces a2.Target).getD []) a2.Method).getD false)) tMap115 tKey9 tZo4 (irel_con _) (wants_some (c:=false) (b:=false) 43 rfl rfl rfl) rfl .imm (.con rfl) ⟨_,rfl⟩ encM9_4_good (encM9_4_look ((mget a1.n.ifaces a2.Target).getD []) a2.Method) (getD_map (encM9_4_val) (mget ((mget a1.n.ifaces a2.Target).getD []) a2.Method) false) rfl ?_
     refine fo (rn 4 rfl ?_)
     refine spC h rfl (fun hb12 h=>?_) (fun hb12 h=>?_)
     ·refine rn 4 rfl ?_
      exact rt h rfl
     refine rn 1 rfl ?_
     exact jX () h (gr [1] rfl (hB rfl rfl rfl .nil) rfl)
    refine rn 13 rfl ?_
    exact jX () h (gr [1] rfl (hB rfl rfl rfl .nil) rfl)
   refine aops_lookup_okB _ (V.con (.map none)) (V.con (.map none)) tMap122 tKey9 tZo115 (irel_con _) wants_none rfl .imm (.con rfl) ⟨_,rfl⟩ encM9_115_good (encM9_115_look a1.n.ifaces a2.Target) (getD_mapF hb10) (isSomeT hb10) rfl ?_
   refine fo (rn 12 rfl ?_)
   refine spO 40 h rfl (fun hb13 h=>?_) (fun hb13 h=>?_)
   ·refine rn 16 rfl ?_
    exact rt h rfl
   refine rn 13 rfl ?_
   exact jX () h (gr [1] rfl (hB rfl rfl rfl .nil) rfl)
  refine rn 4 rfl ?_
  exact rt h rfl
 intro _ h
 refine rn 8 rfl ?_
 refine spO 54 h rfl (fun hb14 h=>?_) (fun hb14 h=>?_)
 ·refine rn 2 rfl ?_
  refine cl h rfl rfl rfl (W132 _ _) rfl (fun y15 hx16 h=>?_)
  refine rn 3 rfl ?_
  refine spC h rfl (fun hb17 h=>?_) (fun hb17 h=>?_)
  ·refine rn 4 rfl ?_
   exact rt h rfl
  refine rn 5 rfl ?_
  exact rt h rfl
 refine rn 12 rfl ?_
 exact rt h rfl
theorem W97(F:Nat)(a1:Tprovenderref6_checker)(r:Int)(h:M97 F a1=some r):PureG (gl mx) Tryz.prog 97 [(V.agg (encTprovenderref6_checker a1))] (iV r):=by
 refine pin (fun r=>(iV r)) r rfl Tryz.func97 rfl rfl rfl rfl rfl (fun w0 m0 hg=>?_)
 unfold M97 at h
 refine rn 15 rfl ?_
 refine ln rfl rfl ?_
 refine rn 2 rfl ?_
 refine jK h (fun _:Unit=>(⟨[],[],0⟩:St)) (fun k2 (_:Unit)=>k2=some r) (fun k2 h=>?_) ?_
 ·refine rn 1 rfl ?_
  refine wl (A:=a1.g.Funcs) 14 rfl (fun hA46=>?_)
  refine lC (fun(p:(List UInt8)×Int)=>(⟨[(1,(V.ptr 0 8 0 0)),(3,(sV (p.1))),(14,(V.lst 4 (a1.g.Funcs.map encTFunc))),(15,(iV ((a1.g.Funcs.length:Nat):Int))),(16,(iV (p.2)))],[(0,(Ob.arr 127 8 [(encTprovenderref6_checker a1)]))],1⟩:St)) (fun n p=>RG a1.g.Funcs (fun tl nn=>M97_L1 F a1 k2 tl p.1=some r) n p.2) (fun p h=>RG.zero h) (a1.g.Funcs.length+1) (([]:List UInt8),0) (RG.start h) (gr [0] rfl (hB rfl rfl rfl .nil) rfl) (fun n p h=>?_)
  obtain⟨s5,n6⟩:=p
  refine rn 5 rfl ?_
  refine spL rfl (fun hb7=>?_) (fun hb7=>?_)
  ·obtain⟨x10,tl,hx11,h,hk1⟩:=RG.t hA46 h hb7
   unfold M97_L1 at h
   refine rn 2 rfl ?_
   refine jK h (fun(p:(List UInt8))=>(⟨[(1,(V.ptr 0 8 0 0)),(3,(sV p)),(14,(V.lst 4 (a1.g.Funcs.map encTFunc))),(15,(iV ((a1.g.Funcs.length:Nat):Int))),(16,(iV n6))],[(0,(Ob.arr 127 8 [(encTprovenderref6_checker a1)]))],1⟩:St)) (fun k8 p=>k8 p=some r) (fun k8 h=>?_) ?_
   ·refine rn 3 rfl ?_
    refine ixh hx11 rfl rfl ?_
    refine rn 10 rfl ?_
    refine cl h rfl rfl rfl (W132 _ _) rfl (fun y12 hx13 h=>?_)
    refine rn 3 rfl ?_
    refine spC h rfl (fun hb14 h=>?_) (fun hb14 h=>?_)
    ·refine rn 4 rfl ?_
     exact rt h rfl
    refine rn 8 rfl ?_
    refine spC h rfl (fun hb15 h=>?_) (fun hb15 h=>?_)
    ·refine rn 4 rfl ?_
     exact rt h rfl
    refine rn 4 rfl ?_
    refine cl h rfl rfl rfl (W132 _ _) rfl (fun y16 hx17 h=>?_)
    refine rn 3 rfl ?_
    refine spC h rfl (fun hb18 h=>?_) (fun hb18 h=>?_)
    ·refine rn 4 rfl ?_
     exact rt h rfl
    refine rn 4 rfl ?_
    refine ln rfl rfl ?_
    refine rn 3 rfl ?_
    refine spC h rfl (fun hb19 h=>?_) (fun hb19 h=>?_)
    ·refine rn 4 rfl ?_
     exact rt h rfl
    refine rn 13 rfl ?_
    refine ln rfl rfl ?_
    refine rn 2 rfl ?_
    refine jK h (fun _:Unit=>(⟨[(1,(V.ptr 0 8 0 0)),(3,(sV x10.Name)),(5,(V.ptr 1 4 0 0)),(14,(V.lst 4 (a1.g.Funcs.map encTFunc))),(15,(iV ((a1.g.Funcs.length:Nat):Int))),(16,(iV n6))],[(0,(Ob.arr 127 8 [(encTprovenderref6_checker a1)])),(1,(Ob.arr 71 4 [(encTFunc x10)]))],2⟩:St)) (fun k20 (_:Unit)=>k20=some r) (fun k20 h=>?_) ?_
    ·refine rn 1 rfl ?_
     refine wl (A:=x10.Calls) 37 rfl (fun hA29=>?_)
     refine lC (fun(p:Int)=>(⟨[(1,(V.ptr 0 8 0 0)),(3,(sV x10.Name)),(5,(V.ptr 1 4 0 0)),(14,(V.lst 4 (a1.g.Funcs.map encTFunc))),(15,(iV ((a1.g.Funcs.length:Nat):Int))),(16,(iV n6)),(43,(V.lst 4 (x10.Calls.map encTCall))),(44,(iV ((x10.Calls.length:Nat):Int))),(45,(iV p))],[(0,(Ob.arr 127 8 [(encTprovenderref6_checker a1)])),(1,(Ob.arr 71 4 [(encTFunc x10)]))],2⟩:St)) (fun n p=>RG x10.Calls (fun tl nn=>M97_L2 F a1 k20 tl=some r) n p) (fun p h=>RG.zero h) (x10.Calls.length+1) 0 (RG.start h) (gr [0,1] rfl (hB rfl rfl rfl (hB rfl rfl rfl .nil)) rfl) (fun n n22 h=>?_)
     refine rn 5 rfl ?_
     refine spL rfl (fun hb23=>?_) (fun hb23=>?_)
     ·obtain⟨x24,tl,hx25,h,hk2⟩:=RG.t hA29 h hb23
      unfold M97_L2 at h
      refine rn 5 rfl ?_
      refine ixh hx25 rfl rfl ?_
      refine rn 8 rfl ?_
      refine cl h rfl rfl rfl (W133 _ _ _) rfl (fun y26 hx27 h=>?_)
      refine rn 7 rfl ?_
      refine spC h rfl (fun hb28 h=>?_) (fun hb28 h=>?_)
      ·refine rn 5 rfl ?_
       exact rt h rfl
      refine rn 6 rfl ?_
      exact jX (w64 (n22+1)) (hk2 _ h) (gr [0,1] rfl (hB rfl rfl rfl (hB rfl rfl rfl .nil)) rfl)
     replace h:=RG.f h hb23
     unfold M97_L2 at h
     refine rn 1 rfl ?_
     exact jX () h (gr [0,1] rfl (hB rfl rfl rfl (hB rfl rfl rfl .nil)) rfl)
    intro _ h
    refine rn 4 rfl ?_
    refine ln rfl rfl ?_
    refine rn 2 rfl ?_
    refine jK h (fun _:Unit=>(⟨[(1,(V.ptr 0 8 0 0)),(3,(sV x10.Name)),(14,(V.lst 4 (a1.g.Funcs.map encTFunc))),(15,(iV ((a1.g.Funcs.length:Nat):Int))),(16,(iV n6))],[(0,(Ob.arr 127 8 [(encTprovenderref6_checker a1)]))],1⟩:St)) (fun k30 (_:Unit)=>k30=some r) (fun k30 h=>?_) ?_
    ·refine rn 1 rfl ?_
     refine wl (A:=x10.Makes) 57 rfl (fun hA45=>?_)
     refine lC (fun(p:Int)=>(⟨[(1,(V.ptr 0 8 0 0)),(3,(sV x10.Name)),(5,(V.ptr 1 4 0 0)),(14,(V.lst 4 (a1.g.Funcs.map encTFunc))),(15,(iV ((a1.g.Funcs.length:Nat):Int))),(16,(iV n6)),(57,(V.lst 1 (x10.Makes.map encS))),(58,(iV ((x10.Makes.length:Nat):Int))),(59,(iV p))],[(0,(Ob.arr 127 8 [(encTprovenderref6_checker a1)])),(1,(Ob.arr 71 4 [(encTFunc x10)]))],2⟩:St)) (fun n p=>RG x10.Makes (fun tl nn=>M97_L3 F a1 x10 k30 tl nn=some r) n p) (fun p h=>RG.zero h) (x10.Makes.length+1) 0 (RG.start h) (gr [0,1] rfl (hB rfl rfl rfl (hB rfl rfl rfl .nil)) rfl) (fun n n32 h=>?_)
     refine rn 5 rfl ?_
     refine spL rfl (fun hb33=>?_) (fun hb33=>?_)
     ·obtain⟨x35,tl,hx36,h,hk3⟩:=RG.t hA45 h hb33
      unfold M97_L3 at h
      refine rn 2 rfl ?_
      refine jK h (fun _:Unit=>(⟨[(1,(V.ptr 0 8 0 0)),(3,(sV x10.Name)),(5,(V.ptr 1 4 0 0)),(14,(V.lst 4 (a1.g.Funcs.map encTFunc))),(15,(iV ((a1.g.Funcs.length:Nat):Int))),(16,(iV n6)),(57,(V.lst 1 (x10.Makes.map encS))),(58,(iV ((x10.Makes.length:Nat):Int))),(59,(iV n32))],[(0,(Ob.arr 127 8 [(encTprovenderref6_checker a1)])),(1,(Ob.arr 71 4 [(encTFunc x10)]))],2⟩:St)) (fun k34 (_:Unit)=>k34=some r) (fun k34 h=>?_) ?_
      ·refine rn 4 rfl ?_
       refine ixh hx36 rfl rfl ?_
       refine rn 11 rfl ?_
       refine spO 67 h rfl (fun hb37 h=>?_) (fun hb37 h=>?_)
       ·refine rn 4 rfl ?_
        refine aops_lookup _ (bV false) (bV ((mget a1.n.types x35).getD false)) tMap115 tKey9 tZo4 (irel_con _) (wants_some (c:=true) (b:=true) 67 rfl rfl rfl) rfl .imm (.con rfl) ⟨_,rfl⟩ encM9_4_good (encM9_4_look a1.n.types x35) (getD_map (encM9_4_val) (mget a1.n.types x35) false) rfl ?_
        refine fo (rn 3 rfl ?_)
        refine spC h rfl (fun hb38 h=>?_) (fun hb38 h=>?_)
        ·refine rn 4 rfl ?_
         exact rt h rfl
        refine rn 6 rfl ?_
        refine cl h rfl rfl rfl (W98 _ _ _) rfl (fun y39 hx40 h=>?_)
        refine rn 7 rfl ?_
        refine spC h rfl (fun hb41 h=>?_) (fun hb41 h=>?_)
        ·refine rn 5 rfl ?_
         exact rt h rfl
        refine rn 2 rfl ?_
        exact jX () h (gr [0,1] rfl (hB rfl rfl rfl (hB rfl rfl rfl .nil)) rfl)
       refine rn 15 rfl ?_
       refine cl h rfl rfl rfl (W98 _ _ _) rfl (fun y42 hx43 h=>?_)
       refine rn 7 rfl ?_
       refine spC h rfl (fun hb44 h=>?_) (fun hb44 h=>?_)
       ·refine rn 5 rfl ?_
        exact rt h rfl
       refine rn 2 rfl ?_
       exact jX () h (gr [0,1] rfl (hB rfl rfl rfl (hB rfl rfl rfl .nil)) rfl)
      intro _ h
      refine rn 4 rfl ?_
      exact jX (w64 (n32+1)) (hk3 _ h) (gr [0,1] rfl (hB rfl rfl rfl (hB rfl rfl rfl .nil)) rfl)
     replace h:=RG.f h hb33
     unfold M97_L3 at h
     refine rn 1 rfl ?_
     exact jX () h (gr [0] rfl (hB rfl rfl rfl .nil) rfl)
    intro _ h
    refine rn 1 rfl ?_
    exact jX x10.Name h (gr [0] rfl (hB rfl rfl rfl .nil) rfl)
   intro s9 h
   refine rn 4 rfl ?_
   exact jX (s9,(w64 (n6+1))) (hk1 _ h) (gr [0] rfl (hB rfl rfl rfl .nil) rfl)
  replace h:=RG.f h hb7
  unfold M97_L1 at h
  refine rn 1 rfl ?_
  exact jX () h (g0 rfl rfl)
 intro _ h
 refine rn 4 rfl ?_
 exact rt h rfl
theorem W66(F:Nat)(a1:Tprovenderref6_checker)(r:Int)(h:M66 F a1=some r):PureG (gl mx) Tryz.prog 66 [(V.agg (encTprovenderref6_checker a1))] (iV r):=by
 refine pin (fun r=>(iV r)) r rfl Tryz.func66 rfl rfl rfl rfl rfl (fun w0 m0 hg=>?_)
 unfold M66 at h
 refine rn 11 rfl ?_
 refine ln rfl rfl ?_
 refine rn 2 rfl ?_
 refine spO 14 h rfl (fun hb2 h=>?_) (fun hb2 h=>?_)
 ·refine rn 19 rfl ?_
  exact rt h rfl
 refine rn 3 rfl ?_
 refine ln rfl rfl ?_
 refine rn 3 rfl ?_
 refine spO 21 h rfl (fun hb3 h=>?_) (fun hb3 h=>?_)
 ·refine rn 12 rfl ?_
  exact rt h rfl
 refine rn 3 rfl ?_
 refine ln rfl rfl ?_
 refine rn 3 rfl ?_
 refine spC h rfl (fun hb4 h=>?_) (fun hb4 h=>?_)
 ·refine rn 4 rfl ?_
  exact rt h rfl
 refine rn 5 rfl ?_
 refine cl h rfl rfl rfl (W95 _ _) rfl (fun y5 hx6 h=>?_)
 refine rn 7 rfl ?_
 refine spC h rfl (fun hb7 h=>?_) (fun hb7 h=>?_)
 ·refine rn 5 rfl ?_
  exact rt h rfl
 refine rn 5 rfl ?_
 refine cl h rfl rfl rfl (W96 _ _) rfl (fun y8 hx9 h=>?_)
 refine rn 7 rfl ?_
 refine spC h rfl (fun hb10 h=>?_) (fun hb10 h=>?_)
 ·refine rn 5 rfl ?_
  exact rt h rfl
 refine rn 5 rfl ?_
 refine cl h rfl rfl rfl (W97 _ _) rfl (fun y11 hx12 h=>?_)
 refine rn 7 rfl ?_
 refine spC h rfl (fun hb13 h=>?_) (fun hb13 h=>?_)
 ·refine rn 5 rfl ?_
  exact rt h rfl
 refine rn 7 rfl ?_
 refine ln rfl rfl ?_
 refine rn 2 rfl ?_
 refine jK h (fun _:Unit=>(⟨[],[],0⟩:St)) (fun k14 (_:Unit)=>k14=some r) (fun k14 h=>?_) ?_
 ·refine rn 1 rfl ?_
  refine wl (A:=a1.g.Entries) 45 rfl (fun hA29=>?_)
  refine lC (fun(p:Int)=>(⟨[(1,(V.ptr 0 8 0 0)),(45,(V.lst 1 (a1.g.Entries.map encS))),(46,(iV ((a1.g.Entries.length:Nat):Int))),(47,(iV p))],[(0,(Ob.arr 127 8 [(encTprovenderref6_checker a1)]))],1⟩:St)) (fun n p=>RG a1.g.Entries (fun tl nn=>M66_L1 F a1 k14 tl nn=some r) n p) (fun p h=>RG.zero h) (a1.g.Entries.length+1) 0 (RG.start h) (gr [0] rfl (hB rfl rfl rfl .nil) rfl) (fun n n16 h=>?_)
  refine rn 5 rfl ?_
  refine spL rfl (fun hb17=>?_) (fun hb17=>?_)
  ·obtain⟨x19,tl,hx20,h,hk1⟩:=RG.t hA29 h hb17
   unfold M66_L1 at h
   refine rn 2 rfl ?_
   refine jK h (fun _:Unit=>(⟨[(1,(V.ptr 0 8 0 0)),(45,(V.lst 1 (a1.g.Entries.map encS))),(46,(iV ((a1.g.Entries.length:Nat):Int))),(47,(iV n16))],[(0,(Ob.arr 127 8 [(encTprovenderref6_checker a1)]))],1⟩:St)) (fun k18 (_:Unit)=>k18=some r) (fun k18 h=>?_) ?_
   ·refine rn 4 rfl ?_
    refine ixh hx20 rfl rfl ?_
    refine rn 11 rfl ?_
    refine spO 55 h rfl (fun hb21 h=>?_) (fun hb21 h=>?_)
    ·refine rn 4 rfl ?_
     refine aops_lookup _ (bV false) (bV ((mget a1.n.funcs x19).getD false)) tMap115 tKey9 tZo4 (irel_con _) (wants_some (c:=true) (b:=true) 55 rfl rfl rfl) rfl .imm (.con rfl) ⟨_,rfl⟩ encM9_4_good (encM9_4_look a1.n.funcs x19) (getD_map (encM9_4_val) (mget a1.n.funcs x19) false) rfl ?_
     refine fo (rn 3 rfl ?_)
     refine spC h rfl (fun hb22 h=>?_) (fun hb22 h=>?_)
     ·refine rn 4 rfl ?_
      exact rt h rfl
     refine rn 7 rfl ?_
     refine cl h rfl rfl rfl (W98 _ _ _) rfl (fun y23 hx24 h=>?_)
     refine rn 7 rfl ?_
     refine spC h rfl (fun hb25 h=>?_) (fun hb25 h=>?_)
     ·refine rn 5 rfl ?_
      exact rt h rfl
     refine rn 2 rfl ?_
     exact jX () h (gr [0] rfl (hB rfl rfl rfl .nil) rfl)
    refine rn 16 rfl ?_
    refine cl h rfl rfl rfl (W98 _ _ _) rfl (fun y26 hx27 h=>?_)
    refine rn 7 rfl ?_
    refine spC h rfl (fun hb28 h=>?_) (fun hb28 h=>?_)
    ·refine rn 5 rfl ?_
     exact rt h rfl
    refine rn 2 rfl ?_
    exact jX () h (gr [0] rfl (hB rfl rfl rfl .nil) rfl)
   intro _ h
   refine rn 4 rfl ?_
   exact jX (w64 (n16+1)) (hk1 _ h) (gr [0] rfl (hB rfl rfl rfl .nil) rfl)
  replace h:=RG.f h hb17
  unfold M66_L1 at h
  refine rn 1 rfl ?_
  exact jX () h (g0 rfl rfl)
 intro _ h
 refine rn 4 rfl ?_
 exact rt h rfl
theorem W22(F:Nat)(a1:TGraph)(r:Int)(h:M22 F a1=some r):PureG (gl mx) Tryz.prog 22 [(V.agg (encTGraph a1))] (iV r):=by
 refine pin (fun r=>(iV r)) r rfl Tryz.func22 rfl rfl rfl rfl rfl (fun w0 m0 hg=>?_)
 unfold M22 at h
 obtain⟨y2,hx3,h⟩:=bind_some h
 obtain⟨y4,hx5,h⟩:=bind_some h
 refine rn 6 rfl ?_
 refine dr mixed (vs 2 rfl (cD rfl rfl rfl rfl (W65 _ _ _ hx3) rfl (vs 1 rfl (cD rfl rfl rfl rfl (W66 _ _ _ hx5) rfl (vs 1 rfl .nil))))) (by kernel_rfl) ?_
 exact rt h rfl
set_option maxHeartbeats 4000000 in
theorem W6(F:Nat)(a1:(List UInt8))(r:(TGraph×Int×Int))(h:M6 F a1=some r):PureG (gl mx) Tryz.prog 6 [(sV a1)] (V.tup [(V.agg (encTGraph (r.1))),(iV (r.2.1)),(iV (r.2.2))]):=by
 refine pin (fun r=>(V.tup [(V.agg (encTGraph (r.1))),(iV (r.2.1)),(iV (r.2.2))])) r rfl Tryz.func6 rfl rfl rfl rfl rfl (fun w0 m0 hg=>?_)
 unfold M6 at h
 refine rn 13 rfl ?_
 refine spC h rfl (fun hb2 h=>?_) (fun hb2 h=>?_)
 ·refine rn 7 rfl ?_
  exact rt h rfl
 refine rn 11 rfl ?_
 refine cl h rfl rfl rfl (W11 _ _ _) rfl (fun y3 hx4 h=>?_)
 refine ln rfl rfl ?_
 refine rn 2 rfl ?_
 refine jK h (fun(p:(List UInt8)×(List TIface)×(List TType)×(List TFunc)×(List (List UInt8)))=>(⟨[(2,(V.ptr 0 4 0 0)),(5,(V.ptr 1 6 0 0))],[(0,(Ob.arr 27 4 [[nV,nV,nV,nV]])),(1,(Ob.arr 48 6 [[(V.own 2 (p.2.1).length),(V.own 3 (p.2.2.1).length),(V.own 4 (p.2.2.2.1).length),(V.own 5 (p.2.2.2.2).length),(sV (p.1)),(bV false)]])),(2,(Ob.arr 56 2 ((p.2.1).map encTIface))),(3,(Ob.arr 61 2 ((p.2.2.1).map dencTType))),(4,(Ob.arr 71 4 ((p.2.2.2.1).map dencTFunc))),(5,(Ob.arr 9 1 ((p.2.2.2.2).map encS)))],6⟩:St)) (fun k5 p=>k5 p.1 p.2.1 p.2.2.1 p.2.2.2.1 p.2.2.2.2=some r) (fun k5 h=>?_) ?_
 ·refine rn 1 rfl ?_
  refine wl (A:=y3) 20 rfl (fun hA54=>?_)
  refine lC (fun(p:Int×(List UInt8)×(List TIface)×(List TType)×(List TFunc)×(List (List UInt8)))=>(⟨[(2,(V.ptr 0 4 0 0)),(5,(V.ptr 1 6 0 0)),(20,(V.lst 1 (y3.map encS))),(21,(iV ((y3.length:Nat):Int))),(22,(iV (p.1)))],[(0,(Ob.arr 27 4 [[nV,nV,nV,nV]])),(1,(Ob.arr 48 6 [[(V.own 2 (p.2.2.1).length),(V.own 3 (p.2.2.2.1).length),(V.own 4 (p.2.2.2.2.1).length),(V.own 5 (p.2.2.2.2.2).length),(sV (p.2.1)),(bV false)]])),(2,(Ob.arr 56 2 ((p.2.2.1).map encTIface))),(3,(Ob.arr 61 2 ((p.2.2.2.1).map dencTType))),(4,(Ob.arr 71 4 ((p.2.2.2.2.1).map dencTFunc))),(5,(Ob.arr 9 1 ((p.2.2.2.2.2).map encS)))],6⟩:St)) (fun n p=>RG y3 (fun tl nn=>M6_L1 F k5 tl nn p.2.1 p.2.2.1 p.2.2.2.1 p.2.2.2.2.1 p.2.2.2.2.2=some r) n p.1) (fun p h=>RG.zero h) (y3.length+1) (0,([]:List UInt8),([]:List TIface),([]:List TType),([]:List TFunc),([]:List (List UInt8))) (RG.start h) (Ghost.trans (ghost_nilC 1 56 2 (Ob.arr 48 6 [[(V.own 2 0),nV,nV,nV,(sV ([]:List UInt8)),(bV false)]]) (ObSub.box (.cons Sub.mkNil (.cons Sub.keepNil (.cons Sub.keepNil (.cons Sub.keepNil (.cons Sub.keepNil (.cons Sub.keepNil .nil)))))))) (Ghost.trans (ghost_nilC 1 61 2 (Ob.arr 48 6 [[(V.own 2 0),(V.own 3 0),nV,nV,(sV ([]:List UInt8)),(bV false)]]) (ObSub.box (.cons Sub.keepNil (.cons Sub.mkNil (.cons Sub.keepNil (.cons Sub.keepNil (.cons Sub.keepNil (.cons Sub.keepNil .nil)))))))) (Ghost.trans (ghost_nilC 1 71 4 (Ob.arr 48 6 [[(V.own 2 0),(V.own 3 0),(V.own 4 0),nV,(sV ([]:List UInt8)),(bV false)]]) (ObSub.box (.cons Sub.keepNil (.cons Sub.keepNil (.cons Sub.mkNil (.cons Sub.keepNil (.cons Sub.keepNil (.cons Sub.keepNil .nil)))))))) (Ghost.trans (ghost_nilC 1 9 1 (Ob.arr 48 6 [[(V.own 2 0),(V.own 3 0),(V.own 4 0),(V.own 5 0),(sV ([]:List UInt8)),(bV false)]]) (ObSub.box (.cons Sub.keepNil (.cons Sub.keepNil (.cons Sub.keepNil (.cons Sub.mkNil (.cons Sub.keepNil (.cons Sub.keepNil .nil)))))))) (ghost_ren 6 (fun i=>([0,1,2,3,4,5]:List Nat).getD i 0) _ _ (by decide) (EnvSub.get (.cons (Sub.ptr rfl rfl) (.cons (Sub.ptr rfl rfl) (.cons (Sub.imm (Imm.lst _ _)) (.cons (Sub.imm (Imm.con _)) (.cons (Sub.imm (Imm.con _)) .nil)))))) (HpSub.get (.cons rfl (ObSub.box (.cons (Sub.imm (Imm.con _)) (.cons (Sub.imm (Imm.con _)) (.cons (Sub.imm (Imm.con _)) (.cons (Sub.imm (Imm.con _)) .nil))))) (.cons rfl (ObSub.box (.cons (Sub.ownE rfl rfl (by simp)) (.cons (Sub.ownE rfl rfl (by simp)) (.cons (Sub.ownE rfl rfl (by simp)) (.cons (Sub.ownE rfl rfl (by simp)) (.cons (Sub.imm (Imm.con _)) (.cons (Sub.imm (Imm.con _)) .nil))))))) (.cons rfl (ObSub.rows (rows_imm imms_encTIface)) (.cons rfl (ObSub.rowsK RK.h) (.cons rfl (ObSub.rowsK RK.h) (.cons rfl (ObSub.rows (rows_imm imms_encS)) .nil))))))) rfl))))) (fun n p h=>?_)
  obtain⟨n17,s18,l19,l20,l21,l22⟩:=p
  refine rn 5 rfl ?_
  refine spL rfl (fun hb23=>?_) (fun hb23=>?_)
  ·obtain⟨x30,tl,hx31,h,hk1⟩:=RG.t hA54 h hb23
   unfold M6_L1 at h
   refine rn 2 rfl ?_
   refine jK h (fun(p:(List UInt8)×(List TIface)×(List TType)×(List TFunc)×(List (List UInt8)))=>(⟨[(2,(V.ptr 0 4 0 0)),(5,(V.ptr 1 6 0 0)),(20,(V.lst 1 (y3.map encS))),(21,(iV ((y3.length:Nat):Int))),(22,(iV n17))],[(0,(Ob.arr 27 4 [[nV,nV,nV,nV]])),(1,(Ob.arr 48 6 [[(V.own 2 (p.2.1).length),(V.own 3 (p.2.2.1).length),(V.own 4 (p.2.2.2.1).length),(V.own 5 (p.2.2.2.2).length),(sV (p.1)),(bV false)]])),(2,(Ob.arr 56 2 ((p.2.1).map encTIface))),(3,(Ob.arr 61 2 ((p.2.2.1).map dencTType))),(4,(Ob.arr 71 4 ((p.2.2.2.1).map dencTFunc))),(5,(Ob.arr 9 1 ((p.2.2.2.2).map encS)))],6⟩:St)) (fun k24 p=>k24 p.1 p.2.1 p.2.2.1 p.2.2.2.1 p.2.2.2.2=some r) (fun k24 h=>?_) ?_
   ·refine rn 4 rfl ?_
    refine ixh hx31 rfl rfl ?_
    refine rn 7 rfl ?_
    refine cl h rfl rfl rfl (W16 _ _ _) rfl (fun y32 hx33 h=>?_)
    refine rn 14 rfl ?_
    refine cl h rfl rfl rfl (W11 _ _ _) rfl (fun y34 hx35 h=>?_)
    refine ln rfl rfl ?_
    refine rn 2 rfl ?_
    refine jK h (fun(p:(List (List UInt8)))=>(⟨[(2,(V.ptr 0 4 0 0)),(5,(V.ptr 1 6 0 0)),(6,(iV n17)),(8,(V.own 2 p.length)),(20,(V.lst 1 (y3.map encS))),(21,(iV ((y3.length:Nat):Int))),(22,(iV n17))],[(0,(Ob.arr 27 4 [[nV,nV,nV,nV]])),(1,(Ob.arr 48 6 [[(V.own 3 l19.length),(V.own 4 l20.length),(V.own 5 l21.length),(V.own 6 l22.length),(sV s18),(bV false)]])),(2,(Ob.arr 9 1 (p.map encS))),(3,(Ob.arr 56 2 (l19.map encTIface))),(4,(Ob.arr 61 2 (l20.map dencTType))),(5,(Ob.arr 71 4 (l21.map dencTFunc))),(6,(Ob.arr 9 1 (l22.map encS)))],7⟩:St)) (fun k36 p=>k36 p=some r) (fun k36 h=>?_) ?_
    ·refine rn 1 rfl ?_
     refine wl (A:=y34) 34 rfl (fun hA49=>?_)
     refine lC (fun(p:Int×(List (List UInt8)))=>(⟨[(2,(V.ptr 0 4 0 0)),(5,(V.ptr 1 6 0 0)),(6,(iV n17)),(8,(V.own 2 (p.2).length)),(20,(V.lst 1 (y3.map encS))),(21,(iV ((y3.length:Nat):Int))),(22,(iV n17)),(34,(V.lst 1 (y34.map encS))),(35,(iV ((y34.length:Nat):Int))),(36,(iV (p.1)))],[(0,(Ob.arr 27 4 [[nV,nV,nV,nV]])),(1,(Ob.arr 48 6 [[(V.own 3 l19.length),(V.own 4 l20.length),(V.own 5 l21.length),(V.own 6 l22.length),(sV s18),(bV false)]])),(2,(Ob.arr 9 1 ((p.2).map encS))),(3,(Ob.arr 56 2 (l19.map encTIface))),(4,(Ob.arr 61 2 (l20.map dencTType))),(5,(Ob.arr 71 4 (l21.map dencTFunc))),(6,(Ob.arr 9 1 (l22.map encS)))],7⟩:St)) (fun n p=>RG y34 (fun tl nn=>M6_L2 F k36 tl p.2=some r) n p.1) (fun p h=>RG.zero h) (y34.length+1) (0,([]:List (List UInt8))) (RG.start h) (Ghost.trans (ghost_nilE 8 9 1 rfl) (ghost_ren 7 (fun i=>([0,1,6,2,3,4,5]:List Nat).getD i 0) _ _ (by decide) (EnvSub.get (.cons (Sub.ptr rfl rfl) (.cons (Sub.ptr rfl rfl) (.cons (Sub.imm (Imm.con _)) (.cons (Sub.ownE rfl rfl (by simp)) (.cons (Sub.imm (Imm.lst _ _)) (.cons (Sub.imm (Imm.con _)) (.cons (Sub.imm (Imm.con _)) (.cons (Sub.imm (Imm.lst _ _)) (.cons (Sub.imm (Imm.con _)) (.cons (Sub.imm (Imm.con _)) .nil))))))))))) (HpSub.get (.cons rfl (ObSub.box (.cons (Sub.imm (Imm.con _)) (.cons (Sub.imm (Imm.con _)) (.cons (Sub.imm (Imm.con _)) (.cons (Sub.imm (Imm.con _)) .nil))))) (.cons rfl (ObSub.box (.cons (Sub.own rfl rfl) (.cons (Sub.own rfl rfl) (.cons (Sub.own rfl rfl) (.cons (Sub.own rfl rfl) (.cons (Sub.imm (Imm.con _)) (.cons (Sub.imm (Imm.con _)) .nil))))))) (.cons rfl (ObSub.rows (rows_imm imms_encS)) (.cons rfl (ObSub.rows (rows_imm imms_encTIface)) (.cons rfl (ObSub.rowsK RK.h) (.cons rfl (ObSub.rowsK RK.h) (.cons rfl (ObSub.rows (rows_imm imms_encS)) .nil)))))))) rfl)) (fun n p h=>?_)
     obtain⟨n40,l41⟩:=p
     refine rn 5 rfl ?_
     refine spL rfl (fun hb42=>?_) (fun hb42=>?_)
     ·obtain⟨x43,tl,hx44,h,hk2⟩:=RG.t hA49 h hb42
      unfold M6_L2 at h
      refine rn 5 rfl ?_
      refine ixh hx44 rfl rfl ?_
      refine rn 8 rfl ?_
      refine jK h (fun(p:(List (List UInt8)))=>(⟨[(2,(V.ptr 0 4 0 0)),(5,(V.ptr 1 6 0 0)),(6,(iV n17)),(8,(V.own 2 p.length)),(20,(V.lst 1 (y3.map encS))),(21,(iV ((y3.length:Nat):Int))),(22,(iV n17)),(34,(V.lst 1 (y34.map encS))),(35,(iV ((y34.length:Nat):Int))),(36,(iV n40))],[(0,(Ob.arr 27 4 [[nV,nV,nV,nV]])),(1,(Ob.arr 48 6 [[(V.own 3 l19.length),(V.own 4 l20.length),(V.own 5 l21.length),(V.own 6 l22.length),(sV s18),(bV false)]])),(2,(Ob.arr 9 1 (p.map encS))),(3,(Ob.arr 56 2 (l19.map encTIface))),(4,(Ob.arr 61 2 (l20.map dencTType))),(5,(Ob.arr 71 4 (l21.map dencTFunc))),(6,(Ob.arr 9 1 (l22.map encS)))],7⟩:St)) (fun k45 p=>k45 p=some r) (fun k45 h=>?_) ?_
      ·refine spC h rfl (fun hb47 h=>?_) (fun hb47 h=>?_)
       ·refine rn 3 rfl ?_
        refine aops_buildSlice [(0,(sV x43))] [[(sV x43)]] tEl25 tZ9 rfl rfl rfl rfl wants_none (evp_cons rfl evp_nil) rfl rfl (by simp) rfl ?_
        refine fo ?_
        refine apO encS h rfl rfl rfl rfl rfl rfl rfl rfl (fun h=>?_)
        refine rn 2 rfl ?_
        exact jX (l41++([x43]:List (List UInt8))) h (gr [0,1,8,3,4,5,6] rfl (hB rfl rfl rfl (hB rfl rfl rfl (hR rfl rfl (hR rfl rfl (hR rfl rfl (hR rfl rfl (hR rfl rfl .nil))))))) rfl)
       refine rn 1 rfl ?_
       exact jX l41 h (gr [0,1,2,3,4,5,6] rfl (hB rfl rfl rfl (hB rfl rfl rfl (hR rfl rfl (hR rfl rfl (hR rfl rfl (hR rfl rfl (hR rfl rfl .nil))))))) rfl)
      intro l46 h
      refine rn 5 rfl ?_
      exact jX ((w64 (n40+1)),l46) (hk2 _ h) (gr [0,1,2,3,4,5,6] rfl (hB rfl rfl rfl (hB rfl rfl rfl (hR rfl rfl (hR rfl rfl (hR rfl rfl (hR rfl rfl (hR rfl rfl .nil))))))) rfl)
     replace h:=RG.f h hb42
     unfold M6_L2 at h
     refine rn 1 rfl ?_
     exact jX l41 h (gr [0,1,2,3,4,5,6] rfl (hB rfl rfl rfl (hB rfl rfl rfl (hR rfl rfl (hR rfl rfl (hR rfl rfl (hR rfl rfl (hR rfl rfl .nil))))))) rfl)
    intro l37 h
    refine rn 6 rfl ?_
    refine spO 50 h rfl (fun hb50 h=>?_) (fun hb50 h=>?_)
    ·obtain⟨y51,hx52,h⟩:=bind_some h
     refine rn 2 rfl ?_
     refine aops_ghost (ghost_frzEs 2 [52,8,47] rfl (rows_imm imms_encS) (List.forall_mem_cons.2 ⟨rfl,(List.forall_mem_cons.2 ⟨rfl,(List.forall_mem_cons.2 ⟨rfl,(fun _ hx=>nomatch hx)⟩)⟩)⟩) (List.length_map ..).symm) ?_
     refine aops_mcallS (bV (y51.1)) [(V.ptr 1 6 0 0),(V.lst 1 (l37.map encS))] (fun i=>([1,3,4,5,6]:List Nat).getD i 0) (fun i=>([1,3,4,5,6,7,8,9,10]:List Nat).getD i 0) 7 11 [(1,(Ob.arr 48 6 [[(V.own 7 (y51.2.2.1).length),(V.own 8 (y51.2.2.2.1).length),(V.own 9 (y51.2.2.2.2.1).length),(V.own 10 (y51.2.2.2.2.2).length),(sV (y51.2.1)),(bV false)]])),(3,Ob.dead),(4,Ob.dead),(5,Ob.dead),(6,Ob.dead),(7,(Ob.arr 56 2 ((y51.2.2.1).map encTIface))),(8,(Ob.arr 61 2 ((y51.2.2.2.1).map dencTType))),(9,(Ob.arr 71 4 ((y51.2.2.2.2.1).map dencTFunc))),(10,(Ob.arr 9 1 ((y51.2.2.2.2.2).map encS)))] fOk17 (wants_some (c:=true) (b:=true) 50 rfl rfl rfl) rfl (evm_cons rfl (evm_cons rfl evm_nil)) (.cons (Sub.ptr rfl rfl) (.cons (Sub.imm (Imm.lst _ _)) .nil)) (.cons rfl (ObSub.box (.cons (Sub.own rfl rfl) (.cons (Sub.own rfl rfl) (.cons (Sub.own rfl rfl) (.cons (Sub.own rfl rfl) (.cons (Sub.imm (Imm.con _)) (.cons (Sub.imm (Imm.con _)) .nil))))))) (.cons rfl (ObSub.rows (rows_imm imms_encTIface)) (.cons rfl (ObSub.rowsK RK.h) (.cons rfl (ObSub.rowsK RK.h) (.cons rfl (ObSub.rows (rows_imm imms_encS)) .nil))))) (W17 F l37 s18 false l19 l20 l21 l22 y51 hx52) rfl rfl rfl rfl (Sub.immT (Imm.con _)) (.cons rfl (ObSub.box (.cons (Sub.ownT rfl rfl) (.cons (Sub.ownT rfl rfl) (.cons (Sub.ownT rfl rfl) (.cons (Sub.ownT rfl rfl) (.cons (Sub.immT (Imm.con _)) (.cons (Sub.immT (Imm.con _)) .nil))))))) (.cons rfl ObSub.deadT (.cons rfl ObSub.deadT (.cons rfl ObSub.deadT (.cons rfl ObSub.deadT (.cons rfl (ObSub.rowsT (rows_imm imms_encTIface)) (.cons rfl (ObSub.rowsTK RK.h) (.cons rfl (ObSub.rowsTK RK.h) (.cons rfl (ObSub.rowsT (rows_imm imms_encS)) .nil))))))))) _ rfl ?_
     refine fo (rn 3 rfl ?_)
     refine spC h rfl (fun hb53 h=>?_) (fun hb53 h=>?_)
     ·refine rn 8 rfl ?_
      exact rt h rfl
     refine rn 2 rfl ?_
     exact jX ((y51.2.1),(y51.2.2.1),(y51.2.2.2.1),(y51.2.2.2.2.1),(y51.2.2.2.2.2)) h (gr [0,1,7,8,9,10] rfl (hB rfl rfl rfl (hB rfl rfl rfl (hR rfl rfl (hR rfl rfl (hR rfl rfl (hR rfl rfl .nil)))))) rfl)
    refine rn 9 rfl ?_
    exact jX (s18,l19,l20,l21,l22) h (gr [0,1,3,4,5,6] rfl (hB rfl rfl rfl (hB rfl rfl rfl (hR rfl rfl (hR rfl rfl (hR rfl rfl (hR rfl rfl .nil)))))) rfl)
   rintro⟨s25,l26,l27,l28,l29⟩ h
   refine rn 4 rfl ?_
   exact jX ((w64 (n17+1)),s25,l26,l27,l28,l29) (hk1 _ h) (gr [0,1,2,3,4,5] rfl (hB rfl rfl rfl (hB rfl rfl rfl (hR rfl rfl (hR rfl rfl (hR rfl rfl (hR rfl rfl .nil)))))) rfl)
  replace h:=RG.f h hb23
  unfold M6_L1 at h
  refine rn 1 rfl ?_
  exact jX (s18,l19,l20,l21,l22) h (gr [0,1,2,3,4,5] rfl (hB rfl rfl rfl (hB rfl rfl rfl (hR rfl rfl (hR rfl rfl (hR rfl rfl (hR rfl rfl .nil)))))) rfl)
 rintro⟨s6,l7,l8,l9,l10⟩ h
 refine rn 1 rfl ?_
 refine awp_ghost (ghost_frzC 2 1 (Ob.arr 48 6 [[(V.lst 2 (l7.map encTIface)),(V.own 3 l8.length),(V.own 4 l9.length),(V.own 5 l10.length),(sV s6),(bV false)]]) rfl (rows_imm imms_encTIface) (ObSub.box (.cons (Sub.frzAll (rows:=l7.map encTIface) (List.length_map ..).symm) (.cons Sub.keep (.cons Sub.keep (.cons Sub.keep (.cons Sub.keep (.cons Sub.keep .nil)))))))) ?_
 refine awp_ghost (ghost_frzSC 3 1 (Ob.arr 48 6 [[(V.lst 2 (l7.map encTIface)),(V.lst 2 (l8.map encTType)),(V.own 4 l9.length),(V.own 5 l10.length),(sV s6),(bV false)]]) und_dencTType rfl (ObSub.box (.cons Sub.keep (.cons (Sub.frzAll (by simp)) (.cons Sub.keep (.cons Sub.keep (.cons Sub.keep (.cons Sub.keep .nil)))))))) ?_
 refine awp_ghost (ghost_frzSC 4 1 (Ob.arr 48 6 [[(V.lst 2 (l7.map encTIface)),(V.lst 2 (l8.map encTType)),(V.lst 4 (l9.map encTFunc)),(V.own 5 l10.length),(sV s6),(bV false)]]) und_dencTFunc rfl (ObSub.box (.cons Sub.keep (.cons Sub.keep (.cons (Sub.frzAll (by simp)) (.cons Sub.keep (.cons Sub.keep (.cons Sub.keep .nil)))))))) ?_
 refine awp_ghost (ghost_frzC 5 1 (Ob.arr 48 6 [[(V.lst 2 (l7.map encTIface)),(V.lst 2 (l8.map encTType)),(V.lst 4 (l9.map encTFunc)),(V.lst 1 (l10.map encS)),(sV s6),(bV false)]]) rfl (rows_imm imms_encS) (ObSub.box (.cons Sub.keep (.cons Sub.keep (.cons Sub.keep (.cons (Sub.frzAll (rows:=l10.map encS) (List.length_map ..).symm) (.cons Sub.keep (.cons Sub.keep .nil)))))))) ?_
 refine fa ?_
 refine jP h (fun _:Unit=>(⟨[(2,(V.ptr 0 4 0 0)),(5,(V.ptr 1 6 0 0))],[(0,(Ob.arr 27 4 [[nV,nV,nV,nV]])),(1,(Ob.arr 48 6 [[(V.lst 2 (l7.map encTIface)),(V.lst 2 (l8.map encTType)),(V.lst 4 (l9.map encTFunc)),(V.lst 1 (l10.map encS)),(sV s6),(bV false)]]))],2⟩:St)) (fun k55 (_:Unit)=>k55=some r) (fun k55 h=>?_) ?_
 ·exact jE () h (gr [0,1] rfl (hB rfl rfl rfl (hB rfl rfl rfl .nil)) rfl)
 intro _ h
 obtain⟨y56,hx57,h⟩:=bind_some h
 obtain⟨y58,hx59,h⟩:=bind_some h
 obtain⟨y60,hx61,h⟩:=bind_some h
 obtain⟨y62,hx63,h⟩:=bind_some h
 refine awp_ghost ghost_res ?_
 refine awp_ghost ghost_res ?_
 refine awp_ghost ghost_res ?_
 refine awp_ghost ghost_res ?_
 refine awp_ghost ghost_res ?_
 refine fa ?_
 refine drA 1 (fun ob=>∃z0:Bool,ob=(Ob.arr 48 6 [[(V.lst 2 (l7.map encTIface)),(V.lst 2 (l8.map encTType)),(V.lst 4 (l9.map encTFunc)),(V.lst 1 (l10.map encS)),(sV s6),(bV z0)]])) ⟨_,rfl⟩ mixed (vs 1 rfl (xD (OD.mk [(59,(V.ptr 1 6 0 0))] [(1,(Ob.arr 48 6 [[(V.lst 2 (l7.map encTIface)),(V.lst 2 (l8.map encTType)),(V.lst 4 (l9.map encTFunc)),(V.lst 1 (l10.map encS)),(sV s6),(bV false)]])),(2,Ob.res)] [(60,(V.own 2 (y56.2).length))] [(1,(Ob.arr 48 6 [[(V.lst 2 (l7.map encTIface)),(V.lst 2 (l8.map encTType)),(V.lst 4 (l9.map encTFunc)),(V.lst 1 (l10.map encS)),(sV s6),(bV (y56.1))]])),(2,(Ob.arr 56 2 ((y56.2).map encTIface)))]) ⟨⟨rfl,trivial⟩,⟨rfl,rfl,trivial⟩⟩ (by exact fun S hn h hh=>aops_mcall_atH [2] hn (List.forall_mem_cons.2 ⟨hh.2.1,(fun _ hx=>nomatch hx)⟩) (V.own 2 (y56.2).length) [(V.ptr 1 6 0 0)] (fun i=>([1]:List Nat).getD i 0) (fun i=>([1,2]:List Nat).getD i 0) [(1,(Ob.arr 48 6 [[(V.lst 2 (l7.map encTIface)),(V.lst 2 (l8.map encTType)),(V.lst 4 (l9.map encTFunc)),(V.lst 1 (l10.map encS)),(sV s6),(bV (y56.1))]])),(2,(Ob.arr 56 2 ((y56.2).map encTIface)))] fOk18 wants_none rfl (evm_cons h.1 evm_nil) (.cons (Sub.ptr rfl rfl) .nil) (HpSub.consE (id:=0) rfl hh.1 (ObSub.box (.cons (Sub.imm (Imm.lst _ _)) (.cons (Sub.imm (Imm.lst _ _)) (.cons (Sub.imm (Imm.lst _ _)) (.cons (Sub.imm (Imm.lst _ _)) (.cons (Sub.imm (Imm.con _)) (.cons (Sub.imm (Imm.con _)) .nil))))))) .nil) (W18 F (Tprovenderref6_reader.mk (TGraph.mk l7 l8 l9 l10) s6 false) y56 hx57) rfl rfl rfl rfl (Sub.ownT rfl rfl) (.cons rfl (ObSub.box (.cons (Sub.immT (Imm.lst _ _)) (.cons (Sub.immT (Imm.lst _ _)) (.cons (Sub.immT (Imm.lst _ _)) (.cons (Sub.immT (Imm.lst _ _)) (.cons (Sub.immT (Imm.con _)) (.cons (Sub.immT (Imm.con _)) .nil))))))) (.cons rfl (ObSub.rowsT (rows_imm imms_encTIface)) .nil)) (aops_nil ⟨rfl,rfl⟩)) rfl (vs 1 rfl (xD (OD.mk [(61,(V.ptr 1 6 0 0))] [(1,(Ob.arr 48 6 [[(V.lst 2 (l7.map encTIface)),(V.lst 2 (l8.map encTType)),(V.lst 4 (l9.map encTFunc)),(V.lst 1 (l10.map encS)),(sV s6),(bV (y56.1))]])),(3,Ob.res)] [(62,(V.own 3 (y58.2).length))] [(1,(Ob.arr 48 6 [[(V.lst 2 (l7.map encTIface)),(V.lst 2 (l8.map encTType)),(V.lst 4 (l9.map encTFunc)),(V.lst 1 (l10.map encS)),(sV s6),(bV (y58.1))]])),(3,(Ob.arr 61 2 ((y58.2).map encTType)))]) ⟨⟨rfl,trivial⟩,⟨rfl,rfl,trivial⟩⟩ (by exact fun S hn h hh=>aops_mcall_atH [3] hn (List.forall_mem_cons.2 ⟨hh.2.1,(fun _ hx=>nomatch hx)⟩) (V.own 3 (y58.2).length) [(V.ptr 1 6 0 0)] (fun i=>([1]:List Nat).getD i 0) (fun i=>([1,3]:List Nat).getD i 0) [(1,(Ob.arr 48 6 [[(V.lst 2 (l7.map encTIface)),(V.lst 2 (l8.map encTType)),(V.lst 4 (l9.map encTFunc)),(V.lst 1 (l10.map encS)),(sV s6),(bV (y58.1))]])),(3,(Ob.arr 61 2 ((y58.2).map encTType)))] fOk19 wants_none rfl (evm_cons h.1 evm_nil) (.cons (Sub.ptr rfl rfl) .nil) (HpSub.consE (id:=0) rfl hh.1 (ObSub.box (.cons (Sub.imm (Imm.lst _ _)) (.cons (Sub.imm (Imm.lst _ _)) (.cons (Sub.imm (Imm.lst _ _)) (.cons (Sub.imm (Imm.lst _ _)) (.cons (Sub.imm (Imm.con _)) (.cons (Sub.imm (Imm.con _)) .nil))))))) .nil) (W19 F (Tprovenderref6_reader.mk (TGraph.mk l7 l8 l9 l10) s6 (y56.1)) y58 hx59) rfl rfl rfl rfl (Sub.ownT rfl rfl) (.cons rfl (ObSub.box (.cons (Sub.immT (Imm.lst _ _)) (.cons (Sub.immT (Imm.lst _ _)) (.cons (Sub.immT (Imm.lst _ _)) (.cons (Sub.immT (Imm.lst _ _)) (.cons (Sub.immT (Imm.con _)) (.cons (Sub.immT (Imm.con _)) .nil))))))) (.cons rfl (ObSub.rowsT (rows_imm imms_encTType)) .nil)) (aops_nil ⟨rfl,rfl⟩)) rfl (vs 1 rfl (xD (OD.mk [(63,(V.ptr 1 6 0 0))] [(1,(Ob.arr 48 6 [[(V.lst 2 (l7.map encTIface)),(V.lst 2 (l8.map encTType)),(V.lst 4 (l9.map encTFunc)),(V.lst 1 (l10.map encS)),(sV s6),(bV (y58.1))]])),(4,Ob.res)] [(64,(V.own 4 (y60.2).length))] [(1,(Ob.arr 48 6 [[(V.lst 2 (l7.map encTIface)),(V.lst 2 (l8.map encTType)),(V.lst 4 (l9.map encTFunc)),(V.lst 1 (l10.map encS)),(sV s6),(bV (y60.1))]])),(4,(Ob.arr 71 4 ((y60.2).map encTFunc)))]) ⟨⟨rfl,trivial⟩,⟨rfl,rfl,trivial⟩⟩ (by exact fun S hn h hh=>aops_mcall_atH [4] hn (List.forall_mem_cons.2 ⟨hh.2.1,(fun _ hx=>nomatch hx)⟩) (V.own 4 (y60.2).length) [(V.ptr 1 6 0 0)] (fun i=>([1]:List Nat).getD i 0) (fun i=>([1,4]:List Nat).getD i 0) [(1,(Ob.arr 48 6 [[(V.lst 2 (l7.map encTIface)),(V.lst 2 (l8.map encTType)),(V.lst 4 (l9.map encTFunc)),(V.lst 1 (l10.map encS)),(sV s6),(bV (y60.1))]])),(4,(Ob.arr 71 4 ((y60.2).map encTFunc)))] fOk20 wants_none rfl (evm_cons h.1 evm_nil) (.cons (Sub.ptr rfl rfl) .nil) (HpSub.consE (id:=0) rfl hh.1 (ObSub.box (.cons (Sub.imm (Imm.lst _ _)) (.cons (Sub.imm (Imm.lst _ _)) (.cons (Sub.imm (Imm.lst _ _)) (.cons (Sub.imm (Imm.lst _ _)) (.cons (Sub.imm (Imm.con _)) (.cons (Sub.imm (Imm.con _)) .nil))))))) .nil) (W20 F (Tprovenderref6_reader.mk (TGraph.mk l7 l8 l9 l10) s6 (y58.1)) y60 hx61) rfl rfl rfl rfl (Sub.ownT rfl rfl) (.cons rfl (ObSub.box (.cons (Sub.immT (Imm.lst _ _)) (.cons (Sub.immT (Imm.lst _ _)) (.cons (Sub.immT (Imm.lst _ _)) (.cons (Sub.immT (Imm.lst _ _)) (.cons (Sub.immT (Imm.con _)) (.cons (Sub.immT (Imm.con _)) .nil))))))) (.cons rfl (ObSub.rowsT (rows_imm imms_encTFunc)) .nil)) (aops_nil ⟨rfl,rfl⟩)) rfl (vs 5 rfl (xA (OD.mk [(69,(V.ptr 1 6 0 3))] [] [(70,(V.lst 1 (l10.map encS)))] []) ⟨⟨rfl,trivial⟩,trivial⟩ (by intro S hn hA h hh;obtain⟨z0,hA⟩:=hA;exact aops_load_cell (V.lst 1 (l10.map encS)) tC25 wants_none h.1 hA rfl rfl rfl rfl (aops_nil ⟨rfl,rfl⟩)) rfl (xD (OD.mk [(65,(V.ptr 1 6 0 0)),(70,(V.lst 1 (l10.map encS)))] [(1,(Ob.arr 48 6 [[(V.lst 2 (l7.map encTIface)),(V.lst 2 (l8.map encTType)),(V.lst 4 (l9.map encTFunc)),(V.lst 1 (l10.map encS)),(sV s6),(bV (y60.1))]])),(5,Ob.res)] [(71,(V.own 5 (y62.2).length))] [(1,(Ob.arr 48 6 [[(V.lst 2 (l7.map encTIface)),(V.lst 2 (l8.map encTType)),(V.lst 4 (l9.map encTFunc)),(V.lst 1 (l10.map encS)),(sV s6),(bV (y62.1))]])),(5,(Ob.arr 9 1 ((y62.2).map encS)))]) ⟨⟨rfl,rfl,trivial⟩,⟨rfl,rfl,trivial⟩⟩ (by exact fun S hn h hh=>aops_mcall_atH [5] hn (List.forall_mem_cons.2 ⟨hh.2.1,(fun _ hx=>nomatch hx)⟩) (V.own 5 (y62.2).length) [(V.ptr 1 6 0 0),(V.lst 1 (l10.map encS))] (fun i=>([1]:List Nat).getD i 0) (fun i=>([1,5]:List Nat).getD i 0) [(1,(Ob.arr 48 6 [[(V.lst 2 (l7.map encTIface)),(V.lst 2 (l8.map encTType)),(V.lst 4 (l9.map encTFunc)),(V.lst 1 (l10.map encS)),(sV s6),(bV (y62.1))]])),(5,(Ob.arr 9 1 ((y62.2).map encS)))] fOk21 wants_none rfl (evm_cons h.1 (evm_cons h.2.1 evm_nil)) (.cons (Sub.ptr rfl rfl) (.cons (Sub.imm (Imm.lst _ _)) .nil)) (HpSub.consE (id:=0) rfl hh.1 (ObSub.box (.cons (Sub.imm (Imm.lst _ _)) (.cons (Sub.imm (Imm.lst _ _)) (.cons (Sub.imm (Imm.lst _ _)) (.cons (Sub.imm (Imm.lst _ _)) (.cons (Sub.imm (Imm.con _)) (.cons (Sub.imm (Imm.con _)) .nil))))))) .nil) (W21 F l10 (Tprovenderref6_reader.mk (TGraph.mk l7 l8 l9 l10) s6 (y60.1)) y62 hx63) rfl rfl rfl rfl (Sub.ownT rfl rfl) (.cons rfl (ObSub.box (.cons (Sub.immT (Imm.lst _ _)) (.cons (Sub.immT (Imm.lst _ _)) (.cons (Sub.immT (Imm.lst _ _)) (.cons (Sub.immT (Imm.lst _ _)) (.cons (Sub.immT (Imm.con _)) (.cons (Sub.immT (Imm.con _)) .nil))))))) (.cons rfl (ObSub.rowsT (rows_imm imms_encS)) .nil)) (aops_nil ⟨rfl,rfl⟩)) rfl (vs 1 rfl (xD (OD.mk [] [(6,Ob.res)] [(11,(V.ptr 6 4 0 0))] [(6,(Ob.arr 27 4 [[nV,nV,nV,nV]]))]) ⟨trivial,⟨rfl,trivial⟩⟩ (by exact fun S hn h hh=>aops_alloc_at 6 rfl hn hh.1 tZ27 rfl rfl wants_none rfl (aops_nil ⟨rfl,rfl⟩)) rfl (vs 1 rfl .nil)))))))))))) (by kernel_rfl) (by repeat' (first|exact trivial|refine⟨(fun hu=>by first|exact⟨_,rfl⟩|exact absurd hu (by simp[says])),?_⟩)) ?_
 refine rn 2 rfl ?_
 refine jP h (fun _:Unit=>(⟨[(2,(V.ptr 0 4 0 0)),(5,(V.ptr 1 6 0 0)),(11,(V.ptr 2 4 0 0))],[(0,(Ob.arr 27 4 [[nV,nV,nV,nV]])),(1,(Ob.arr 48 6 [[(V.lst 2 (l7.map encTIface)),(V.lst 2 (l8.map encTType)),(V.lst 4 (l9.map encTFunc)),(V.lst 1 (l10.map encS)),(sV s6),(bV (y62.1))]])),(2,(Ob.arr 27 4 [[(V.own 3 (y56.2).length),(V.own 4 (y58.2).length),(V.own 5 (y60.2).length),(V.own 6 (y62.2).length)]])),(3,(Ob.arr 56 2 ((y56.2).map encTIface))),(4,(Ob.arr 61 2 ((y58.2).map encTType))),(5,(Ob.arr 71 4 ((y60.2).map encTFunc))),(6,(Ob.arr 9 1 ((y62.2).map encS)))],7⟩:St)) (fun k64 (_:Unit)=>k64=some r) (fun k64 h=>?_) ?_
 ·exact jE () h (gr [0,1,6,2,3,4,5] rfl (hB rfl rfl rfl (hB rfl rfl rfl (hB rfl rfl rfl (hR rfl rfl (hR rfl rfl (hR rfl rfl (hR rfl rfl .nil))))))) rfl)
 intro _ h
 refine rn 6 rfl ?_
 refine spC h rfl (fun hb65 h=>?_) (fun hb65 h=>?_)
 ·refine rn 7 rfl ?_
  exact rt h rfl
 refine rn 3 rfl ?_
 refine awp_ghost (ghost_frzC 3 2 (Ob.arr 27 4 [[(V.lst 2 ((y56.2).map encTIface)),(V.own 4 (y58.2).length),(V.own 5 (y60.2).length),(V.own 6 (y62.2).length)]]) rfl (rows_imm imms_encTIface) (ObSub.box (.cons (Sub.frzAll (rows:=(y56.2).map encTIface) (List.length_map ..).symm) (.cons Sub.keep (.cons Sub.keep (.cons Sub.keep .nil)))))) ?_
 refine awp_ghost (ghost_frzC 4 2 (Ob.arr 27 4 [[(V.lst 2 ((y56.2).map encTIface)),(V.lst 2 ((y58.2).map encTType)),(V.own 5 (y60.2).length),(V.own 6 (y62.2).length)]]) rfl (rows_imm imms_encTType) (ObSub.box (.cons Sub.keep (.cons (Sub.frzAll (rows:=(y58.2).map encTType) (List.length_map ..).symm) (.cons Sub.keep (.cons Sub.keep .nil)))))) ?_
 refine awp_ghost (ghost_frzC 5 2 (Ob.arr 27 4 [[(V.lst 2 ((y56.2).map encTIface)),(V.lst 2 ((y58.2).map encTType)),(V.lst 4 ((y60.2).map encTFunc)),(V.own 6 (y62.2).length)]]) rfl (rows_imm imms_encTFunc) (ObSub.box (.cons Sub.keep (.cons Sub.keep (.cons (Sub.frzAll (rows:=(y60.2).map encTFunc) (List.length_map ..).symm) (.cons Sub.keep .nil)))))) ?_
 refine awp_ghost (ghost_frzC 6 2 (Ob.arr 27 4 [[(V.lst 2 ((y56.2).map encTIface)),(V.lst 2 ((y58.2).map encTType)),(V.lst 4 ((y60.2).map encTFunc)),(V.lst 1 ((y62.2).map encS))]]) rfl (rows_imm imms_encS) (ObSub.box (.cons Sub.keep (.cons Sub.keep (.cons Sub.keep (.cons (Sub.frzAll (rows:=(y62.2).map encS) (List.length_map ..).symm) .nil)))))) ?_
 refine fa ?_
 refine jP h (fun _:Unit=>(⟨[(2,(V.ptr 0 4 0 0)),(11,(V.ptr 1 4 0 0))],[(0,(Ob.arr 27 4 [[nV,nV,nV,nV]])),(1,(Ob.arr 27 4 [[(V.lst 2 ((y56.2).map encTIface)),(V.lst 2 ((y58.2).map encTType)),(V.lst 4 ((y60.2).map encTFunc)),(V.lst 1 ((y62.2).map encS))]]))],2⟩:St)) (fun k66 (_:Unit)=>k66=some r) (fun k66 h=>?_) ?_
 ·exact jE () h (gr [0,2] rfl (hB rfl rfl rfl (hB rfl rfl rfl .nil)) rfl)
 intro _ h
 refine rn 2 rfl ?_
 refine cl h rfl rfl rfl (W22 _ _) rfl (fun y67 hx68 h=>?_)
 refine rn 7 rfl ?_
 refine spC h rfl (fun hb69 h=>?_) (fun hb69 h=>?_)
 ·refine rn 8 rfl ?_
  exact rt h rfl
 refine rn 8 rfl ?_
 exact rt h rfl
theorem W24(F:Nat)(a1:(List (List UInt8)))(a2:(List (List UInt8)))(r:Bool)(h:M24 F a1 a2=some r):PureG (gl mx) Tryz.prog 24 [(V.lst 1 (a1.map encS)),(V.lst 1 (a2.map encS))] (bV r):=by
 refine pin (fun r=>(bV r)) r rfl Tryz.func24 rfl rfl rfl rfl rfl (fun w0 m0 hg=>?_)
 unfold M24 at h
 refine rn 8 rfl ?_
 refine ln rfl rfl ?_
 refine rn 1 rfl ?_
 refine ln rfl rfl ?_
 refine rn 2 rfl ?_
 refine spC h rfl (fun hb3 h=>?_) (fun hb3 h=>?_)
 ·refine rn 4 rfl ?_
  exact rt h rfl
 refine rn 5 rfl ?_
 refine ln rfl rfl ?_
 refine rn 2 rfl ?_
 refine jK h (fun _:Unit=>(⟨[],[],0⟩:St)) (fun k4 (_:Unit)=>k4=some r) (fun k4 h=>?_) ?_
 ·refine rn 1 rfl ?_
  refine wl (A:=a1) 0 rfl (fun hA13=>?_)
  refine lC (fun(p:Int)=>(⟨[(0,(V.lst 1 (a1.map encS))),(1,(V.lst 1 (a2.map encS))),(12,(iV ((a1.length:Nat):Int))),(13,(iV p))],[],0⟩:St)) (fun n p=>RG a1 (fun tl nn=>M24_L1 F a2 k4 tl nn=some r) n p) (fun p h=>RG.zero h) (a1.length+1) 0 (RG.start h) (g0 rfl rfl) (fun n n6 h=>?_)
  refine rn 5 rfl ?_
  refine spL rfl (fun hb7=>?_) (fun hb7=>?_)
  ·obtain⟨x8,tl,hx9,h,hk1⟩:=RG.t hA13 h hb7
   unfold M24_L1 at h
   obtain⟨x10,hx11,h⟩:=bind_some h
   refine rn 9 rfl ?_
   refine dr mixed (vs 2 rfl (iD hx9 rfl rfl rfl (vs 3 rfl (iD hx11 rfl rfl rfl (vs 2 rfl .nil))))) (by kernel_rfl) ?_
   refine spC h rfl (fun hb12 h=>?_) (fun hb12 h=>?_)
   ·refine rn 4 rfl ?_
    exact rt h rfl
   refine rn 6 rfl ?_
   exact jX (w64 (n6+1)) (hk1 _ h) (g0 rfl rfl)
  replace h:=RG.f h hb7
  unfold M24_L1 at h
  refine rn 1 rfl ?_
  exact jX () h (g0 rfl rfl)
 intro _ h
 refine rn 4 rfl ?_
 exact rt h rfl
theorem W23(F:Nat)(a1:TIface)(a2:TIface)(r:Bool)(h:M23 F a1 a2=some r):PureG (gl mx) Tryz.prog 23 [(V.agg (encTIface a1)),(V.agg (encTIface a2))] (bV r):=by
 refine pin (fun r=>(bV r)) r rfl Tryz.func23 rfl rfl rfl rfl rfl (fun w0 m0 hg=>?_)
 unfold M23 at h
 refine rn 14 rfl ?_
 refine spO 10 h rfl (fun hb3 h=>?_) (fun hb3 h=>?_)
 ·refine rn 4 rfl ?_
  refine cl h rfl rfl rfl (W24 _ _ _) rfl (fun y4 hx5 h=>?_)
  refine rn 3 rfl ?_
  exact rt h rfl
 refine rn 8 rfl ?_
 exact rt h rfl
theorem W27(F:Nat)(a1:(List TIface))(a2:(List TIface))(r:Bool)(h:M27 F a1 a2=some r):PureG (gl mx) Tryz.prog 27 [(V.lst 2 (a1.map encTIface)),(V.lst 2 (a2.map encTIface)),(V.fn (.func 23) [] [])] (bV r):=by
 refine pin (fun r=>(bV r)) r rfl Tryz.func27 rfl rfl rfl rfl rfl (fun w0 m0 hg=>?_)
 unfold M27 at h
 refine rn 8 rfl ?_
 refine ln rfl rfl ?_
 refine rn 1 rfl ?_
 refine ln rfl rfl ?_
 refine rn 2 rfl ?_
 refine spC h rfl (fun hb3 h=>?_) (fun hb3 h=>?_)
 ·refine rn 4 rfl ?_
  exact rt h rfl
 refine rn 5 rfl ?_
 refine ln rfl rfl ?_
 refine rn 2 rfl ?_
 refine jK h (fun _:Unit=>(⟨[],[],0⟩:St)) (fun k4 (_:Unit)=>k4=some r) (fun k4 h=>?_) ?_
 ·refine rn 1 rfl ?_
  refine wl (A:=a1) 0 rfl (fun hA15=>?_)
  refine lC (fun(p:Int)=>(⟨[(1,(V.lst 2 (a2.map encTIface))),(2,(V.fn (.func 23) [] [])),(15,(V.lst 2 (a1.map encTIface))),(16,(iV ((a1.length:Nat):Int))),(17,(iV p))],[],0⟩:St)) (fun n p=>RG a1 (fun tl nn=>M27_L1 F a2 k4 tl nn=some r) n p) (fun p h=>RG.zero h) (a1.length+1) 0 (RG.start h) (g0 rfl rfl) (fun n n6 h=>?_)
  refine rn 5 rfl ?_
  refine spL rfl (fun hb7=>?_) (fun hb7=>?_)
  ·obtain⟨x8,tl,hx9,h,hk1⟩:=RG.t hA15 h hb7
   unfold M27_L1 at h
   refine rn 6 rfl ?_
   refine ixh hx9 rfl rfl ?_
   refine rn 9 rfl ?_
   refine ixl h rfl rfl (fun x10 hx11 h=>?_)
   refine rn 9 rfl ?_
   refine cl h rfl rfl rfl (W23 _ _ _) rfl (fun y12 hx13 h=>?_)
   refine rn 2 rfl ?_
   refine spC h rfl (fun hb14 h=>?_) (fun hb14 h=>?_)
   ·refine rn 4 rfl ?_
    exact rt h rfl
   refine rn 6 rfl ?_
   exact jX (w64 (n6+1)) (hk1 _ h) (g0 rfl rfl)
  replace h:=RG.f h hb7
  unfold M27_L1 at h
  refine rn 1 rfl ?_
  exact jX () h (g0 rfl rfl)
 intro _ h
 refine rn 4 rfl ?_
 exact rt h rfl
theorem W26(F:Nat)(a1:(List TMethod))(a2:(List TMethod))(r:Bool)(h:M26 F a1 a2=some r):PureG (gl mx) Tryz.prog 26 [(V.lst 2 (a1.map encTMethod)),(V.lst 2 (a2.map encTMethod))] (bV r):=by
 refine pin (fun r=>(bV r)) r rfl Tryz.func26 rfl rfl rfl rfl rfl (fun w0 m0 hg=>?_)
 unfold M26 at h
 refine rn 8 rfl ?_
 refine ln rfl rfl ?_
 refine rn 1 rfl ?_
 refine ln rfl rfl ?_
 refine rn 2 rfl ?_
 refine spC h rfl (fun hb3 h=>?_) (fun hb3 h=>?_)
 ·refine rn 4 rfl ?_
  exact rt h rfl
 refine rn 5 rfl ?_
 refine ln rfl rfl ?_
 refine rn 2 rfl ?_
 refine jK h (fun _:Unit=>(⟨[],[],0⟩:St)) (fun k4 (_:Unit)=>k4=some r) (fun k4 h=>?_) ?_
 ·refine rn 1 rfl ?_
  refine wl (A:=a1) 0 rfl (fun hA13=>?_)
  refine lC (fun(p:Int)=>(⟨[(0,(V.lst 2 (a1.map encTMethod))),(1,(V.lst 2 (a2.map encTMethod))),(12,(iV ((a1.length:Nat):Int))),(13,(iV p))],[],0⟩:St)) (fun n p=>RG a1 (fun tl nn=>M26_L1 F a2 k4 tl nn=some r) n p) (fun p h=>RG.zero h) (a1.length+1) 0 (RG.start h) (g0 rfl rfl) (fun n n6 h=>?_)
  refine rn 5 rfl ?_
  refine spL rfl (fun hb7=>?_) (fun hb7=>?_)
  ·obtain⟨x8,tl,hx9,h,hk1⟩:=RG.t hA13 h hb7
   unfold M26_L1 at h
   obtain⟨x10,hx11,h⟩:=bind_some h
   refine rn 9 rfl ?_
   refine dr mixed (vs 2 rfl (iD hx9 rfl rfl rfl (vs 3 rfl (iD hx11 rfl rfl rfl (vs 1 rfl (xD (OD.mk [(19,(V.agg (encTMethod x8))),(23,(V.agg (encTMethod x10)))] [] [(24,(bV (!(decide (x8=x10)))))] []) ⟨⟨rfl,rfl,trivial⟩,trivial⟩ (by exact fun S hn h hh=>aops_eqS true (xs:=cv64 x8) (ys:=cv64 x10) (b:=(decide (x8=x10))) eqk64 ⟨_,rfl⟩ ⟨_,rfl⟩ (eq_b cv64 _ _ (inj_cv64 _ _)) tEqG64 wants_none h.1 h.2.1 rfl (aops_nil ⟨rfl,rfl⟩)) rfl .nil)))))) (by kernel_rfl) ?_
   refine spC h rfl (fun hb12 h=>?_) (fun hb12 h=>?_)
   ·refine rn 4 rfl ?_
    exact rt h rfl
   refine rn 6 rfl ?_
   exact jX (w64 (n6+1)) (hk1 _ h) (g0 rfl rfl)
  replace h:=RG.f h hb7
  unfold M26_L1 at h
  refine rn 1 rfl ?_
  exact jX () h (g0 rfl rfl)
 intro _ h
 refine rn 4 rfl ?_
 exact rt h rfl
theorem W25(F:Nat)(a1:TType)(a2:TType)(r:Bool)(h:M25 F a1 a2=some r):PureG (gl mx) Tryz.prog 25 [(V.agg (encTType a1)),(V.agg (encTType a2))] (bV r):=by
 refine pin (fun r=>(bV r)) r rfl Tryz.func25 rfl rfl rfl rfl rfl (fun w0 m0 hg=>?_)
 unfold M25 at h
 refine rn 14 rfl ?_
 refine spO 10 h rfl (fun hb3 h=>?_) (fun hb3 h=>?_)
 ·refine rn 4 rfl ?_
  refine cl h rfl rfl rfl (W26 _ _ _) rfl (fun y4 hx5 h=>?_)
  refine rn 3 rfl ?_
  exact rt h rfl
 refine rn 8 rfl ?_
 exact rt h rfl
theorem W28(F:Nat)(a1:(List TType))(a2:(List TType))(r:Bool)(h:M28 F a1 a2=some r):PureG (gl mx) Tryz.prog 28 [(V.lst 2 (a1.map encTType)),(V.lst 2 (a2.map encTType)),(V.fn (.func 25) [] [])] (bV r):=by
 refine pin (fun r=>(bV r)) r rfl Tryz.func28 rfl rfl rfl rfl rfl (fun w0 m0 hg=>?_)
 unfold M28 at h
 refine rn 8 rfl ?_
 refine ln rfl rfl ?_
 refine rn 1 rfl ?_
 refine ln rfl rfl ?_
 refine rn 2 rfl ?_
 refine spC h rfl (fun hb3 h=>?_) (fun hb3 h=>?_)
 ·refine rn 4 rfl ?_
  exact rt h rfl
 refine rn 5 rfl ?_
 refine ln rfl rfl ?_
 refine rn 2 rfl ?_
 refine jK h (fun _:Unit=>(⟨[],[],0⟩:St)) (fun k4 (_:Unit)=>k4=some r) (fun k4 h=>?_) ?_
 ·refine rn 1 rfl ?_
  refine wl (A:=a1) 0 rfl (fun hA15=>?_)
  refine lC (fun(p:Int)=>(⟨[(1,(V.lst 2 (a2.map encTType))),(2,(V.fn (.func 25) [] [])),(15,(V.lst 2 (a1.map encTType))),(16,(iV ((a1.length:Nat):Int))),(17,(iV p))],[],0⟩:St)) (fun n p=>RG a1 (fun tl nn=>M28_L1 F a2 k4 tl nn=some r) n p) (fun p h=>RG.zero h) (a1.length+1) 0 (RG.start h) (g0 rfl rfl) (fun n n6 h=>?_)
  refine rn 5 rfl ?_
  refine spL rfl (fun hb7=>?_) (fun hb7=>?_)
  ·obtain⟨x8,tl,hx9,h,hk1⟩:=RG.t hA15 h hb7
   unfold M28_L1 at h
   refine rn 6 rfl ?_
   refine ixh hx9 rfl rfl ?_
   refine rn 9 rfl ?_
   refine ixl h rfl rfl (fun x10 hx11 h=>?_)
   refine rn 9 rfl ?_
   refine cl h rfl rfl rfl (W25 _ _ _) rfl (fun y12 hx13 h=>?_)
   refine rn 2 rfl ?_
   refine spC h rfl (fun hb14 h=>?_) (fun hb14 h=>?_)
   ·refine rn 4 rfl ?_
    exact rt h rfl
   refine rn 6 rfl ?_
   exact jX (w64 (n6+1)) (hk1 _ h) (g0 rfl rfl)
  replace h:=RG.f h hb7
  unfold M28_L1 at h
  refine rn 1 rfl ?_
  exact jX () h (g0 rfl rfl)
 intro _ h
 refine rn 4 rfl ?_
 exact rt h rfl
theorem W67(F:Nat)(a1:(List TCall))(a2:(List TCall))(r:Bool)(h:M67 F a1 a2=some r):PureG (gl mx) Tryz.prog 67 [(V.lst 4 (a1.map encTCall)),(V.lst 4 (a2.map encTCall))] (bV r):=by
 refine pin (fun r=>(bV r)) r rfl Tryz.func67 rfl rfl rfl rfl rfl (fun w0 m0 hg=>?_)
 unfold M67 at h
 refine rn 8 rfl ?_
 refine ln rfl rfl ?_
 refine rn 1 rfl ?_
 refine ln rfl rfl ?_
 refine rn 2 rfl ?_
 refine spC h rfl (fun hb3 h=>?_) (fun hb3 h=>?_)
 ·refine rn 4 rfl ?_
  exact rt h rfl
 refine rn 5 rfl ?_
 refine ln rfl rfl ?_
 refine rn 2 rfl ?_
 refine jK h (fun _:Unit=>(⟨[],[],0⟩:St)) (fun k4 (_:Unit)=>k4=some r) (fun k4 h=>?_) ?_
 ·refine rn 1 rfl ?_
  refine wl (A:=a1) 0 rfl (fun hA13=>?_)
  refine lC (fun(p:Int)=>(⟨[(0,(V.lst 4 (a1.map encTCall))),(1,(V.lst 4 (a2.map encTCall))),(12,(iV ((a1.length:Nat):Int))),(13,(iV p))],[],0⟩:St)) (fun n p=>RG a1 (fun tl nn=>M67_L1 F a2 k4 tl nn=some r) n p) (fun p h=>RG.zero h) (a1.length+1) 0 (RG.start h) (g0 rfl rfl) (fun n n6 h=>?_)
  refine rn 5 rfl ?_
  refine spL rfl (fun hb7=>?_) (fun hb7=>?_)
  ·obtain⟨x8,tl,hx9,h,hk1⟩:=RG.t hA13 h hb7
   unfold M67_L1 at h
   obtain⟨x10,hx11,h⟩:=bind_some h
   refine rn 9 rfl ?_
   refine dr mixed (vs 2 rfl (iD hx9 rfl rfl rfl (vs 3 rfl (iD hx11 rfl rfl rfl (vs 1 rfl (xD (OD.mk [(19,(V.agg (encTCall x8))),(23,(V.agg (encTCall x10)))] [] [(24,(bV (!(decide (x8=x10)))))] []) ⟨⟨rfl,rfl,trivial⟩,trivial⟩ (by exact fun S hn h hh=>aops_eqS true (xs:=cv74 x8) (ys:=cv74 x10) (b:=(decide (x8=x10))) eqk74 ⟨_,rfl⟩ ⟨_,rfl⟩ (eq_b cv74 _ _ (inj_cv74 _ _)) tEqG74 wants_none h.1 h.2.1 rfl (aops_nil ⟨rfl,rfl⟩)) rfl .nil)))))) (by kernel_rfl) ?_
   refine spC h rfl (fun hb12 h=>?_) (fun hb12 h=>?_)
   ·refine rn 4 rfl ?_
    exact rt h rfl
   refine rn 6 rfl ?_
   exact jX (w64 (n6+1)) (hk1 _ h) (g0 rfl rfl)
  replace h:=RG.f h hb7
  unfold M67_L1 at h
  refine rn 1 rfl ?_
  exact jX () h (g0 rfl rfl)
 intro _ h
 refine rn 4 rfl ?_
 exact rt h rfl
theorem W30(F:Nat)(a1:TFunc)(a2:TFunc)(r:Bool)(h:M30 F a1 a2=some r):PureG (gl mx) Tryz.prog 30 [(V.agg (encTFunc a1)),(V.agg (encTFunc a2))] (bV r):=by
 refine pin (fun r=>(bV r)) r rfl Tryz.func30 rfl rfl rfl rfl rfl (fun w0 m0 hg=>?_)
 unfold M30 at h
 refine rn 14 rfl ?_
 refine spO 10 h rfl (fun hb3 h=>?_) (fun hb3 h=>?_)
 ·refine rn 7 rfl ?_
  refine spO 17 h rfl (fun hb4 h=>?_) (fun hb4 h=>?_)
  ·refine rn 4 rfl ?_
   refine cl h rfl rfl rfl (W67 _ _ _) rfl (fun y5 hx6 h=>?_)
   refine rn 2 rfl ?_
   refine spO 24 h rfl (fun hb7 h=>?_) (fun hb7 h=>?_)
   ·refine rn 4 rfl ?_
    refine cl h rfl rfl rfl (W24 _ _ _) rfl (fun y8 hx9 h=>?_)
    refine rn 3 rfl ?_
    exact rt h rfl
   refine rn 8 rfl ?_
   exact rt h rfl
  refine rn 15 rfl ?_
  exact rt h rfl
 refine rn 22 rfl ?_
 exact rt h rfl
theorem W29(F:Nat)(a1:(List TFunc))(a2:(List TFunc))(r:Bool)(h:M29 F a1 a2=some r):PureG (gl mx) Tryz.prog 29 [(V.lst 4 (a1.map encTFunc)),(V.lst 4 (a2.map encTFunc)),(V.fn (.func 30) [] [])] (bV r):=by
 refine pin (fun r=>(bV r)) r rfl Tryz.func29 rfl rfl rfl rfl rfl (fun w0 m0 hg=>?_)
 unfold M29 at h
 refine rn 8 rfl ?_
 refine ln rfl rfl ?_
 refine rn 1 rfl ?_
 refine ln rfl rfl ?_
 refine rn 2 rfl ?_
 refine spC h rfl (fun hb3 h=>?_) (fun hb3 h=>?_)
 ·refine rn 4 rfl ?_
  exact rt h rfl
 refine rn 5 rfl ?_
 refine ln rfl rfl ?_
 refine rn 2 rfl ?_
 refine jK h (fun _:Unit=>(⟨[],[],0⟩:St)) (fun k4 (_:Unit)=>k4=some r) (fun k4 h=>?_) ?_
 ·refine rn 1 rfl ?_
  refine wl (A:=a1) 0 rfl (fun hA15=>?_)
  refine lC (fun(p:Int)=>(⟨[(1,(V.lst 4 (a2.map encTFunc))),(2,(V.fn (.func 30) [] [])),(15,(V.lst 4 (a1.map encTFunc))),(16,(iV ((a1.length:Nat):Int))),(17,(iV p))],[],0⟩:St)) (fun n p=>RG a1 (fun tl nn=>M29_L1 F a2 k4 tl nn=some r) n p) (fun p h=>RG.zero h) (a1.length+1) 0 (RG.start h) (g0 rfl rfl) (fun n n6 h=>?_)
  refine rn 5 rfl ?_
  refine spL rfl (fun hb7=>?_) (fun hb7=>?_)
  ·obtain⟨x8,tl,hx9,h,hk1⟩:=RG.t hA15 h hb7
   unfold M29_L1 at h
   refine rn 6 rfl ?_
   refine ixh hx9 rfl rfl ?_
   refine rn 9 rfl ?_
   refine ixl h rfl rfl (fun x10 hx11 h=>?_)
   refine rn 9 rfl ?_
   refine cl h rfl rfl rfl (W30 _ _ _) rfl (fun y12 hx13 h=>?_)
   refine rn 2 rfl ?_
   refine spC h rfl (fun hb14 h=>?_) (fun hb14 h=>?_)
   ·refine rn 4 rfl ?_
    exact rt h rfl
   refine rn 6 rfl ?_
   exact jX (w64 (n6+1)) (hk1 _ h) (g0 rfl rfl)
  replace h:=RG.f h hb7
  unfold M29_L1 at h
  refine rn 1 rfl ?_
  exact jX () h (g0 rfl rfl)
 intro _ h
 refine rn 4 rfl ?_
 exact rt h rfl
theorem W7(F:Nat)(a1:TGraph)(a2:TGraph)(r:Bool)(h:M7 F a1 a2=some r):PureG (gl mx) Tryz.prog 7 [(V.agg (encTGraph a1)),(V.agg (encTGraph a2))] (bV r):=by
 refine pin (fun r=>(bV r)) r rfl Tryz.func7 rfl rfl rfl rfl rfl (fun w0 m0 hg=>?_)
 unfold M7 at h
 refine rn 21 rfl ?_
 refine cl h rfl rfl rfl (W27 _ _ _) rfl (fun y3 hx4 h=>?_)
 refine rn 1 rfl ?_
 refine spO 13 h rfl (fun hb5 h=>?_) (fun hb5 h=>?_)
 ·refine rn 5 rfl ?_
  refine cl h rfl rfl rfl (W28 _ _ _) rfl (fun y6 hx7 h=>?_)
  refine rn 2 rfl ?_
  refine spO 21 h rfl (fun hb8 h=>?_) (fun hb8 h=>?_)
  ·refine rn 4 rfl ?_
   refine cl h rfl rfl rfl (W29 _ _ _) rfl (fun y9 hx10 h=>?_)
   refine rn 2 rfl ?_
   refine spO 28 h rfl (fun hb11 h=>?_) (fun hb11 h=>?_)
   ·refine rn 4 rfl ?_
    refine cl h rfl rfl rfl (W24 _ _ _) rfl (fun y12 hx13 h=>?_)
    refine rn 3 rfl ?_
    exact rt h rfl
   refine rn 8 rfl ?_
   exact rt h rfl
  refine rn 15 rfl ?_
  exact rt h rfl
 refine rn 23 rfl ?_
 exact rt h rfl
theorem W8(F:Nat)(r:Bool)(h:M8 F=some r):PureG (gl mx) Tryz.prog 8 [] (bV r):=by
 unfold M8 at h
 replace h:=Option.some.inj h
 subst h
 exact told_pure
theorem W3(F:Nat)(a1:(List UInt8))(r:Bool)(h:M3 F a1=some r):PureG (gl mx) Tryz.prog 3 [(sV a1)] (bV r):=by
 refine pin (fun r=>(bV r)) r rfl Tryz.func3 rfl rfl rfl rfl rfl (fun w0 m0 hg=>?_)
 unfold M3 at h
 refine rn 7 rfl ?_
 refine cl h rfl rfl rfl (W5 _ _) rfl (fun y2 hx3 h=>?_)
 refine rn 12 rfl ?_
 refine cl h rfl rfl rfl (W6 _ _) rfl (fun y4 hx5 h=>?_)
 refine rn 15 rfl ?_
 refine spO 24 h rfl (fun hb6 h=>?_) (fun hb6 h=>?_)
 ·refine rn 5 rfl ?_
  refine spO 29 h rfl (fun hb7 h=>?_) (fun hb7 h=>?_)
  ·refine rn 2 rfl ?_
   refine cl h rfl rfl rfl (W7 _ _ _) rfl (fun y8 hx9 h=>?_)
   refine rn 2 rfl ?_
   refine spO 34 h rfl (fun hb10 h=>?_) (fun hb10 h=>?_)
   ·refine cl h rfl rfl rfl (W8 _) rfl (fun y11 hx12 h=>?_)
    refine rn 3 rfl ?_
    exact rt h rfl
   refine rn 4 rfl ?_
   exact rt h rfl
  refine rn 9 rfl ?_
  exact rt h rfl
 refine rn 14 rfl ?_
 exact rt h rfl
end Go.Proofs.YtjofofmllnpkpaaGreatDoor
