/- Part of the proof: R3W3a. -/
import Derived.Test.YtjofofmllnpkpaaGreatDoorRR3M
import Derived.Test.YtjofofmllnpkpaaGreatDoorRR3Sh
import Derived.KernelRfl
namespace Go.Proofs.YtjofofmllnpkpaaGreatDoor
open Go Go.Pv
set_option linter.unusedVariables false
set_option maxRecDepth 100000
variable{mx:Int}
theorem W11(F:Nat)(a1:(List UInt8))(a2:(List UInt8))(r:List (List UInt8))(h:M11 F a1 a2=some r):PureG (gl mx) Tryz.prog 11 [(sV a1),(sV a2)] (V.lst 1 (r.map encS)):=by
 unfold M11 at h
 obtain⟨hc,h⟩:=chk_some h
 replace h:=Option.some.inj h
 subst h
 exact pure_split (g:=0) (T:=9) rfl hc (fun w h1 h2 h3=>Go.Proofs.Tryz.strings_Split _ _ _ w h1 h2 h3)
theorem W16(F:Nat)(a1:(List UInt8))(a2:(List UInt8))(r:((List UInt8)×(List UInt8)×Bool))(h:M16 F a1 a2=some r):PureG (gl mx) Tryz.prog 16 [(sV a1),(sV a2)] (V.tup [(sV (r.1)),(sV (r.2.1)),(bV (r.2.2))]):=by
 unfold M16 at h
 obtain⟨hc,h⟩:=chk_some h
 replace h:=Option.some.inj h
 subst h
 exact pure_cut (g:=0) rfl hc (fun w h1 h2=>Go.Proofs.Tryz.strings_Cut _ _ _ w h1 h2)
theorem W12(F:Nat)(a1:(List UInt8))(r:(List (List UInt8)))(h:M12 F a1=some r):PureG (gl mx) Tryz.prog 12 [(sV a1)] (V.lst 1 (r.map encS)):=by
 refine pin (fun r=>(V.lst 1 (r.map encS))) r rfl Tryz.func12 rfl rfl rfl rfl rfl (fun w0 m0 hg=>?_)
 unfold M12 at h
 refine rn 7 rfl ?_
 refine cl h rfl rfl rfl (W16 _ _ _) rfl (fun y2 hx3 h=>?_)
 refine rn 14 rfl ?_
 refine cl h rfl rfl rfl (W11 _ _ _) rfl (fun y4 hx5 h=>?_)
 refine ln rfl rfl ?_
 refine rn 2 rfl ?_
 refine jK h (fun(p:(List (List UInt8)))=>(⟨[(3,(V.own 0 p.length))],[(0,(Ob.arr 9 1 (p.map encS)))],1⟩:St)) (fun k6 p=>k6 p=some r) (fun k6 h=>?_) ?_
 ·refine rn 1 rfl ?_
  refine wl (A:=y4) 13 rfl (fun hA19=>?_)
  refine lC (fun(p:Int×(List (List UInt8)))=>(⟨[(3,(V.own 0 (p.2).length)),(13,(V.lst 1 (y4.map encS))),(14,(iV ((y4.length:Nat):Int))),(15,(iV (p.1)))],[(0,(Ob.arr 9 1 ((p.2).map encS)))],1⟩:St)) (fun n p=>RG y4 (fun tl nn=>M12_L1 F k6 tl p.2=some r) n p.1) (fun p h=>RG.zero h) (y4.length+1) (0,([]:List (List UInt8))) (RG.start h) (Ghost.trans (ghost_nilE 3 9 1 rfl) (ghost_ren 1 (fun i=>([0]:List Nat).getD i 0) _ _ (by decide) (EnvSub.get (.cons (Sub.ownE rfl rfl (by simp)) (.cons (Sub.imm (Imm.lst _ _)) (.cons (Sub.imm (Imm.con _)) (.cons (Sub.imm (Imm.con _)) .nil))))) (HpSub.get (.cons rfl (ObSub.rows (rows_imm imms_encS)) .nil)) rfl)) (fun n p h=>?_)
  obtain⟨n10,l11⟩:=p
  refine rn 5 rfl ?_
  refine spL rfl (fun hb12=>?_) (fun hb12=>?_)
  ·obtain⟨x13,tl,hx14,h,hk1⟩:=RG.t hA19 h hb12
   unfold M12_L1 at h
   refine rn 5 rfl ?_
   refine ixh hx14 rfl rfl ?_
   refine rn 8 rfl ?_
   refine jK h (fun(p:(List (List UInt8)))=>(⟨[(3,(V.own 0 p.length)),(13,(V.lst 1 (y4.map encS))),(14,(iV ((y4.length:Nat):Int))),(15,(iV n10))],[(0,(Ob.arr 9 1 (p.map encS)))],1⟩:St)) (fun k15 p=>k15 p=some r) (fun k15 h=>?_) ?_
   ·refine spC h rfl (fun hb17 h=>?_) (fun hb17 h=>?_)
    ·refine rn 3 rfl ?_
     refine aops_buildSlice [(0,(sV x13))] [[(sV x13)]] tEl25 tZ9 rfl rfl rfl rfl wants_none (evp_cons rfl evp_nil) rfl rfl (by simp) rfl ?_
     refine fo ?_
     refine apO encS h rfl rfl rfl rfl rfl rfl rfl rfl (fun h=>?_)
     refine rn 2 rfl ?_
     exact jX (l11++([x13]:List (List UInt8))) h (gr [2] rfl (hR rfl rfl .nil) rfl)
    refine rn 1 rfl ?_
    exact jX l11 h (gr [0] rfl (hR rfl rfl .nil) rfl)
   intro l16 h
   refine rn 5 rfl ?_
   exact jX ((w64 (n10+1)),l16) (hk1 _ h) (gr [0] rfl (hR rfl rfl .nil) rfl)
  replace h:=RG.f h hb12
  unfold M12_L1 at h
  refine rn 1 rfl ?_
  exact jX l11 h (gr [0] rfl (hR rfl rfl .nil) rfl)
 intro l7 h
 refine rn 5 rfl ?_
 refine awp_ghost (ghost_frzEs 0 [2,3,26] rfl (rows_imm imms_encS) (List.forall_mem_cons.2 ⟨rfl,(List.forall_mem_cons.2 ⟨rfl,(List.forall_mem_cons.2 ⟨rfl,(fun _ hx=>nomatch hx)⟩)⟩)⟩) (List.length_map ..).symm) ?_
 refine fa ?_
 exact rt h rfl
theorem W75(F:Nat)(a1:Int)(a2:Int)(a3:(List (List UInt8)))(r:(TCall×Bool))(h:M75 F a1 a2 a3=some r):PureG (gl mx) Tryz.prog 75 [(iV a1),(iV a2),(V.lst 1 (a3.map encS))] (V.tup [(V.agg (encTCall (r.1))),(bV (r.2))]):=by
 refine pin (fun r=>(V.tup [(V.agg (encTCall (r.1))),(bV (r.2))])) r rfl Tryz.func75 rfl rfl rfl rfl rfl (fun w0 m0 hg=>?_)
 unfold M75 at h
 refine rn 17 rfl ?_
 refine ln rfl rfl ?_
 refine rn 4 rfl ?_
 refine jK h (fun(p:(List UInt8))=>(⟨[(1,(iV a2)),(2,(V.lst 1 (a3.map encS))),(6,(V.ptr 0 4 0 0)),(8,(V.ptr 1 4 0 0))],[(0,(Ob.arr 74 4 [[(iV 0),(sV ([]:List UInt8)),(sV ([]:List UInt8)),(sV ([]:List UInt8))]])),(1,(Ob.arr 74 4 [[(iV a1),(sV ([]:List UInt8)),(sV ([]:List UInt8)),(sV p)]]))],2⟩:St)) (fun k4 p=>k4 p=some r) (fun k4 h=>?_) ?_
 ·refine spC h rfl (fun hb6 h=>?_) (fun hb6 h=>?_)
  ·refine rn 1 rfl ?_
   exact jX ([]:List UInt8) h (gr [0,1] rfl (hB rfl rfl rfl (hB rfl rfl rfl .nil)) rfl)
  refine rn 3 rfl ?_
  refine ln rfl rfl ?_
  refine rn 4 rfl ?_
  refine spO 23 h rfl (fun hb7 h=>?_) (fun hb7 h=>?_)
  ·refine rn 2 rfl ?_
   refine ixl h rfl rfl (fun x8 hx9 h=>?_)
   refine rn 5 rfl ?_
   refine spC h rfl (fun hb10 h=>?_) (fun hb10 h=>?_)
   ·refine rn 4 rfl ?_
    refine ixl h rfl rfl (fun x11 hx12 h=>?_)
    refine rn 4 rfl ?_
    exact jX x11 h (gr [0,1] rfl (hB rfl rfl rfl (hB rfl rfl rfl .nil)) rfl)
   refine rn 6 rfl ?_
   exact rt h rfl
  refine rn 15 rfl ?_
  exact rt h rfl
 intro s5 h
 refine rn 4 rfl ?_
 refine ixl h rfl rfl (fun x13 hx14 h=>?_)
 refine rn 10 rfl ?_
 refine jK h (fun(p:(List UInt8))=>(⟨[(6,(V.ptr 0 4 0 0)),(8,(V.ptr 1 4 0 0))],[(0,(Ob.arr 74 4 [[(iV 0),(sV ([]:List UInt8)),(sV ([]:List UInt8)),(sV ([]:List UInt8))]])),(1,(Ob.arr 74 4 [[(iV a1),(sV x13),(sV p),(sV s5)]]))],2⟩:St)) (fun k15 p=>k15 p=some r) (fun k15 h=>?_) ?_
 ·refine spC h rfl (fun hb17 h=>?_) (fun hb17 h=>?_)
  ·refine rn 2 rfl ?_
   refine ixl h rfl rfl (fun x18 hx19 h=>?_)
   refine rn 4 rfl ?_
   exact jX x18 h (gr [0,1] rfl (hB rfl rfl rfl (hB rfl rfl rfl .nil)) rfl)
  refine rn 1 rfl ?_
  exact jX ([]:List UInt8) h (gr [0,1] rfl (hB rfl rfl rfl (hB rfl rfl rfl .nil)) rfl)
 intro s16 h
 refine rn 6 rfl ?_
 exact rt h rfl
theorem W39(F:Nat)(a1:(List (List UInt8)))(a2:Int)(a3:List TIface)(a4:List TType)(a5:List TFunc)(a6:List (List UInt8))(r:(Bool×(List TType)×(List TFunc)))(h:M39 F a1 a2 a3 a4 a5 a6=some r):MutG (gl mx) Tryz.prog 39 [(V.ptr 0 5 0 0),(V.lst 1 (a1.map encS))] 5 [(0,(Ob.arr 39 5 [[(V.own 1 a3.length),(V.own 2 a4.length),(V.own 3 a5.length),(V.own 4 a6.length),(iV a2)]])),(1,(Ob.arr 56 2 (a3.map encTIface))),(2,(Ob.arr 61 2 (a4.map dencTType))),(3,(Ob.arr 71 4 (a5.map dencTFunc))),(4,(Ob.arr 9 1 (a6.map encS)))] (resV [(bV (r.1))]) 5 [(0,(Ob.arr 39 5 [[(V.own 1 a3.length),(V.own 2 (r.2.1).length),(V.own 3 (r.2.2).length),(V.own 4 a6.length),(iV a2)]])),(1,(Ob.arr 56 2 (a3.map encTIface))),(2,(Ob.arr 61 2 ((r.2.1).map dencTType))),(3,(Ob.arr 71 4 ((r.2.2).map dencTFunc))),(4,(Ob.arr 9 1 (a6.map encS)))]:=by
 refine mut_enter Tryz.func39 rfl rfl (l:=[.tmp 4]) rfl rfl [(0,(V.ptr 0 5 0 0)),(1,(V.lst 1 (a1.map encS)))] rfl (fun w0 m0 β0 hg=>en ?_)
 unfold M39 at h
 refine rn 5 rfl ?_
 refine jK h (fun _:Unit=>(⟨[(0,(V.ptr 0 5 0 0)),(1,(V.lst 1 (a1.map encS)))],[(0,(Ob.arr 39 5 [[(V.own 1 a3.length),(V.own 2 a4.length),(V.own 3 a5.length),(V.own 4 a6.length),(iV a2)]])),(1,(Ob.arr 56 2 (a3.map encTIface))),(2,(Ob.arr 61 2 (a4.map dencTType))),(3,(Ob.arr 71 4 (a5.map dencTFunc))),(4,(Ob.arr 9 1 (a6.map encS)))],5⟩:St)) (fun k50 (_:Unit)=>k50=some r) (fun k50 h=>?_) ?_
 ·refine rn 4 rfl ?_
  refine ixl h rfl rfl (fun x51 hx52 h=>?_)
  refine rn 3 rfl ?_
  refine spO 14 h rfl (fun hb53 h=>?_) (fun hb53 h=>?_)
  ·refine rn 7 rfl ?_
   refine spO 21 h rfl (fun hb54 h=>?_) (fun hb54 h=>?_)
   ·refine rn 1 rfl ?_
    refine ln rfl rfl ?_
    refine rn 4 rfl ?_
    refine spC h rfl (fun hb55 h=>?_) (fun hb55 h=>?_)
    ·obtain⟨x56,hx57,h⟩:=bind_some h
     refine rn 1 rfl ?_
     refine dr mixed (vs 12 rfl (oD (a:=a4) hx57 rfl rfl rfl rfl (vs 1 rfl .nil))) (by kernel_rfl) ?_
     obtain⟨x58,hx59,h⟩:=bind_some h
     obtain⟨x60,hx61,h⟩:=bind_some h
     refine rn 1 rfl ?_
     refine ck h (fun hc62 h=>?_)
     refine awp_ghost ghost_res ?_
     refine awp_ghost ghost_res ?_
     refine fa ?_
     refine dr mixed (vs 4 rfl (xD (OD.mk [(42,(V.ptr 2 2 (w64 (((a4.length:Nat):Int) - 1)).toNat 1))] [(2,(Ob.arr 61 2 (a4.map dencTType))),(5,Ob.res)] [(43,(V.own 5 x56.Methods.length))] [(2,(Ob.arr 61 2 (setC (a4.map dencTType) ((w64 (((a4.length:Nat):Int) - 1)).toNat) (dencTType x56) 1 (V.own 5 x56.Methods.length)))),(5,(Ob.arr 64 2 (x56.Methods.map encTMethod)))]) ⟨⟨rfl,trivial⟩,⟨rfl,rfl,trivial⟩⟩ (by exact fun S hn h hh=>aops_load_takeS_at 5 rfl hn hh.2.1 dencTType encTMethod rfl tC59 wants_none h.1 hh.1 (idx_some hx57).2 rfl rfl (aops_nil ⟨rfl,rfl⟩)) rfl (vs 1 rfl (iD hx59 rfl rfl rfl (vs 2 rfl (iD hx61 rfl rfl rfl (vs 2 rfl (xD (OD.mk [(50,(V.agg [(sV x58),(sV x60)]))] [] [(51,(V.lst 2 (([(TMethod.mk x58 x60)]:List TMethod).map encTMethod)))] []) ⟨⟨rfl,trivial⟩,trivial⟩ (by exact fun S hn h hh=>aops_buildSlice_imm [(0,(V.agg [(sV x58),(sV x60)]))] [[(sV x58),(sV x60)]] tEl59 tZ64 wants_none rfl rfl rfl rfl (evp_cons h.1 evp_nil) rfl rfl (by simp) (imms_rows (.cons (.cons (Imm.con _) (.cons (Imm.con _) .nil)) .nil)) rfl (aops_nil ⟨rfl,rfl⟩)) rfl (xD (OD.mk [(43,(V.own 5 x56.Methods.length)),(51,(V.lst 2 (([(TMethod.mk x58 x60)]:List TMethod).map encTMethod)))] [(5,(Ob.arr 64 2 (x56.Methods.map encTMethod))),(6,Ob.res)] [(52,(V.own 6 (x56.Methods++([(TMethod.mk x58 x60)]:List TMethod)).length))] [(6,(Ob.arr 64 2 ((x56.Methods++([(TMethod.mk x58 x60)]:List TMethod)).map encTMethod))),(5,Ob.dead)]) ⟨⟨rfl,rfl,trivial⟩,⟨rfl,rfl,trivial⟩⟩ (by exact fun S hn h hh=>aops_append_at 6 rfl hn hh.2.1 (([(TMethod.mk x58 x60)]:List TMethod).map encTMethod) ((x56.Methods++([(TMethod.mk x58 x60)]:List TMethod)).map encTMethod) tEl59 tIsSl59 rfl rfl wants_none h.1 hh.1 (by simp) h.2.1 (.lst (rows_one one_encTMethod)) (map_snoc encTMethod x56.Methods ([(TMethod.mk x58 x60)]:List TMethod)) (List.length_map ..) hc62 rfl (aops_nil ⟨rfl,rfl⟩)) rfl (vs 2 rfl (xD (OD.mk [(54,(V.ptr 2 2 (w64 (((a4.length:Nat):Int) - 1)).toNat 1)),(52,(V.own 6 (x56.Methods++([(TMethod.mk x58 x60)]:List TMethod)).length))] [(2,(Ob.arr 61 2 (setC (a4.map dencTType) ((w64 (((a4.length:Nat):Int) - 1)).toNat) (dencTType x56) 1 (V.own 5 x56.Methods.length)))),(6,(Ob.arr 64 2 ((x56.Methods++([(TMethod.mk x58 x60)]:List TMethod)).map encTMethod)))] [] [(2,(Ob.arr 61 2 ((a4.set ((w64 (((a4.length:Nat):Int) - 1)).toNat) ({ x56 with Methods:=(x56.Methods++([(TMethod.mk x58 x60)]:List TMethod)) }:TType)).map dencTType))),(6,Ob.dead)]) ⟨⟨rfl,rfl,trivial⟩,⟨rfl,rfl,trivial⟩⟩ (by exact fun S hn h hh=>aops_store_untakeS dencTType encTMethod (fun z=>(imms_encTMethod z).keep) (a4.set ((w64 (((a4.length:Nat):Int) - 1)).toNat) ({ x56 with Methods:=(x56.Methods++([(TMethod.mk x58 x60)]:List TMethod)) }:TType)) tS59 wants_none h.1 h.2.1 hh.1 (Nat.le_of_ble_eq_true rfl) (by simpa using idx_lt hx57) hh.2.1 (by simp) rfl (by rw[List.map_set];rfl) (aops_nil ⟨rfl,rfl⟩)) rfl .nil))))))))))) (by kernel_rfl) ?_
     refine rn 4 rfl ?_
     replace h:=Option.some.inj h
     subst h
     exact wR ⟨.inl rfl,[(4,(bV true))],(ghost_ren 5 (fun i=>([0,1,2,3,4]:List Nat).getD i 0) _ _ (by decide) (EnvSub.get (.cons (Sub.imm (Imm.con _)) .nil)) (HpSub.get (.cons rfl (ObSub.box (.cons (Sub.own rfl rfl) (.cons (Sub.ownE rfl rfl (by simp)) (.cons (Sub.own rfl rfl) (.cons (Sub.own rfl rfl) (.cons (Sub.imm (Imm.con _)) .nil)))))) (.cons rfl (ObSub.rows (rows_imm imms_encTIface)) (.cons rfl (ObSub.rowsK RK.h) (.cons rfl (ObSub.rowsK RK.h) (.cons rfl (ObSub.rows (rows_imm imms_encS)) .nil)))))) rfl),(.cons (.tmp rfl) .nil)⟩
    refine rn 9 rfl ?_
    refine spC h rfl (fun hb63 h=>?_) (fun hb63 h=>?_)
    ·refine rn 4 rfl ?_
     replace h:=Option.some.inj h
     subst h
     exact wR ⟨.inl rfl,[(4,(bV false))],(gr [0,1,2,3,4] rfl (hB rfl rfl rfl (hR rfl rfl (hR rfl rfl (hR rfl rfl (hR rfl rfl .nil))))) rfl),(.cons (.tmp rfl) .nil)⟩
    refine rn 2 rfl ?_
    exact jX () h (gr [0,1,2,3,4] rfl (hB rfl rfl rfl (hR rfl rfl (hR rfl rfl (hR rfl rfl (hR rfl rfl .nil))))) rfl)
   refine rn 16 rfl ?_
   refine spC h rfl (fun hb64 h=>?_) (fun hb64 h=>?_)
   ·refine rn 4 rfl ?_
    replace h:=Option.some.inj h
    subst h
    exact wR ⟨.inl rfl,[(4,(bV false))],(gr [0,1,2,3,4] rfl (hB rfl rfl rfl (hR rfl rfl (hR rfl rfl (hR rfl rfl (hR rfl rfl .nil))))) rfl),(.cons (.tmp rfl) .nil)⟩
   refine rn 2 rfl ?_
   exact jX () h (gr [0,1,2,3,4] rfl (hB rfl rfl rfl (hR rfl rfl (hR rfl rfl (hR rfl rfl (hR rfl rfl .nil))))) rfl)
  refine rn 23 rfl ?_
  refine spC h rfl (fun hb65 h=>?_) (fun hb65 h=>?_)
  ·refine rn 4 rfl ?_
   replace h:=Option.some.inj h
   subst h
   exact wR ⟨.inl rfl,[(4,(bV false))],(gr [0,1,2,3,4] rfl (hB rfl rfl rfl (hR rfl rfl (hR rfl rfl (hR rfl rfl (hR rfl rfl .nil))))) rfl),(.cons (.tmp rfl) .nil)⟩
  refine rn 2 rfl ?_
  exact jX () h (gr [0,1,2,3,4] rfl (hB rfl rfl rfl (hR rfl rfl (hR rfl rfl (hR rfl rfl (hR rfl rfl .nil))))) rfl)
 intro _ h
 obtain⟨x66,hx67,h⟩:=bind_some h
 refine rn 1 rfl ?_
 refine dr mixed (vs 12 rfl (oD (a:=a5) hx67 rfl rfl rfl rfl (vs 1 rfl .nil))) (by kernel_rfl) ?_
 refine rn 11 rfl ?_
 refine ixl h rfl rfl (fun x68 hx69 h=>?_)
 refine rn 8 rfl ?_
 refine jK h (fun(p:Bool×Int×(List UInt8)×(List UInt8)×(List UInt8))=>(⟨[(6,(V.ptr 3 4 (w64 (((a5.length:Nat):Int) - 1)).toNat 0)),(7,(V.ptr 5 4 0 0)),(8,(bV (p.1)))],[(0,(Ob.arr 39 5 [[(V.own 1 a3.length),(V.own 2 a4.length),(V.own 3 a5.length),(V.own 4 a6.length),(iV a2)]])),(1,(Ob.arr 56 2 (a3.map encTIface))),(2,(Ob.arr 61 2 (a4.map dencTType))),(3,(Ob.arr 71 4 (a5.map dencTFunc))),(4,(Ob.arr 9 1 (a6.map encS))),(5,(Ob.arr 74 4 [[(iV (p.2.1)),(sV (p.2.2.1)),(sV (p.2.2.2.1)),(sV (p.2.2.2.2))]]))],6⟩:St)) (fun k70 p=>k70 p.1 p.2.1 p.2.2.1 p.2.2.2.1 p.2.2.2.2=some r) (fun k70 h=>?_) ?_
 ·refine spC h rfl (fun hb76 h=>?_) (fun hb76 h=>?_)
  ·refine rn 1 rfl ?_
   refine ck h (fun hc77 h=>?_)
   refine ck h (fun hc78 h=>?_)
   refine awp_ghost ghost_res ?_
   refine awp_ghost ghost_res ?_
   refine fa ?_
   refine dr mixed (vs 4 rfl (xD (OD.mk [(83,(V.ptr 3 4 (w64 (((a5.length:Nat):Int) - 1)).toNat 3))] [(3,(Ob.arr 71 4 (a5.map dencTFunc))),(6,Ob.res)] [(84,(V.own 6 x66.Makes.length))] [(3,(Ob.arr 71 4 (setC (a5.map dencTFunc) ((w64 (((a5.length:Nat):Int) - 1)).toNat) (dencTFunc x66) 3 (V.own 6 x66.Makes.length)))),(6,(Ob.arr 9 1 (x66.Makes.map encS)))]) ⟨⟨rfl,trivial⟩,⟨rfl,rfl,trivial⟩⟩ (by exact fun S hn h hh=>aops_load_takeS_at 6 rfl hn hh.2.1 dencTFunc encS rfl tC25 wants_none h.1 hh.1 (idx_some hx67).2 rfl rfl (aops_nil ⟨rfl,rfl⟩)) rfl (vs 1 rfl (xD (OD.mk [(85,(V.lst 1 (a1.map encS)))] [] [(86,(V.lst 1 ((a1.drop 1).map encS)))] []) ⟨⟨rfl,trivial⟩,trivial⟩ (by exact fun S hn h hh=>aops_slice_lst (1) (a1.length) ((a1.drop 1).map encS) tSl25 wants_none h.1 ⟨_,rfl⟩ (List.length_map ..).symm hc77 (Nat.le_of_eq (List.length_map ..).symm) slL_hi rfl (aops_nil ⟨rfl,rfl⟩)) rfl (xD (OD.mk [(84,(V.own 6 x66.Makes.length)),(86,(V.lst 1 ((a1.drop 1).map encS)))] [(6,(Ob.arr 9 1 (x66.Makes.map encS))),(7,Ob.res)] [(87,(V.own 7 (x66.Makes++(a1.drop 1)).length))] [(7,(Ob.arr 9 1 ((x66.Makes++(a1.drop 1)).map encS))),(6,Ob.dead)]) ⟨⟨rfl,rfl,trivial⟩,⟨rfl,rfl,trivial⟩⟩ (by exact fun S hn h hh=>aops_append_at 7 rfl hn hh.2.1 ((a1.drop 1).map encS) ((x66.Makes++(a1.drop 1)).map encS) tEl25 tIsSl25 rfl rfl wants_none h.1 hh.1 (by simp) h.2.1 (.lst (rows_one one_encS)) (map_snoc encS x66.Makes (a1.drop 1)) (List.length_map ..) hc78 rfl (aops_nil ⟨rfl,rfl⟩)) rfl (vs 2 rfl (xD (OD.mk [(89,(V.ptr 3 4 (w64 (((a5.length:Nat):Int) - 1)).toNat 3)),(87,(V.own 7 (x66.Makes++(a1.drop 1)).length))] [(3,(Ob.arr 71 4 (setC (a5.map dencTFunc) ((w64 (((a5.length:Nat):Int) - 1)).toNat) (dencTFunc x66) 3 (V.own 6 x66.Makes.length)))),(7,(Ob.arr 9 1 ((x66.Makes++(a1.drop 1)).map encS)))] [] [(3,(Ob.arr 71 4 ((a5.set ((w64 (((a5.length:Nat):Int) - 1)).toNat) ({ x66 with Makes:=(x66.Makes++(a1.drop 1)) }:TFunc)).map dencTFunc))),(7,Ob.dead)]) ⟨⟨rfl,rfl,trivial⟩,⟨rfl,rfl,trivial⟩⟩ (by exact fun S hn h hh=>aops_store_untakeS dencTFunc encS (fun z=>(imms_encS z).keep) (a5.set ((w64 (((a5.length:Nat):Int) - 1)).toNat) ({ x66 with Makes:=(x66.Makes++(a1.drop 1)) }:TFunc)) tS25 wants_none h.1 h.2.1 hh.1 (Nat.le_of_ble_eq_true rfl) (by simpa using idx_lt hx67) hh.2.1 (by simp) rfl (by rw[List.map_set];rfl) (aops_nil ⟨rfl,rfl⟩)) rfl .nil))))))) (by kernel_rfl) ?_
   refine rn 3 rfl ?_
   refine ln rfl rfl ?_
   refine rn 3 rfl ?_
   replace h:=Option.some.inj h
   subst h
   exact wR ⟨.inl rfl,[(4,(bV (((a1.length:Nat):Int)==2)))],(ghost_ren 5 (fun i=>([0,1,2,3,4]:List Nat).getD i 0) _ _ (by decide) (EnvSub.get (.cons (Sub.imm (Imm.con _)) .nil)) (HpSub.get (.cons rfl (ObSub.box (.cons (Sub.own rfl rfl) (.cons (Sub.own rfl rfl) (.cons (Sub.ownE rfl rfl (by simp)) (.cons (Sub.own rfl rfl) (.cons (Sub.imm (Imm.con _)) .nil)))))) (.cons rfl (ObSub.rows (rows_imm imms_encTIface)) (.cons rfl (ObSub.rowsK RK.h) (.cons rfl (ObSub.rowsK RK.h) (.cons rfl (ObSub.rows (rows_imm imms_encS)) .nil)))))) rfl),(.cons (.tmp rfl) .nil)⟩
  refine rn 5 rfl ?_
  refine spC h rfl (fun hb79 h=>?_) (fun hb79 h=>?_)
  ·refine rn 2 rfl ?_
   refine ck h (fun hc80 h=>?_)
   refine aops_slice_lst (1) (a1.length) ((a1.drop 1).map encS) tSl25 wants_none rfl ⟨_,rfl⟩ (List.length_map ..).symm hc80 (Nat.le_of_eq (List.length_map ..).symm) slL_hi rfl ?_
   refine fo ?_
   refine cl h rfl rfl rfl (W75 _ _ _ _) rfl (fun y81 hx82 h=>?_)
   refine rn 6 rfl ?_
   exact jX ((y81.2),(y81.1).Kind,(y81.1).Target,(y81.1).Method,(y81.1).Feature) h (gr [0,1,2,3,4,5] rfl (hB rfl rfl rfl (hR rfl rfl (hR rfl rfl (hR rfl rfl (hR rfl rfl (hB rfl rfl rfl .nil)))))) rfl)
  refine rn 5 rfl ?_
  refine spC h rfl (fun hb83 h=>?_) (fun hb83 h=>?_)
  ·refine rn 2 rfl ?_
   refine ck h (fun hc84 h=>?_)
   refine aops_slice_lst (1) (a1.length) ((a1.drop 1).map encS) tSl25 wants_none rfl ⟨_,rfl⟩ (List.length_map ..).symm hc84 (Nat.le_of_eq (List.length_map ..).symm) slL_hi rfl ?_
   refine fo ?_
   refine cl h rfl rfl rfl (W75 _ _ _ _) rfl (fun y85 hx86 h=>?_)
   refine rn 6 rfl ?_
   exact jX ((y85.2),(y85.1).Kind,(y85.1).Target,(y85.1).Method,(y85.1).Feature) h (gr [0,1,2,3,4,5] rfl (hB rfl rfl rfl (hR rfl rfl (hR rfl rfl (hR rfl rfl (hR rfl rfl (hB rfl rfl rfl .nil)))))) rfl)
  refine rn 1 rfl ?_
  exact jX (false,0,([]:List UInt8),([]:List UInt8),([]:List UInt8)) h (gr [0,1,2,3,4,5] rfl (hB rfl rfl rfl (hR rfl rfl (hR rfl rfl (hR rfl rfl (hR rfl rfl (hB rfl rfl rfl .nil)))))) rfl)
 rintro⟨b71,n72,s73,s74,s75⟩ h
 obtain⟨x87,hx88,h⟩:=bind_some h
 refine rn 2 rfl ?_
 refine ck h (fun hc89 h=>?_)
 refine awp_ghost ghost_res ?_
 refine awp_ghost ghost_res ?_
 refine fa ?_
 refine dr mixed (vs 4 rfl (xD (OD.mk [(112,(V.ptr 3 4 (w64 (((a5.length:Nat):Int) - 1)).toNat 2))] [(3,(Ob.arr 71 4 (a5.map dencTFunc))),(6,Ob.res)] [(113,(V.own 6 x87.Calls.length))] [(3,(Ob.arr 71 4 (setC (a5.map dencTFunc) ((w64 (((a5.length:Nat):Int) - 1)).toNat) (dencTFunc x87) 2 (V.own 6 x87.Calls.length)))),(6,(Ob.arr 74 4 (x87.Calls.map encTCall)))]) ⟨⟨rfl,trivial⟩,⟨rfl,rfl,trivial⟩⟩ (by exact fun S hn h hh=>aops_load_takeS_at 6 rfl hn hh.2.1 dencTFunc encTCall rfl tC69 wants_none h.1 hh.1 (idx_some hx88).2 rfl rfl (aops_nil ⟨rfl,rfl⟩)) rfl (vs 1 rfl (xD (OD.mk [(114,(V.agg [(iV n72),(sV s73),(sV s74),(sV s75)]))] [] [(115,(V.lst 4 (([(TCall.mk n72 s73 s74 s75)]:List TCall).map encTCall)))] []) ⟨⟨rfl,trivial⟩,trivial⟩ (by exact fun S hn h hh=>aops_buildSlice_imm [(0,(V.agg [(iV n72),(sV s73),(sV s74),(sV s75)]))] [[(iV n72),(sV s73),(sV s74),(sV s75)]] tEl69 tZ74 wants_none rfl rfl rfl rfl (evp_cons h.1 evp_nil) rfl rfl (by simp) (imms_rows (.cons (.cons (Imm.con _) (.cons (Imm.con _) (.cons (Imm.con _) (.cons (Imm.con _) .nil)))) .nil)) rfl (aops_nil ⟨rfl,rfl⟩)) rfl (xD (OD.mk [(113,(V.own 6 x87.Calls.length)),(115,(V.lst 4 (([(TCall.mk n72 s73 s74 s75)]:List TCall).map encTCall)))] [(6,(Ob.arr 74 4 (x87.Calls.map encTCall))),(7,Ob.res)] [(116,(V.own 7 (x87.Calls++([(TCall.mk n72 s73 s74 s75)]:List TCall)).length))] [(7,(Ob.arr 74 4 ((x87.Calls++([(TCall.mk n72 s73 s74 s75)]:List TCall)).map encTCall))),(6,Ob.dead)]) ⟨⟨rfl,rfl,trivial⟩,⟨rfl,rfl,trivial⟩⟩ (by exact fun S hn h hh=>aops_append_at 7 rfl hn hh.2.1 (([(TCall.mk n72 s73 s74 s75)]:List TCall).map encTCall) ((x87.Calls++([(TCall.mk n72 s73 s74 s75)]:List TCall)).map encTCall) tEl69 tIsSl69 rfl rfl wants_none h.1 hh.1 (by simp) h.2.1 (.lst (rows_one one_encTCall)) (map_snoc encTCall x87.Calls ([(TCall.mk n72 s73 s74 s75)]:List TCall)) (List.length_map ..) hc89 rfl (aops_nil ⟨rfl,rfl⟩)) rfl (vs 2 rfl (xD (OD.mk [(118,(V.ptr 3 4 (w64 (((a5.length:Nat):Int) - 1)).toNat 2)),(116,(V.own 7 (x87.Calls++([(TCall.mk n72 s73 s74 s75)]:List TCall)).length))] [(3,(Ob.arr 71 4 (setC (a5.map dencTFunc) ((w64 (((a5.length:Nat):Int) - 1)).toNat) (dencTFunc x87) 2 (V.own 6 x87.Calls.length)))),(7,(Ob.arr 74 4 ((x87.Calls++([(TCall.mk n72 s73 s74 s75)]:List TCall)).map encTCall)))] [] [(3,(Ob.arr 71 4 ((a5.set ((w64 (((a5.length:Nat):Int) - 1)).toNat) ({ x87 with Calls:=(x87.Calls++([(TCall.mk n72 s73 s74 s75)]:List TCall)) }:TFunc)).map dencTFunc))),(7,Ob.dead)]) ⟨⟨rfl,rfl,trivial⟩,⟨rfl,rfl,trivial⟩⟩ (by exact fun S hn h hh=>aops_store_untakeS dencTFunc encTCall (fun z=>(imms_encTCall z).keep) (a5.set ((w64 (((a5.length:Nat):Int) - 1)).toNat) ({ x87 with Calls:=(x87.Calls++([(TCall.mk n72 s73 s74 s75)]:List TCall)) }:TFunc)) tS69 wants_none h.1 h.2.1 hh.1 (Nat.le_of_ble_eq_true rfl) (by simpa using idx_lt hx88) hh.2.1 (by simp) rfl (by rw[List.map_set];rfl) (aops_nil ⟨rfl,rfl⟩)) rfl .nil))))))) (by kernel_rfl) ?_
 refine rn 5 rfl ?_
 replace h:=Option.some.inj h
 subst h
 exact wR ⟨.inl rfl,[(4,(bV b71))],(ghost_ren 5 (fun i=>([0,1,2,3,4]:List Nat).getD i 0) _ _ (by decide) (EnvSub.get (.cons (Sub.imm (Imm.con _)) .nil)) (HpSub.get (.cons rfl (ObSub.box (.cons (Sub.own rfl rfl) (.cons (Sub.own rfl rfl) (.cons (Sub.ownE rfl rfl (by simp)) (.cons (Sub.own rfl rfl) (.cons (Sub.imm (Imm.con _)) .nil)))))) (.cons rfl (ObSub.rows (rows_imm imms_encTIface)) (.cons rfl (ObSub.rowsK RK.h) (.cons rfl (ObSub.rowsK RK.h) (.cons rfl (ObSub.rows (rows_imm imms_encS)) .nil)))))) rfl),(.cons (.tmp rfl) .nil)⟩
theorem W13(F:Nat)(a1:(List (List UInt8)))(a2:Int)(a3:List TIface)(a4:List TType)(a5:List TFunc)(a6:List (List UInt8))(r:(Bool×Int×(List TIface)×(List TType)×(List TFunc)×(List (List UInt8))))(h:M13 F a1 a2 a3 a4 a5 a6=some r):MutG (gl mx) Tryz.prog 13 [(V.ptr 0 5 0 0),(V.lst 1 (a1.map encS))] 5 [(0,(Ob.arr 39 5 [[(V.own 1 a3.length),(V.own 2 a4.length),(V.own 3 a5.length),(V.own 4 a6.length),(iV a2)]])),(1,(Ob.arr 56 2 (a3.map encTIface))),(2,(Ob.arr 61 2 (a4.map dencTType))),(3,(Ob.arr 71 4 (a5.map dencTFunc))),(4,(Ob.arr 9 1 (a6.map encS)))] (resV [(bV (r.1))]) 9 [(0,(Ob.arr 39 5 [[(V.own 5 (r.2.2.1).length),(V.own 6 (r.2.2.2.1).length),(V.own 7 (r.2.2.2.2.1).length),(V.own 8 (r.2.2.2.2.2).length),(iV (r.2.1))]])),(1,Ob.dead),(2,Ob.dead),(3,Ob.dead),(4,Ob.dead),(5,(Ob.arr 56 2 ((r.2.2.1).map encTIface))),(6,(Ob.arr 61 2 ((r.2.2.2.1).map dencTType))),(7,(Ob.arr 71 4 ((r.2.2.2.2.1).map dencTFunc))),(8,(Ob.arr 9 1 ((r.2.2.2.2.2).map encS)))]:=by
 refine mut_enter Tryz.func13 rfl rfl (l:=[.tmp 4]) rfl rfl [(0,(V.ptr 0 5 0 0)),(1,(V.lst 1 (a1.map encS)))] rfl (fun w0 m0 β0 hg=>en ?_)
 unfold M13 at h
 refine rn 8 rfl ?_
 refine ixl h rfl rfl (fun x38 hx39 h=>?_)
 refine rn 8 rfl ?_
 refine spC h rfl (fun hb40 h=>?_) (fun hb40 h=>?_)
 ·refine rn 4 rfl ?_
  refine ln rfl rfl ?_
  refine rn 2 rfl ?_
  refine spC h rfl (fun hb41 h=>?_) (fun hb41 h=>?_)
  ·refine rn 4 rfl ?_
   replace h:=Option.some.inj h
   subst h
   exact wR ⟨.inl rfl,[(4,(bV false))],(Ghost.trans (ghost_mvC 1 0 5 56 2 (Ob.arr 39 5 [[(V.own 5 a3.length),(V.own 2 a4.length),(V.own 3 a5.length),(V.own 4 a6.length),(iV a2)]]) rfl rfl rfl (ObSub.box (.cons Sub.mv (.cons Sub.keepMv (.cons Sub.keepMv (.cons Sub.keepMv (.cons Sub.keepMv .nil)))))) rfl rfl) (Ghost.trans (ghost_mvC 2 0 6 61 2 (Ob.arr 39 5 [[(V.own 5 a3.length),(V.own 6 a4.length),(V.own 3 a5.length),(V.own 4 a6.length),(iV a2)]]) rfl rfl rfl (ObSub.box (.cons Sub.keepMv (.cons Sub.mv (.cons Sub.keepMv (.cons Sub.keepMv (.cons Sub.keepMv .nil)))))) rfl rfl) (Ghost.trans (ghost_mvC 3 0 7 71 4 (Ob.arr 39 5 [[(V.own 5 a3.length),(V.own 6 a4.length),(V.own 7 a5.length),(V.own 4 a6.length),(iV a2)]]) rfl rfl rfl (ObSub.box (.cons Sub.keepMv (.cons Sub.keepMv (.cons Sub.mv (.cons Sub.keepMv (.cons Sub.keepMv .nil)))))) rfl rfl) (Ghost.trans (ghost_mvC 4 0 8 9 1 (Ob.arr 39 5 [[(V.own 5 a3.length),(V.own 6 a4.length),(V.own 7 a5.length),(V.own 8 a6.length),(iV a2)]]) rfl rfl rfl (ObSub.box (.cons Sub.keepMv (.cons Sub.keepMv (.cons Sub.keepMv (.cons Sub.mv (.cons Sub.keepMv .nil)))))) rfl rfl) (gr [0,1,2,3,4,5,6,7,8] rfl (hB rfl rfl rfl (hD rfl (hD rfl (hD rfl (hD rfl (hR rfl rfl (hR rfl rfl (hR rfl rfl (hR rfl rfl .nil))))))))) rfl))))),(.cons (.tmp rfl) .nil)⟩
  obtain⟨x42,hx43,h⟩:=bind_some h
  refine rn 9 rfl ?_
  refine ck h (fun hc44 h=>?_)
  refine ck h (fun hc45 h=>?_)
  refine awp_ghost ghost_res ?_
  refine fa ?_
  refine dr mixed (vs 7 rfl (iD hx43 rfl rfl rfl (vs 2 rfl (xD (OD.mk [(25,(V.lst 1 (a1.map encS)))] [] [(26,(V.lst 1 ((a1.drop 2).map encS)))] []) ⟨⟨rfl,trivial⟩,trivial⟩ (by exact fun S hn h hh=>aops_slice_lst (2) (a1.length) ((a1.drop 2).map encS) tSl25 wants_none h.1 ⟨_,rfl⟩ (List.length_map ..).symm hc44 (Nat.le_of_eq (List.length_map ..).symm) slL_hi rfl (aops_nil ⟨rfl,rfl⟩)) rfl (vs 1 rfl (xD (OD.mk [(27,(V.agg [(sV x42),(V.lst 1 ((a1.drop 2).map encS))]))] [] [(28,(V.lst 2 (([(TIface.mk x42 (a1.drop 2))]:List TIface).map encTIface)))] []) ⟨⟨rfl,trivial⟩,trivial⟩ (by exact fun S hn h hh=>aops_buildSlice_imm [(0,(V.agg [(sV x42),(V.lst 1 ((a1.drop 2).map encS))]))] [[(sV x42),(V.lst 1 ((a1.drop 2).map encS))]] tEl22 tZ56 wants_none rfl rfl rfl rfl (evp_cons h.1 evp_nil) rfl rfl (by simp) (imms_rows (.cons (.cons (Imm.con _) (.cons (Imm.lst _ _) .nil)) .nil)) rfl (aops_nil ⟨rfl,rfl⟩)) rfl (xD (OD.mk [(21,(V.own 1 a3.length)),(28,(V.lst 2 (([(TIface.mk x42 (a1.drop 2))]:List TIface).map encTIface)))] [(1,(Ob.arr 56 2 (a3.map encTIface))),(5,Ob.res)] [(29,(V.own 5 (a3++([(TIface.mk x42 (a1.drop 2))]:List TIface)).length))] [(5,(Ob.arr 56 2 ((a3++([(TIface.mk x42 (a1.drop 2))]:List TIface)).map encTIface))),(1,Ob.dead)]) ⟨⟨rfl,rfl,trivial⟩,⟨rfl,rfl,trivial⟩⟩ (by exact fun S hn h hh=>aops_append_at 5 rfl hn hh.2.1 (([(TIface.mk x42 (a1.drop 2))]:List TIface).map encTIface) ((a3++([(TIface.mk x42 (a1.drop 2))]:List TIface)).map encTIface) tEl22 tIsSl22 rfl rfl wants_none h.1 hh.1 (by simp) h.2.1 (.lst (rows_one one_encTIface)) (map_snoc encTIface a3 ([(TIface.mk x42 (a1.drop 2))]:List TIface)) (List.length_map ..) hc45 rfl (aops_nil ⟨rfl,rfl⟩)) rfl (vs 4 rfl .nil)))))))) (by kernel_rfl) ?_
  refine rn 4 rfl ?_
  replace h:=Option.some.inj h
  subst h
  exact wR ⟨.inl rfl,[(4,(bV true))],(Ghost.trans (ghost_mvC 2 0 6 61 2 (Ob.arr 39 5 [[(V.own 5 (a3++([(TIface.mk x42 (a1.drop 2))]:List TIface)).length),(V.own 6 a4.length),(V.own 3 a5.length),(V.own 4 a6.length),(iV 0)]]) rfl rfl rfl (ObSub.box (.cons Sub.keepMv (.cons Sub.mv (.cons Sub.keepMv (.cons Sub.keepMv (.cons Sub.keepMv .nil)))))) rfl rfl) (Ghost.trans (ghost_mvC 3 0 7 71 4 (Ob.arr 39 5 [[(V.own 5 (a3++([(TIface.mk x42 (a1.drop 2))]:List TIface)).length),(V.own 6 a4.length),(V.own 7 a5.length),(V.own 4 a6.length),(iV 0)]]) rfl rfl rfl (ObSub.box (.cons Sub.keepMv (.cons Sub.keepMv (.cons Sub.mv (.cons Sub.keepMv (.cons Sub.keepMv .nil)))))) rfl rfl) (Ghost.trans (ghost_mvC 4 0 8 9 1 (Ob.arr 39 5 [[(V.own 5 (a3++([(TIface.mk x42 (a1.drop 2))]:List TIface)).length),(V.own 6 a4.length),(V.own 7 a5.length),(V.own 8 a6.length),(iV 0)]]) rfl rfl rfl (ObSub.box (.cons Sub.keepMv (.cons Sub.keepMv (.cons Sub.keepMv (.cons Sub.mv (.cons Sub.keepMv .nil)))))) rfl rfl) (gr [0,1,2,3,4,5,6,7,8] rfl (hB rfl rfl rfl (hD rfl (hD rfl (hD rfl (hD rfl (hR rfl rfl (hR rfl rfl (hR rfl rfl (hR rfl rfl .nil))))))))) rfl)))),(.cons (.tmp rfl) .nil)⟩
 refine rn 5 rfl ?_
 refine spC h rfl (fun hb46 h=>?_) (fun hb46 h=>?_)
 ·refine rn 4 rfl ?_
  refine ln rfl rfl ?_
  refine rn 2 rfl ?_
  refine spC h rfl (fun hb47 h=>?_) (fun hb47 h=>?_)
  ·refine rn 4 rfl ?_
   replace h:=Option.some.inj h
   subst h
   exact wR ⟨.inl rfl,[(4,(bV false))],(Ghost.trans (ghost_mvC 1 0 5 56 2 (Ob.arr 39 5 [[(V.own 5 a3.length),(V.own 2 a4.length),(V.own 3 a5.length),(V.own 4 a6.length),(iV a2)]]) rfl rfl rfl (ObSub.box (.cons Sub.mv (.cons Sub.keepMv (.cons Sub.keepMv (.cons Sub.keepMv (.cons Sub.keepMv .nil)))))) rfl rfl) (Ghost.trans (ghost_mvC 2 0 6 61 2 (Ob.arr 39 5 [[(V.own 5 a3.length),(V.own 6 a4.length),(V.own 3 a5.length),(V.own 4 a6.length),(iV a2)]]) rfl rfl rfl (ObSub.box (.cons Sub.keepMv (.cons Sub.mv (.cons Sub.keepMv (.cons Sub.keepMv (.cons Sub.keepMv .nil)))))) rfl rfl) (Ghost.trans (ghost_mvC 3 0 7 71 4 (Ob.arr 39 5 [[(V.own 5 a3.length),(V.own 6 a4.length),(V.own 7 a5.length),(V.own 4 a6.length),(iV a2)]]) rfl rfl rfl (ObSub.box (.cons Sub.keepMv (.cons Sub.keepMv (.cons Sub.mv (.cons Sub.keepMv (.cons Sub.keepMv .nil)))))) rfl rfl) (Ghost.trans (ghost_mvC 4 0 8 9 1 (Ob.arr 39 5 [[(V.own 5 a3.length),(V.own 6 a4.length),(V.own 7 a5.length),(V.own 8 a6.length),(iV a2)]]) rfl rfl rfl (ObSub.box (.cons Sub.keepMv (.cons Sub.keepMv (.cons Sub.keepMv (.cons Sub.mv (.cons Sub.keepMv .nil)))))) rfl rfl) (gr [0,1,2,3,4,5,6,7,8] rfl (hB rfl rfl rfl (hD rfl (hD rfl (hD rfl (hD rfl (hR rfl rfl (hR rfl rfl (hR rfl rfl (hR rfl rfl .nil))))))))) rfl))))),(.cons (.tmp rfl) .nil)⟩
  obtain⟨x48,hx49,h⟩:=bind_some h
  refine rn 9 rfl ?_
  refine ck h (fun hc50 h=>?_)
  refine awp_ghost ghost_res ?_
  refine awp_ghost ghost_res ?_
  refine fa ?_
  refine dr mixed (vs 7 rfl (iD hx49 rfl rfl rfl (vs 2 rfl (xD (OD.mk [(50,(V.agg [(sV x48),nV]))] [(5,Ob.res)] [(51,(V.own 5 1))] [(5,(Ob.arr 61 2 [[(sV x48),nV]]))]) ⟨⟨rfl,trivial⟩,⟨rfl,trivial⟩⟩ (by exact fun S hn h hh=>aops_buildSlice_at 5 rfl hn hh.1 [(0,(V.agg [(sV x48),nV]))] [[(sV x48),nV]] tEl23 tZ61 wants_none rfl rfl rfl rfl (evp_cons h.1 evp_nil) rfl rfl (by simp) rfl (aops_nil ⟨rfl,rfl⟩)) rfl (xD (OD.mk [(46,(V.own 2 a4.length)),(51,(V.own 5 1))] [(2,(Ob.arr 61 2 (a4.map dencTType))),(5,(Ob.arr 61 2 [[(sV x48),nV]])),(6,Ob.res)] [(52,(V.own 6 (a4++[(TType.mk x48 ([]:List TMethod))]).length))] [(6,(Ob.arr 61 2 ((a4++[(TType.mk x48 ([]:List TMethod))]).map dencTType))),(2,Ob.dead)]) ⟨⟨rfl,rfl,trivial⟩,⟨rfl,rfl,rfl,trivial⟩⟩ (by exact fun S hn h hh=>aops_appendS_at 6 rfl hn hh.2.2.1 dencTType (TType.mk x48 ([]:List TMethod)) tEl23 tIsSl23 rfl rfl wants_none h.1 hh.1 (by simp) h.2.1 hh.2.1 rfl (.cons (csub_keep _) (.cons (csub_nil 64 2) .nil)) rfl hc50 rfl (aops_nil ⟨rfl,rfl⟩)) rfl (vs 4 rfl .nil)))))) (by kernel_rfl) ?_
  refine rn 4 rfl ?_
  replace h:=Option.some.inj h
  subst h
  exact wR ⟨.inl rfl,[(4,(bV true))],(Ghost.trans (ghost_mvC 1 0 7 56 2 (Ob.arr 39 5 [[(V.own 7 a3.length),(V.own 6 (a4++[(TType.mk x48 ([]:List TMethod))]).length),(V.own 3 a5.length),(V.own 4 a6.length),(iV 1)]]) rfl rfl rfl (ObSub.box (.cons Sub.mv (.cons Sub.keepMv (.cons Sub.keepMv (.cons Sub.keepMv (.cons Sub.keepMv .nil)))))) rfl rfl) (Ghost.trans (ghost_mvC 3 0 8 71 4 (Ob.arr 39 5 [[(V.own 7 a3.length),(V.own 6 (a4++[(TType.mk x48 ([]:List TMethod))]).length),(V.own 8 a5.length),(V.own 4 a6.length),(iV 1)]]) rfl rfl rfl (ObSub.box (.cons Sub.keepMv (.cons Sub.keepMv (.cons Sub.mv (.cons Sub.keepMv (.cons Sub.keepMv .nil)))))) rfl rfl) (Ghost.trans (ghost_mvC 4 0 9 9 1 (Ob.arr 39 5 [[(V.own 7 a3.length),(V.own 6 (a4++[(TType.mk x48 ([]:List TMethod))]).length),(V.own 8 a5.length),(V.own 9 a6.length),(iV 1)]]) rfl rfl rfl (ObSub.box (.cons Sub.keepMv (.cons Sub.keepMv (.cons Sub.keepMv (.cons Sub.mv (.cons Sub.keepMv .nil)))))) rfl rfl) (gr [0,1,2,3,4,7,6,8,9] rfl (hB rfl rfl rfl (hD rfl (hD rfl (hD rfl (hD rfl (hR rfl rfl (hR rfl rfl (hR rfl rfl (hR rfl rfl .nil))))))))) rfl)))),(.cons (.tmp rfl) .nil)⟩
 refine rn 5 rfl ?_
 refine spC h rfl (fun hb51 h=>?_) (fun hb51 h=>?_)
 ·refine rn 4 rfl ?_
  refine ln rfl rfl ?_
  refine rn 2 rfl ?_
  refine spC h rfl (fun hb52 h=>?_) (fun hb52 h=>?_)
  ·refine rn 4 rfl ?_
   replace h:=Option.some.inj h
   subst h
   exact wR ⟨.inl rfl,[(4,(bV false))],(Ghost.trans (ghost_mvC 1 0 5 56 2 (Ob.arr 39 5 [[(V.own 5 a3.length),(V.own 2 a4.length),(V.own 3 a5.length),(V.own 4 a6.length),(iV a2)]]) rfl rfl rfl (ObSub.box (.cons Sub.mv (.cons Sub.keepMv (.cons Sub.keepMv (.cons Sub.keepMv (.cons Sub.keepMv .nil)))))) rfl rfl) (Ghost.trans (ghost_mvC 2 0 6 61 2 (Ob.arr 39 5 [[(V.own 5 a3.length),(V.own 6 a4.length),(V.own 3 a5.length),(V.own 4 a6.length),(iV a2)]]) rfl rfl rfl (ObSub.box (.cons Sub.keepMv (.cons Sub.mv (.cons Sub.keepMv (.cons Sub.keepMv (.cons Sub.keepMv .nil)))))) rfl rfl) (Ghost.trans (ghost_mvC 3 0 7 71 4 (Ob.arr 39 5 [[(V.own 5 a3.length),(V.own 6 a4.length),(V.own 7 a5.length),(V.own 4 a6.length),(iV a2)]]) rfl rfl rfl (ObSub.box (.cons Sub.keepMv (.cons Sub.keepMv (.cons Sub.mv (.cons Sub.keepMv (.cons Sub.keepMv .nil)))))) rfl rfl) (Ghost.trans (ghost_mvC 4 0 8 9 1 (Ob.arr 39 5 [[(V.own 5 a3.length),(V.own 6 a4.length),(V.own 7 a5.length),(V.own 8 a6.length),(iV a2)]]) rfl rfl rfl (ObSub.box (.cons Sub.keepMv (.cons Sub.keepMv (.cons Sub.keepMv (.cons Sub.mv (.cons Sub.keepMv .nil)))))) rfl rfl) (gr [0,1,2,3,4,5,6,7,8] rfl (hB rfl rfl rfl (hD rfl (hD rfl (hD rfl (hD rfl (hR rfl rfl (hR rfl rfl (hR rfl rfl (hR rfl rfl .nil))))))))) rfl))))),(.cons (.tmp rfl) .nil)⟩
  obtain⟨x53,hx54,h⟩:=bind_some h
  obtain⟨x55,hx56,h⟩:=bind_some h
  refine rn 9 rfl ?_
  refine ck h (fun hc57 h=>?_)
  refine awp_ghost ghost_res ?_
  refine awp_ghost ghost_res ?_
  refine fa ?_
  refine dr mixed (vs 7 rfl (iD hx54 rfl rfl rfl (vs 2 rfl (iD hx56 rfl rfl rfl (vs 2 rfl (xD (OD.mk [(76,(V.agg [(sV x53),(sV x55),nV,nV]))] [(5,Ob.res)] [(77,(V.own 5 1))] [(5,(Ob.arr 71 4 [[(sV x53),(sV x55),nV,nV]]))]) ⟨⟨rfl,trivial⟩,⟨rfl,trivial⟩⟩ (by exact fun S hn h hh=>aops_buildSlice_at 5 rfl hn hh.1 [(0,(V.agg [(sV x53),(sV x55),nV,nV]))] [[(sV x53),(sV x55),nV,nV]] tEl24 tZ71 wants_none rfl rfl rfl rfl (evp_cons h.1 evp_nil) rfl rfl (by simp) rfl (aops_nil ⟨rfl,rfl⟩)) rfl (xD (OD.mk [(69,(V.own 3 a5.length)),(77,(V.own 5 1))] [(3,(Ob.arr 71 4 (a5.map dencTFunc))),(5,(Ob.arr 71 4 [[(sV x53),(sV x55),nV,nV]])),(6,Ob.res)] [(78,(V.own 6 (a5++[(TFunc.mk x53 x55 ([]:List TCall) ([]:List (List UInt8)))]).length))] [(6,(Ob.arr 71 4 ((a5++[(TFunc.mk x53 x55 ([]:List TCall) ([]:List (List UInt8)))]).map dencTFunc))),(3,Ob.dead)]) ⟨⟨rfl,rfl,trivial⟩,⟨rfl,rfl,rfl,trivial⟩⟩ (by exact fun S hn h hh=>aops_appendS_at 6 rfl hn hh.2.2.1 dencTFunc (TFunc.mk x53 x55 ([]:List TCall) ([]:List (List UInt8))) tEl24 tIsSl24 rfl rfl wants_none h.1 hh.1 (by simp) h.2.1 hh.2.1 rfl (.cons (csub_keep _) (.cons (csub_keep _) (.cons (csub_nil 74 4) (.cons (csub_nil 9 1) .nil)))) rfl hc57 rfl (aops_nil ⟨rfl,rfl⟩)) rfl (vs 4 rfl .nil)))))))) (by kernel_rfl) ?_
  refine rn 4 rfl ?_
  replace h:=Option.some.inj h
  subst h
  exact wR ⟨.inl rfl,[(4,(bV true))],(Ghost.trans (ghost_mvC 1 0 7 56 2 (Ob.arr 39 5 [[(V.own 7 a3.length),(V.own 2 a4.length),(V.own 6 (a5++[(TFunc.mk x53 x55 ([]:List TCall) ([]:List (List UInt8)))]).length),(V.own 4 a6.length),(iV 2)]]) rfl rfl rfl (ObSub.box (.cons Sub.mv (.cons Sub.keepMv (.cons Sub.keepMv (.cons Sub.keepMv (.cons Sub.keepMv .nil)))))) rfl rfl) (Ghost.trans (ghost_mvC 2 0 8 61 2 (Ob.arr 39 5 [[(V.own 7 a3.length),(V.own 8 a4.length),(V.own 6 (a5++[(TFunc.mk x53 x55 ([]:List TCall) ([]:List (List UInt8)))]).length),(V.own 4 a6.length),(iV 2)]]) rfl rfl rfl (ObSub.box (.cons Sub.keepMv (.cons Sub.mv (.cons Sub.keepMv (.cons Sub.keepMv (.cons Sub.keepMv .nil)))))) rfl rfl) (Ghost.trans (ghost_mvC 4 0 9 9 1 (Ob.arr 39 5 [[(V.own 7 a3.length),(V.own 8 a4.length),(V.own 6 (a5++[(TFunc.mk x53 x55 ([]:List TCall) ([]:List (List UInt8)))]).length),(V.own 9 a6.length),(iV 2)]]) rfl rfl rfl (ObSub.box (.cons Sub.keepMv (.cons Sub.keepMv (.cons Sub.keepMv (.cons Sub.mv (.cons Sub.keepMv .nil)))))) rfl rfl) (gr [0,1,2,3,4,7,8,6,9] rfl (hB rfl rfl rfl (hD rfl (hD rfl (hD rfl (hD rfl (hR rfl rfl (hR rfl rfl (hR rfl rfl (hR rfl rfl .nil))))))))) rfl)))),(.cons (.tmp rfl) .nil)⟩
 refine rn 5 rfl ?_
 refine spC h rfl (fun hb58 h=>?_) (fun hb58 h=>?_)
 ·refine rn 8 rfl ?_
  refine ck h (fun hc59 h=>?_)
  refine ck h (fun hc60 h=>?_)
  refine awp_ghost ghost_res ?_
  refine fa ?_
  refine dr mixed (vs 7 rfl (xD (OD.mk [(93,(V.lst 1 (a1.map encS)))] [] [(94,(V.lst 1 ((a1.drop 1).map encS)))] []) ⟨⟨rfl,trivial⟩,trivial⟩ (by exact fun S hn h hh=>aops_slice_lst (1) (a1.length) ((a1.drop 1).map encS) tSl25 wants_none h.1 ⟨_,rfl⟩ (List.length_map ..).symm hc59 (Nat.le_of_eq (List.length_map ..).symm) slL_hi rfl (aops_nil ⟨rfl,rfl⟩)) rfl (xD (OD.mk [(92,(V.own 4 a6.length)),(94,(V.lst 1 ((a1.drop 1).map encS)))] [(4,(Ob.arr 9 1 (a6.map encS))),(5,Ob.res)] [(95,(V.own 5 (a6++(a1.drop 1)).length))] [(5,(Ob.arr 9 1 ((a6++(a1.drop 1)).map encS))),(4,Ob.dead)]) ⟨⟨rfl,rfl,trivial⟩,⟨rfl,rfl,trivial⟩⟩ (by exact fun S hn h hh=>aops_append_at 5 rfl hn hh.2.1 ((a1.drop 1).map encS) ((a6++(a1.drop 1)).map encS) tEl25 tIsSl25 rfl rfl wants_none h.1 hh.1 (by simp) h.2.1 (.lst (rows_one one_encS)) (map_snoc encS a6 (a1.drop 1)) (List.length_map ..) hc60 rfl (aops_nil ⟨rfl,rfl⟩)) rfl (vs 4 rfl .nil)))) (by kernel_rfl) ?_
  refine rn 3 rfl ?_
  refine ln rfl rfl ?_
  refine rn 3 rfl ?_
  replace h:=Option.some.inj h
  subst h
  exact wR ⟨.inl rfl,[(4,(bV (((a1.length:Nat):Int)==2)))],(Ghost.trans (ghost_mvC 1 0 6 56 2 (Ob.arr 39 5 [[(V.own 6 a3.length),(V.own 2 a4.length),(V.own 3 a5.length),(V.own 5 (a6++(a1.drop 1)).length),(iV 0)]]) rfl rfl rfl (ObSub.box (.cons Sub.mv (.cons Sub.keepMv (.cons Sub.keepMv (.cons Sub.keepMv (.cons Sub.keepMv .nil)))))) rfl rfl) (Ghost.trans (ghost_mvC 2 0 7 61 2 (Ob.arr 39 5 [[(V.own 6 a3.length),(V.own 7 a4.length),(V.own 3 a5.length),(V.own 5 (a6++(a1.drop 1)).length),(iV 0)]]) rfl rfl rfl (ObSub.box (.cons Sub.keepMv (.cons Sub.mv (.cons Sub.keepMv (.cons Sub.keepMv (.cons Sub.keepMv .nil)))))) rfl rfl) (Ghost.trans (ghost_mvC 3 0 8 71 4 (Ob.arr 39 5 [[(V.own 6 a3.length),(V.own 7 a4.length),(V.own 8 a5.length),(V.own 5 (a6++(a1.drop 1)).length),(iV 0)]]) rfl rfl rfl (ObSub.box (.cons Sub.keepMv (.cons Sub.keepMv (.cons Sub.mv (.cons Sub.keepMv (.cons Sub.keepMv .nil)))))) rfl rfl) (gr [0,1,2,3,4,6,7,8,5] rfl (hB rfl rfl rfl (hD rfl (hD rfl (hD rfl (hD rfl (hR rfl rfl (hR rfl rfl (hR rfl rfl (hR rfl rfl .nil))))))))) rfl)))),(.cons (.tmp rfl) .nil)⟩
 obtain⟨y61,hx62,h⟩:=bind_some h
 refine rn 6 rfl ?_
 refine aops_mcallS (bV (y61.1)) [(V.ptr 0 5 0 0),(V.lst 1 (a1.map encS))] (fun i=>([0,1,2,3,4]:List Nat).getD i 0) (fun i=>([0,1,2,3,4]:List Nat).getD i 0) 5 5 [(0,(Ob.arr 39 5 [[(V.own 1 a3.length),(V.own 2 (y61.2.1).length),(V.own 3 (y61.2.2).length),(V.own 4 a6.length),(iV a2)]])),(1,(Ob.arr 56 2 (a3.map encTIface))),(2,(Ob.arr 61 2 ((y61.2.1).map dencTType))),(3,(Ob.arr 71 4 ((y61.2.2).map dencTFunc))),(4,(Ob.arr 9 1 (a6.map encS)))] fOk39 wants_none rfl (evm_cons rfl (evm_cons rfl evm_nil)) (.cons (Sub.ptr rfl rfl) (.cons (Sub.imm (Imm.lst _ _)) .nil)) (.cons rfl (ObSub.box (.cons (Sub.own rfl rfl) (.cons (Sub.own rfl rfl) (.cons (Sub.own rfl rfl) (.cons (Sub.own rfl rfl) (.cons (Sub.imm (Imm.con _)) .nil)))))) (.cons rfl (ObSub.rows (rows_imm imms_encTIface)) (.cons rfl (ObSub.rowsK RK.h) (.cons rfl (ObSub.rowsK RK.h) (.cons rfl (ObSub.rows (rows_imm imms_encS)) .nil))))) (W39 F a1 a2 a3 a4 a5 a6 y61 hx62) rfl rfl rfl rfl (Sub.immT (Imm.con _)) (.cons rfl (ObSub.box (.cons (Sub.ownT rfl rfl) (.cons (Sub.ownT rfl rfl) (.cons (Sub.ownT rfl rfl) (.cons (Sub.ownT rfl rfl) (.cons (Sub.immT (Imm.con _)) .nil)))))) (.cons rfl (ObSub.rowsT (rows_imm imms_encTIface)) (.cons rfl (ObSub.rowsTK RK.h) (.cons rfl (ObSub.rowsTK RK.h) (.cons rfl (ObSub.rowsT (rows_imm imms_encS)) .nil))))) _ rfl ?_
 refine fo (rn 2 rfl ?_)
 replace h:=Option.some.inj h
 subst h
 exact wR ⟨.inl rfl,[(4,(bV (y61.1)))],(Ghost.trans (ghost_mvC 1 0 5 56 2 (Ob.arr 39 5 [[(V.own 5 a3.length),(V.own 2 (y61.2.1).length),(V.own 3 (y61.2.2).length),(V.own 4 a6.length),(iV a2)]]) rfl rfl rfl (ObSub.box (.cons Sub.mv (.cons Sub.keepMv (.cons Sub.keepMv (.cons Sub.keepMv (.cons Sub.keepMv .nil)))))) rfl rfl) (Ghost.trans (ghost_mvC 2 0 6 61 2 (Ob.arr 39 5 [[(V.own 5 a3.length),(V.own 6 (y61.2.1).length),(V.own 3 (y61.2.2).length),(V.own 4 a6.length),(iV a2)]]) rfl rfl rfl (ObSub.box (.cons Sub.keepMv (.cons Sub.mv (.cons Sub.keepMv (.cons Sub.keepMv (.cons Sub.keepMv .nil)))))) rfl rfl) (Ghost.trans (ghost_mvC 3 0 7 71 4 (Ob.arr 39 5 [[(V.own 5 a3.length),(V.own 6 (y61.2.1).length),(V.own 7 (y61.2.2).length),(V.own 4 a6.length),(iV a2)]]) rfl rfl rfl (ObSub.box (.cons Sub.keepMv (.cons Sub.keepMv (.cons Sub.mv (.cons Sub.keepMv (.cons Sub.keepMv .nil)))))) rfl rfl) (Ghost.trans (ghost_mvC 4 0 8 9 1 (Ob.arr 39 5 [[(V.own 5 a3.length),(V.own 6 (y61.2.1).length),(V.own 7 (y61.2.2).length),(V.own 8 a6.length),(iV a2)]]) rfl rfl rfl (ObSub.box (.cons Sub.keepMv (.cons Sub.keepMv (.cons Sub.keepMv (.cons Sub.mv (.cons Sub.keepMv .nil)))))) rfl rfl) (gr [0,1,2,3,4,5,6,7,8] rfl (hB rfl rfl rfl (hD rfl (hD rfl (hD rfl (hD rfl (hR rfl rfl (hR rfl rfl (hR rfl rfl (hR rfl rfl .nil))))))))) rfl))))),(.cons (.tmp rfl) .nil)⟩
theorem W77(F:Nat)(a1:(List UInt8))(r:Bool)(h:M77 F a1=some r):PureG (gl mx) Tryz.prog 77 [(sV a1)] (bV r):=by
 refine pin (fun r=>(bV r)) r rfl Tryz.func77 rfl rfl rfl rfl rfl (fun w0 m0 hg=>?_)
 unfold M77 at h
 refine rn 11 rfl ?_
 exact rt h rfl
theorem W42(F:Nat)(a1:(List UInt8))(a2:(List UInt8))(r:Int)(h:M42 F a1 a2=some r):PureG (gl mx) Tryz.prog 42 [(sV a1),(sV a2)] (iV r):=by
 refine pin (fun r=>(iV r)) r rfl Tryz.func42 rfl rfl rfl rfl rfl (fun w0 m0 hg=>?_)
 unfold M42 at h
 refine rn 7 rfl ?_
 refine cl h rfl rfl rfl (W77 _ _) rfl (fun y3 hx4 h=>?_)
 refine rn 5 rfl ?_
 refine cl h rfl rfl rfl (W77 _ _) rfl (fun y5 hx6 h=>?_)
 refine rn 7 rfl ?_
 refine spC h rfl (fun hb7 h=>?_) (fun hb7 h=>?_)
 ·refine rn 5 rfl ?_
  refine spC h rfl (fun hb8 h=>?_) (fun hb8 h=>?_)
  ·refine rn 4 rfl ?_
   exact rt h rfl
  refine rn 5 rfl ?_
  exact rt h rfl
 refine rn 6 rfl ?_
 refine spC h rfl (fun hb9 h=>?_) (fun hb9 h=>?_)
 ·refine rn 4 rfl ?_
  exact rt h rfl
 refine rn 8 rfl ?_
 refine spC h rfl (fun hb10 h=>?_) (fun hb10 h=>?_)
 ·refine rn 4 rfl ?_
  exact rt h rfl
 refine rn 8 rfl ?_
 refine spC h rfl (fun hb11 h=>?_) (fun hb11 h=>?_)
 ·refine rn 4 rfl ?_
  exact rt h rfl
 refine rn 5 rfl ?_
 exact rt h rfl
theorem W41(F:Nat)(a1:TMethod)(a2:TMethod)(r:Int)(h:M41 F a1 a2=some r):PureG (gl mx) Tryz.prog 41 [(V.agg (encTMethod a1)),(V.agg (encTMethod a2))] (iV r):=by
 refine pin (fun r=>(iV r)) r rfl Tryz.func41 rfl rfl rfl rfl rfl (fun w0 m0 hg=>?_)
 unfold M41 at h
 refine rn 12 rfl ?_
 refine cl h rfl rfl rfl (W42 _ _ _) rfl (fun y3 hx4 h=>?_)
 refine rn 2 rfl ?_
 exact rt h rfl
theorem W109(F:Nat)(a1:Int)(a2:Int)(a3:List TMethod)(r:(List TMethod))(h:M109 F a1 a2 a3=some r):MutG (gl mx) Tryz.prog 109 [(V.own 0 a3.length),(iV a1),(iV a2),(V.fn (.func 41) [] [])] 1 [(0,(Ob.arr 64 2 (a3.map encTMethod)))] (resV []) 1 [(0,(Ob.arr 64 2 (r.map encTMethod)))]:=by
 refine mut_enter Tryz.func109 rfl rfl (l:=[]) rfl rfl [(0,(V.own 0 a3.length)),(1,(iV a1)),(2,(iV a2)),(3,(V.fn (.func 41) [] []))] rfl (fun w0 m0 β0 hg=>en ?_)
 unfold M109 at h
 refine rn 7 rfl ?_
 refine lC (fun(p:Int×(List TMethod))=>(⟨[(0,(V.own 0 (p.2).length)),(1,(iV a1)),(2,(iV a2)),(3,(V.fn (.func 41) [] [])),(8,(iV (p.1)))],[(0,(Ob.arr 64 2 ((p.2).map encTMethod)))],1⟩:St)) (fun n p=>M109_L1 F a1 a2 n p.1 p.2=some r) (fun p h=>by simp[M109_L1] at h) F ((w64 (a1+1)),a3) h (gr [0] rfl (hR rfl rfl .nil) rfl) (fun n p h=>?_)
 obtain⟨n36,l37⟩:=p
 unfold M109_L1 at h
 refine rn 7 rfl ?_
 refine spC h rfl (fun hb38 h=>?_) (fun hb38 h=>?_)
 ·refine rn 2 rfl ?_
  refine jK h (fun(p:(List TMethod))=>(⟨[(0,(V.own 0 p.length)),(1,(iV a1)),(2,(iV a2)),(3,(V.fn (.func 41) [] [])),(8,(iV n36))],[(0,(Ob.arr 64 2 (p.map encTMethod)))],1⟩:St)) (fun k39 p=>k39 p=some r) (fun k39 h=>?_) ?_
  ·refine rn 6 rfl ?_
   refine jK h (fun(p:(List TMethod))=>(⟨[(0,(V.own 0 p.length)),(1,(iV a1)),(2,(iV a2)),(3,(V.fn (.func 41) [] [])),(8,(iV n36))],[(0,(Ob.arr 64 2 (p.map encTMethod)))],1⟩:St)) (fun k41 p=>k41 p=some r) (fun k41 h=>?_) ?_
   ·refine rn 1 rfl ?_
    refine lC (fun(p:Int×(List TMethod))=>(⟨[(0,(V.own 0 (p.2).length)),(1,(iV a1)),(2,(iV a2)),(3,(V.fn (.func 41) [] [])),(8,(iV n36)),(9,(iV (p.1)))],[(0,(Ob.arr 64 2 ((p.2).map encTMethod)))],1⟩:St)) (fun n p=>M109_L2 F a1 k41 n p.1 p.2=some r) (fun p h=>by simp[M109_L2] at h) F (n36,l37) h (gr [0] rfl (hR rfl rfl .nil) rfl) (fun n p h=>?_)
    obtain⟨n45,l46⟩:=p
    unfold M109_L2 at h
    refine rn 2 rfl ?_
    refine bs h (fun hb47 h=>?_) (fun hb47 h=>?_)
    ·obtain⟨x48,hx49,h⟩:=bind_some h
     obtain⟨x50,hx51,h⟩:=bind_some h
     obtain⟨y52,hx53,h⟩:=bind_some h
     refine dr mixed (vs 3 rfl (vb hb47 rfl (vs 3 rfl (oD (a:=l46) hx49 rfl rfl rfl rfl (lD hx49 rfl rfl rfl rfl rfl (vs 3 rfl (oD (a:=l46) hx51 rfl rfl rfl rfl (lD hx51 rfl rfl rfl rfl rfl (cD rfl rfl rfl rfl (W41 _ _ _ _ hx53) rfl (vs 2 rfl .nil)))))))))) (by kernel_rfl) ?_
     refine spC h rfl (fun hb54 h=>?_) (fun hb54 h=>?_)
     ·obtain⟨x55,hx56,h⟩:=bind_some h
      obtain⟨x57,hx58,h⟩:=bind_some h
      obtain⟨x59,hx60,h⟩:=bind_some h
      obtain⟨x61,hx62,h⟩:=bind_some h
      refine rn 3 rfl ?_
      refine dr mixed (vs 8 rfl (oD (a:=l46) hx56 rfl rfl rfl rfl (lD hx56 rfl rfl rfl rfl rfl (vs 2 rfl (oD (a:=l46) hx58 rfl rfl rfl rfl (lD hx58 rfl rfl rfl rfl rfl (oD (a:=l46) hx60 rfl rfl rfl rfl (xD (OD.mk [(51,(V.ptr 0 2 n45.toNat 0)),(46,(V.agg (encTMethod x55)))] [(0,(Ob.arr 64 2 (l46.map encTMethod)))] [] [(0,(Ob.arr 64 2 ((l46.set n45.toNat x55).map encTMethod)))]) ⟨⟨rfl,rfl,trivial⟩,⟨rfl,trivial⟩⟩ (by exact fun S hn h hh=>aops_store (encTMethod x55) ((l46.set n45.toNat x55).map encTMethod) tS64 wants_none h.1 h.2.1 rfl rfl hh.1 (idx_map encTMethod hx60) rfl (map_set encTMethod l46 _ x55) (aops_nil ⟨rfl,rfl⟩)) rfl (xD (OD.mk [(39,(V.own 0 l46.length)),(41,(iV (w64 (n45 - 1))))] [] [(52,(V.ptr 0 2 (w64 (n45 - 1)).toNat 0))] []) ⟨⟨rfl,rfl,trivial⟩,trivial⟩ (by exact fun S hn h hh=>aops_index_own tSl59 wants_none h.1 h.2.1 (idx_some hx62).1 (by simpa using idx_lt hx62) rfl (aops_nil ⟨rfl,rfl⟩)) rfl (xD (OD.mk [(52,(V.ptr 0 2 (w64 (n45 - 1)).toNat 0)),(50,(V.agg (encTMethod x57)))] [(0,(Ob.arr 64 2 ((l46.set n45.toNat x55).map encTMethod)))] [] [(0,(Ob.arr 64 2 (((l46.set n45.toNat x55).set (w64 (n45 - 1)).toNat x57).map encTMethod)))]) ⟨⟨rfl,rfl,trivial⟩,⟨rfl,trivial⟩⟩ (by exact fun S hn h hh=>aops_store (encTMethod x57) (((l46.set n45.toNat x55).set (w64 (n45 - 1)).toNat x57).map encTMethod) tS64 wants_none h.1 h.2.1 rfl rfl hh.1 (idx_map encTMethod hx62) rfl (map_set encTMethod (l46.set n45.toNat x55) _ x57) (aops_nil ⟨rfl,rfl⟩)) rfl .nil)))))))))) (by kernel_rfl) ?_
      refine rn 6 rfl ?_
      exact jX ((w64 (n45 - 1)),((l46.set n45.toNat x55).set (w64 (n45 - 1)).toNat x57)) h (ghost_ren 1 (fun i=>([0]:List Nat).getD i 0) _ _ (by decide) (EnvSub.get (.cons (Sub.ownE rfl rfl (by simp)) (.cons (Sub.imm (Imm.con _)) (.cons (Sub.imm (Imm.con _)) (.cons (Sub.imm (Imm.fn .nil .nil)) (.cons (Sub.imm (Imm.con _)) (.cons (Sub.imm (Imm.con _)) .nil))))))) (HpSub.get (.cons rfl (ObSub.rows (rows_imm imms_encTMethod)) .nil)) rfl)
     refine rn 1 rfl ?_
     exact jX l46 h (gr [0] rfl (hR rfl rfl .nil) rfl)
    refine dr mixed (vs 3 rfl (vb hb47 rfl (vs 13 rfl .nil))) (by kernel_rfl) ?_
    refine rn 2 rfl ?_
    exact jX l46 h (gr [0] rfl (hR rfl rfl .nil) rfl)
   intro l42 h
   refine rn 1 rfl ?_
   exact jX l42 h (gr [0] rfl (hR rfl rfl .nil) rfl)
  intro l40 h
  refine rn 5 rfl ?_
  exact jX ((w64 (n36+1)),l40) h (gr [0] rfl (hR rfl rfl .nil) rfl)
 refine rn 1 rfl ?_
 replace h:=Option.some.inj h
 subst h
 exact wE ⟨.inr rfl,[],(gr [0] rfl (hR rfl rfl .nil) rfl),.nil⟩
theorem W174(F:Nat)(a1:Int)(a2:Int)(a3:Int)(a4:List TMethod)(r:(List TMethod))(h:M174 F a1 a2 a3 a4=some r):MutG (gl mx) Tryz.prog 174 [(V.own 0 a4.length),(iV a1),(iV a2),(iV a3),(V.fn (.func 41) [] [])] 1 [(0,(Ob.arr 64 2 (a4.map encTMethod)))] (resV []) 1 [(0,(Ob.arr 64 2 (r.map encTMethod)))]:=by
 refine mut_enter Tryz.func174 rfl rfl (l:=[]) rfl rfl [(0,(V.own 0 a4.length)),(1,(iV a1)),(2,(iV a2)),(3,(iV a3)),(4,(V.fn (.func 41) [] []))] rfl (fun w0 m0 β0 hg=>en ?_)
 unfold M174 at h
 refine rn 5 rfl ?_
 refine ck h (fun hA33 h=>?_)
 refine lC (fun(p:Int×(List TMethod))=>(⟨[(0,(V.own 0 (p.2).length)),(1,(iV a1)),(2,(iV a2)),(3,(iV a3)),(10,(iV (p.1)))],[(0,(Ob.arr 64 2 ((p.2).map encTMethod)))],1⟩:St)) (fun n p=>RC a3 (fun tl nn=>M174_L1 F a1 a2 tl nn p.2=some r) n p.1) (fun p h=>RC.zero h) (Int.toNat a3+1) (0,a4) (RC.start h) (gr [0] rfl (hR rfl rfl .nil) rfl) (fun n p h=>?_)
 obtain⟨n22,l23⟩:=p
 refine rn 7 rfl ?_
 refine spL rfl (fun hb24=>?_) (fun hb24=>?_)
 ·obtain⟨tl,h,hk1⟩:=RC.t hA33 h hb24
  unfold M174_L1 at h
  obtain⟨x25,hx26,h⟩:=bind_some h
  obtain⟨x27,hx28,h⟩:=bind_some h
  obtain⟨x29,hx30,h⟩:=bind_some h
  obtain⟨x31,hx32,h⟩:=bind_some h
  refine rn 3 rfl ?_
  refine dr mixed (vs 12 rfl (oD (a:=l23) hx26 rfl rfl rfl rfl (lD hx26 rfl rfl rfl rfl rfl (vs 4 rfl (oD (a:=l23) hx28 rfl rfl rfl rfl (lD hx28 rfl rfl rfl rfl rfl (oD (a:=l23) hx30 rfl rfl rfl rfl (xD (OD.mk [(36,(V.ptr 0 2 (w64 (a1+n22)).toNat 0)),(29,(V.agg (encTMethod x25)))] [(0,(Ob.arr 64 2 (l23.map encTMethod)))] [] [(0,(Ob.arr 64 2 ((l23.set (w64 (a1+n22)).toNat x25).map encTMethod)))]) ⟨⟨rfl,rfl,trivial⟩,⟨rfl,trivial⟩⟩ (by exact fun S hn h hh=>aops_store (encTMethod x25) ((l23.set (w64 (a1+n22)).toNat x25).map encTMethod) tS64 wants_none h.1 h.2.1 rfl rfl hh.1 (idx_map encTMethod hx30) rfl (map_set encTMethod l23 _ x25) (aops_nil ⟨rfl,rfl⟩)) rfl (xD (OD.mk [(20,(V.own 0 l23.length)),(23,(iV (w64 (a2+n22))))] [] [(37,(V.ptr 0 2 (w64 (a2+n22)).toNat 0))] []) ⟨⟨rfl,rfl,trivial⟩,trivial⟩ (by exact fun S hn h hh=>aops_index_own tSl59 wants_none h.1 h.2.1 (idx_some hx32).1 (by simpa using idx_lt hx32) rfl (aops_nil ⟨rfl,rfl⟩)) rfl (xD (OD.mk [(37,(V.ptr 0 2 (w64 (a2+n22)).toNat 0)),(35,(V.agg (encTMethod x27)))] [(0,(Ob.arr 64 2 ((l23.set (w64 (a1+n22)).toNat x25).map encTMethod)))] [] [(0,(Ob.arr 64 2 (((l23.set (w64 (a1+n22)).toNat x25).set (w64 (a2+n22)).toNat x27).map encTMethod)))]) ⟨⟨rfl,rfl,trivial⟩,⟨rfl,trivial⟩⟩ (by exact fun S hn h hh=>aops_store (encTMethod x27) (((l23.set (w64 (a1+n22)).toNat x25).set (w64 (a2+n22)).toNat x27).map encTMethod) tS64 wants_none h.1 h.2.1 rfl rfl hh.1 (idx_map encTMethod hx32) rfl (map_set encTMethod (l23.set (w64 (a1+n22)).toNat x25) _ x27) (aops_nil ⟨rfl,rfl⟩)) rfl .nil)))))))))) (by kernel_rfl) ?_
  refine rn 6 rfl ?_
  exact jX ((w64 (n22+1)),((l23.set (w64 (a1+n22)).toNat x25).set (w64 (a2+n22)).toNat x27)) (hk1 _ h) (ghost_ren 1 (fun i=>([0]:List Nat).getD i 0) _ _ (by decide) (EnvSub.get (.cons (Sub.ownE rfl rfl (by simp)) (.cons (Sub.imm (Imm.con _)) (.cons (Sub.imm (Imm.con _)) (.cons (Sub.imm (Imm.con _)) (.cons (Sub.imm (Imm.con _)) .nil)))))) (HpSub.get (.cons rfl (ObSub.rows (rows_imm imms_encTMethod)) .nil)) rfl)
 replace h:=RC.f h hb24
 unfold M174_L1 at h
 refine rn 1 rfl ?_
 replace h:=Option.some.inj h
 subst h
 exact wE ⟨.inr rfl,[],(gr [0] rfl (hR rfl rfl .nil) rfl),.nil⟩
theorem W139(F:Nat)(a1:Int)(a2:Int)(a3:Int)(a4:List TMethod)(r:(List TMethod))(h:M139 F a1 a2 a3 a4=some r):MutG (gl mx) Tryz.prog 139 [(V.own 0 a4.length),(iV a1),(iV a2),(iV a3),(V.fn (.func 41) [] [])] 1 [(0,(Ob.arr 64 2 (a4.map encTMethod)))] (resV []) 1 [(0,(Ob.arr 64 2 (r.map encTMethod)))]:=by
 refine mut_enter Tryz.func139 rfl rfl (l:=[]) rfl rfl [(0,(V.own 0 a4.length)),(1,(iV a1)),(2,(iV a2)),(3,(iV a3)),(4,(V.fn (.func 41) [] []))] rfl (fun w0 m0 β0 hg=>en ?_)
 unfold M139 at h
 refine rn 15 rfl ?_
 refine jK h (fun(p:Int×(List TMethod))=>(⟨[(0,(V.own 0 (p.2).length)),(2,(iV a2)),(4,(V.fn (.func 41) [] [])),(10,(iV (p.1)))],[(0,(Ob.arr 64 2 ((p.2).map encTMethod)))],1⟩:St)) (fun k30 p=>k30 p.1 p.2=some r) (fun k30 h=>?_) ?_
 ·refine rn 1 rfl ?_
  refine lC (fun(p:Int×Int×(List TMethod))=>(⟨[(0,(V.own 0 (p.2.2).length)),(2,(iV a2)),(4,(V.fn (.func 41) [] [])),(10,(iV (p.1))),(11,(iV (p.2.1)))],[(0,(Ob.arr 64 2 ((p.2.2).map encTMethod)))],1⟩:St)) (fun n p=>M139_L1 F a2 k30 n p.1 p.2.1 p.2.2=some r) (fun p h=>by simp[M139_L1] at h) F ((w64 (a2 - a1)),(w64 (a3 - a2)),a4) h (gr [0] rfl (hR rfl rfl .nil) rfl) (fun n p h=>?_)
  obtain⟨n36,n37,l38⟩:=p
  unfold M139_L1 at h
  refine rn 7 rfl ?_
  refine spC h rfl (fun hb39 h=>?_) (fun hb39 h=>?_)
  ·refine rn 8 rfl ?_
   refine jK h (fun(p:Int×Int×(List TMethod))=>(⟨[(0,(V.own 0 (p.2.2).length)),(2,(iV a2)),(4,(V.fn (.func 41) [] [])),(10,(iV (p.1))),(11,(iV (p.2.1)))],[(0,(Ob.arr 64 2 ((p.2.2).map encTMethod)))],1⟩:St)) (fun k40 p=>k40 p.1 p.2.1 p.2.2=some r) (fun k40 h=>?_) ?_
   ·refine spC h rfl (fun hb44 h=>?_) (fun hb44 h=>?_)
    ·obtain⟨y45,hx46,h⟩:=bind_some h
     refine rn 9 rfl ?_
     refine ck h (fun hc47 h=>?_)
     refine aops_mcallS (V.tup []) [(V.own 0 l38.length),(iV (w64 (a2 - n36))),(iV a2),(iV n37),(V.fn (.func 41) [] [])] (fun i=>([0]:List Nat).getD i 0) (fun i=>([0]:List Nat).getD i 0) 1 1 [(0,(Ob.arr 64 2 (y45.map encTMethod)))] fOk174 wants_none rfl (evm_cons rfl (evm_cons rfl (evm_cons rfl (evm_cons rfl (evm_cons rfl evm_nil))))) (.cons (Sub.own rfl rfl) (.cons (Sub.imm (Imm.con _)) (.cons (Sub.imm (Imm.con _)) (.cons (Sub.imm (Imm.con _)) (.cons (Sub.imm (Imm.fn .nil .nil)) .nil))))) (.cons rfl (ObSub.rows (rows_imm imms_encTMethod)) .nil) (W174 F (w64 (a2 - n36)) a2 n37 l38 y45 hx46) rfl rfl rfl rfl (Sub.immT (Imm.tup .nil)) (.cons rfl (ObSub.rowsT (rows_imm imms_encTMethod)) .nil) _ rfl ?_
     refine aops_ghost (ghost_tell 0 (V.own 0 y45.length) rfl (Sub.ownI hc47)) ?_
     refine aops_ghost (ghost_tell 24 (V.own 0 y45.length) rfl (Sub.ownI hc47)) ?_
     refine fo (rn 7 rfl ?_)
     exact jX ((w64 (n36 - n37)),n37,y45) h (gr [0] rfl (hR rfl rfl .nil) rfl)
    obtain⟨y48,hx49,h⟩:=bind_some h
    refine rn 13 rfl ?_
    refine ck h (fun hc50 h=>?_)
    refine aops_mcallS (V.tup []) [(V.own 0 l38.length),(iV (w64 (a2 - n36))),(iV (w64 ((w64 (a2+n37)) - n36))),(iV n36),(V.fn (.func 41) [] [])] (fun i=>([0]:List Nat).getD i 0) (fun i=>([0]:List Nat).getD i 0) 1 1 [(0,(Ob.arr 64 2 (y48.map encTMethod)))] fOk174 wants_none rfl (evm_cons rfl (evm_cons rfl (evm_cons rfl (evm_cons rfl (evm_cons rfl evm_nil))))) (.cons (Sub.own rfl rfl) (.cons (Sub.imm (Imm.con _)) (.cons (Sub.imm (Imm.con _)) (.cons (Sub.imm (Imm.con _)) (.cons (Sub.imm (Imm.fn .nil .nil)) .nil))))) (.cons rfl (ObSub.rows (rows_imm imms_encTMethod)) .nil) (W174 F (w64 (a2 - n36)) (w64 ((w64 (a2+n37)) - n36)) n36 l38 y48 hx49) rfl rfl rfl rfl (Sub.immT (Imm.tup .nil)) (.cons rfl (ObSub.rowsT (rows_imm imms_encTMethod)) .nil) _ rfl ?_
    refine aops_ghost (ghost_tell 0 (V.own 0 y48.length) rfl (Sub.ownI hc50)) ?_
    refine aops_ghost (ghost_tell 35 (V.own 0 y48.length) rfl (Sub.ownI hc50)) ?_
    refine fo (rn 7 rfl ?_)
    exact jX (n36,(w64 (n37 - n36)),y48) h (gr [0] rfl (hR rfl rfl .nil) rfl)
   rintro⟨n41,n42,l43⟩ h
   refine rn 1 rfl ?_
   exact jX (n41,n42,l43) h (gr [0] rfl (hR rfl rfl .nil) rfl)
  refine rn 1 rfl ?_
  exact jX (n36,l38) h (gr [0] rfl (hR rfl rfl .nil) rfl)
 rintro⟨n31,l32⟩ h
 obtain⟨y51,hx52,h⟩:=bind_some h
 refine rn 8 rfl ?_
 refine ck h (fun hc53 h=>?_)
 refine aops_mcallS (V.tup []) [(V.own 0 l32.length),(iV (w64 (a2 - n31))),(iV a2),(iV n31),(V.fn (.func 41) [] [])] (fun i=>([0]:List Nat).getD i 0) (fun i=>([0]:List Nat).getD i 0) 1 1 [(0,(Ob.arr 64 2 (y51.map encTMethod)))] fOk174 wants_none rfl (evm_cons rfl (evm_cons rfl (evm_cons rfl (evm_cons rfl (evm_cons rfl evm_nil))))) (.cons (Sub.own rfl rfl) (.cons (Sub.imm (Imm.con _)) (.cons (Sub.imm (Imm.con _)) (.cons (Sub.imm (Imm.con _)) (.cons (Sub.imm (Imm.fn .nil .nil)) .nil))))) (.cons rfl (ObSub.rows (rows_imm imms_encTMethod)) .nil) (W174 F (w64 (a2 - n31)) a2 n31 l32 y51 hx52) rfl rfl rfl rfl (Sub.immT (Imm.tup .nil)) (.cons rfl (ObSub.rowsT (rows_imm imms_encTMethod)) .nil) _ rfl ?_
 refine aops_ghost (ghost_tell 0 (V.own 0 y51.length) rfl (Sub.ownI hc53)) ?_
 refine aops_ghost (ghost_tell 50 (V.own 0 y51.length) rfl (Sub.ownI hc53)) ?_
 refine fo (rn 1 rfl ?_)
 replace h:=Option.some.inj h
 subst h
 exact wE ⟨.inr rfl,[],(gr [0] rfl (hR rfl rfl .nil) rfl),.nil⟩
theorem W110_B(R110:Int->Int->Int->(List TMethod)->Option (List TMethod))(hR110:∀(a1:Int) (a2:Int) (a3:Int) (a4:List TMethod) (r:(List TMethod)),R110 a1 a2 a3 a4=some r->MutG (gl mx) Tryz.prog 110 [(V.own 0 a4.length),(iV a1),(iV a2),(iV a3),(V.fn (.func 41) [] [])] 1 [(0,(Ob.arr 64 2 (a4.map encTMethod)))] (resV []) 1 [(0,(Ob.arr 64 2 (r.map encTMethod)))])(F:Nat)(a1:Int)(a2:Int)(a3:Int)(a4:List TMethod)(r:(List TMethod))(h:M110_B R110 F a1 a2 a3 a4=some r):MutG (gl mx) Tryz.prog 110 [(V.own 0 a4.length),(iV a1),(iV a2),(iV a3),(V.fn (.func 41) [] [])] 1 [(0,(Ob.arr 64 2 (a4.map encTMethod)))] (resV []) 1 [(0,(Ob.arr 64 2 (r.map encTMethod)))]:=by
 refine mut_enter Tryz.func110 rfl rfl (l:=[]) rfl rfl [(0,(V.own 0 a4.length)),(1,(iV a1)),(2,(iV a2)),(3,(iV a3)),(4,(V.fn (.func 41) [] []))] rfl (fun w0 m0 β0 hg=>en ?_)
 unfold M110_B at h
 refine rn 8 rfl ?_
 refine spC h rfl (fun hb134 h=>?_) (fun hb134 h=>?_)
 ·refine rn 11 rfl ?_
  refine jK h (fun(p:Int)=>(⟨[(0,(V.own 0 a4.length)),(1,(iV a1)),(10,(iV p))],[(0,(Ob.arr 64 2 (a4.map encTMethod)))],1⟩:St)) (fun k135 p=>k135 p=some r) (fun k135 h=>?_) ?_
  ·refine rn 1 rfl ?_
   refine lC (fun(p:Int×Int)=>(⟨[(0,(V.own 0 a4.length)),(1,(iV a1)),(4,(V.fn (.func 41) [] [])),(10,(iV (p.1))),(11,(iV (p.2)))],[(0,(Ob.arr 64 2 (a4.map encTMethod)))],1⟩:St)) (fun n p=>M110_L1 F a1 a4 k135 n p.1 p.2=some r) (fun p h=>by simp[M110_L1] at h) F (a2,a3) h (gr [0] rfl (hR rfl rfl .nil) rfl) (fun n p h=>?_)
   obtain⟨n139,n140⟩:=p
   unfold M110_L1 at h
   refine rn 7 rfl ?_
   refine spC h rfl (fun hb141 h=>?_) (fun hb141 h=>?_)
   ·obtain⟨x142,hx143,h⟩:=bind_some h
    obtain⟨x144,hx145,h⟩:=bind_some h
    obtain⟨y146,hx147,h⟩:=bind_some h
    refine rn 13 rfl ?_
    refine dr mixed (vs 3 rfl (oD (a:=a4) hx143 rfl rfl rfl rfl (lD hx143 rfl rfl rfl rfl rfl (vs 2 rfl (oD (a:=a4) hx145 rfl rfl rfl rfl (lD hx145 rfl rfl rfl rfl rfl (cD rfl rfl rfl rfl (W41 _ _ _ _ hx147) rfl (vs 1 rfl .nil)))))))) (by kernel_rfl) ?_
    refine jK h (fun(p:Int×Int)=>(⟨[(0,(V.own 0 a4.length)),(1,(iV a1)),(4,(V.fn (.func 41) [] [])),(10,(iV (p.1))),(11,(iV (p.2)))],[(0,(Ob.arr 64 2 (a4.map encTMethod)))],1⟩:St)) (fun k148 p=>k148 p.1 p.2=some r) (fun k148 h=>?_) ?_
    ·refine spC h rfl (fun hb151 h=>?_) (fun hb151 h=>?_)
     ·refine rn 5 rfl ?_
      exact jX ((w64 ((w64 (Int.fdiv (IntKind.wrap .u64 (w64 (n139+n140))) (2 ^ (min (Int.toNat 1) (IntKind.bits .u64)))))+1)),n140) h (gr [0] rfl (hR rfl rfl .nil) rfl)
     refine rn 4 rfl ?_
     exact jX (n139,(w64 (Int.fdiv (IntKind.wrap .u64 (w64 (n139+n140))) (2 ^ (min (Int.toNat 1) (IntKind.bits .u64)))))) h (gr [0] rfl (hR rfl rfl .nil) rfl)
    rintro⟨n149,n150⟩ h
    refine rn 1 rfl ?_
    exact jX (n149,n150) h (gr [0] rfl (hR rfl rfl .nil) rfl)
   refine rn 1 rfl ?_
   exact jX n139 h (gr [0] rfl (hR rfl rfl .nil) rfl)
  intro n136 h
  refine rn 6 rfl ?_
  refine jK h (fun(p:(List TMethod))=>(⟨[],[(0,(Ob.arr 64 2 (p.map encTMethod)))],1⟩:St)) (fun k152 p=>k152 p=some r) (fun k152 h=>?_) ?_
  ·refine rn 1 rfl ?_
   refine lC (fun(p:Int×(List TMethod))=>(⟨[(0,(V.own 0 (p.2).length)),(10,(iV n136)),(13,(iV (p.1)))],[(0,(Ob.arr 64 2 ((p.2).map encTMethod)))],1⟩:St)) (fun n p=>M110_L2 F n136 k152 n p.1 p.2=some r) (fun p h=>by simp[M110_L2] at h) F (a1,a4) h (gr [0] rfl (hR rfl rfl .nil) rfl) (fun n p h=>?_)
   obtain⟨n156,l157⟩:=p
   unfold M110_L2 at h
   refine rn 8 rfl ?_
   refine spC h rfl (fun hb158 h=>?_) (fun hb158 h=>?_)
   ·obtain⟨x159,hx160,h⟩:=bind_some h
    obtain⟨x161,hx162,h⟩:=bind_some h
    obtain⟨x163,hx164,h⟩:=bind_some h
    obtain⟨x165,hx166,h⟩:=bind_some h
    refine rn 3 rfl ?_
    refine dr mixed (vs 8 rfl (oD (a:=l157) hx160 rfl rfl rfl rfl (lD hx160 rfl rfl rfl rfl rfl (vs 2 rfl (oD (a:=l157) hx162 rfl rfl rfl rfl (lD hx162 rfl rfl rfl rfl rfl (oD (a:=l157) hx164 rfl rfl rfl rfl (xD (OD.mk [(75,(V.ptr 0 2 n156.toNat 0)),(70,(V.agg (encTMethod x159)))] [(0,(Ob.arr 64 2 (l157.map encTMethod)))] [] [(0,(Ob.arr 64 2 ((l157.set n156.toNat x159).map encTMethod)))]) ⟨⟨rfl,rfl,trivial⟩,⟨rfl,trivial⟩⟩ (by exact fun S hn h hh=>aops_store (encTMethod x159) ((l157.set n156.toNat x159).map encTMethod) tS64 wants_none h.1 h.2.1 rfl rfl hh.1 (idx_map encTMethod hx164) rfl (map_set encTMethod l157 _ x159) (aops_nil ⟨rfl,rfl⟩)) rfl (xD (OD.mk [(63,(V.own 0 l157.length)),(65,(iV (w64 (n156+1))))] [] [(76,(V.ptr 0 2 (w64 (n156+1)).toNat 0))] []) ⟨⟨rfl,rfl,trivial⟩,trivial⟩ (by exact fun S hn h hh=>aops_index_own tSl59 wants_none h.1 h.2.1 (idx_some hx166).1 (by simpa using idx_lt hx166) rfl (aops_nil ⟨rfl,rfl⟩)) rfl (xD (OD.mk [(76,(V.ptr 0 2 (w64 (n156+1)).toNat 0)),(74,(V.agg (encTMethod x161)))] [(0,(Ob.arr 64 2 ((l157.set n156.toNat x159).map encTMethod)))] [] [(0,(Ob.arr 64 2 (((l157.set n156.toNat x159).set (w64 (n156+1)).toNat x161).map encTMethod)))]) ⟨⟨rfl,rfl,trivial⟩,⟨rfl,trivial⟩⟩ (by exact fun S hn h hh=>aops_store (encTMethod x161) (((l157.set n156.toNat x159).set (w64 (n156+1)).toNat x161).map encTMethod) tS64 wants_none h.1 h.2.1 rfl rfl hh.1 (idx_map encTMethod hx166) rfl (map_set encTMethod (l157.set n156.toNat x159) _ x161) (aops_nil ⟨rfl,rfl⟩)) rfl .nil)))))))))) (by kernel_rfl) ?_
    refine rn 6 rfl ?_
    exact jX ((w64 (n156+1)),((l157.set n156.toNat x159).set (w64 (n156+1)).toNat x161)) h (ghost_ren 1 (fun i=>([0]:List Nat).getD i 0) _ _ (by decide) (EnvSub.get (.cons (Sub.ownE rfl rfl (by simp)) (.cons (Sub.imm (Imm.con _)) (.cons (Sub.imm (Imm.con _)) .nil)))) (HpSub.get (.cons rfl (ObSub.rows (rows_imm imms_encTMethod)) .nil)) rfl)
   refine rn 1 rfl ?_
   exact jX l157 h (gr [0] rfl (hR rfl rfl .nil) rfl)
  intro l153 h
  replace h:=Option.some.inj h
  subst h
  exact wR ⟨.inl rfl,[],(gr [0] rfl (hR rfl rfl .nil) rfl),.nil⟩
 refine rn 9 rfl ?_
 refine spC h rfl (fun hb167 h=>?_) (fun hb167 h=>?_)
 ·refine rn 11 rfl ?_
  refine jK h (fun(p:Int)=>(⟨[(0,(V.own 0 a4.length)),(2,(iV a2)),(14,(iV p))],[(0,(Ob.arr 64 2 (a4.map encTMethod)))],1⟩:St)) (fun k168 p=>k168 p=some r) (fun k168 h=>?_) ?_
  ·refine rn 1 rfl ?_
   refine lC (fun(p:Int×Int)=>(⟨[(0,(V.own 0 a4.length)),(2,(iV a2)),(4,(V.fn (.func 41) [] [])),(14,(iV (p.1))),(15,(iV (p.2)))],[(0,(Ob.arr 64 2 (a4.map encTMethod)))],1⟩:St)) (fun n p=>M110_L3 F a2 a4 k168 n p.1 p.2=some r) (fun p h=>by simp[M110_L3] at h) F (a1,a2) h (gr [0] rfl (hR rfl rfl .nil) rfl) (fun n p h=>?_)
   obtain⟨n172,n173⟩:=p
   unfold M110_L3 at h
   refine rn 7 rfl ?_
   refine spC h rfl (fun hb174 h=>?_) (fun hb174 h=>?_)
   ·obtain⟨x175,hx176,h⟩:=bind_some h
    obtain⟨x177,hx178,h⟩:=bind_some h
    obtain⟨y179,hx180,h⟩:=bind_some h
    refine rn 13 rfl ?_
    refine dr mixed (vs 3 rfl (oD (a:=a4) hx176 rfl rfl rfl rfl (lD hx176 rfl rfl rfl rfl rfl (vs 2 rfl (oD (a:=a4) hx178 rfl rfl rfl rfl (lD hx178 rfl rfl rfl rfl rfl (cD rfl rfl rfl rfl (W41 _ _ _ _ hx180) rfl (vs 2 rfl .nil)))))))) (by kernel_rfl) ?_
    refine jK h (fun(p:Int×Int)=>(⟨[(0,(V.own 0 a4.length)),(2,(iV a2)),(4,(V.fn (.func 41) [] [])),(14,(iV (p.1))),(15,(iV (p.2)))],[(0,(Ob.arr 64 2 (a4.map encTMethod)))],1⟩:St)) (fun k181 p=>k181 p.1 p.2=some r) (fun k181 h=>?_) ?_
    ·refine spC h rfl (fun hb184 h=>?_) (fun hb184 h=>?_)
     ·refine rn 5 rfl ?_
      exact jX ((w64 ((w64 (Int.fdiv (IntKind.wrap .u64 (w64 (n172+n173))) (2 ^ (min (Int.toNat 1) (IntKind.bits .u64)))))+1)),n173) h (gr [0] rfl (hR rfl rfl .nil) rfl)
     refine rn 4 rfl ?_
     exact jX (n172,(w64 (Int.fdiv (IntKind.wrap .u64 (w64 (n172+n173))) (2 ^ (min (Int.toNat 1) (IntKind.bits .u64)))))) h (gr [0] rfl (hR rfl rfl .nil) rfl)
    rintro⟨n182,n183⟩ h
    refine rn 1 rfl ?_
    exact jX (n182,n183) h (gr [0] rfl (hR rfl rfl .nil) rfl)
   refine rn 1 rfl ?_
   exact jX n172 h (gr [0] rfl (hR rfl rfl .nil) rfl)
  intro n169 h
  refine rn 6 rfl ?_
  refine jK h (fun(p:(List TMethod))=>(⟨[],[(0,(Ob.arr 64 2 (p.map encTMethod)))],1⟩:St)) (fun k185 p=>k185 p=some r) (fun k185 h=>?_) ?_
  ·refine rn 1 rfl ?_
   refine lC (fun(p:Int×(List TMethod))=>(⟨[(0,(V.own 0 (p.2).length)),(14,(iV n169)),(17,(iV (p.1)))],[(0,(Ob.arr 64 2 ((p.2).map encTMethod)))],1⟩:St)) (fun n p=>M110_L4 F n169 k185 n p.1 p.2=some r) (fun p h=>by simp[M110_L4] at h) F (a2,a4) h (gr [0] rfl (hR rfl rfl .nil) rfl) (fun n p h=>?_)
   obtain⟨n189,l190⟩:=p
   unfold M110_L4 at h
   refine rn 7 rfl ?_
   refine spC h rfl (fun hb191 h=>?_) (fun hb191 h=>?_)
   ·obtain⟨x192,hx193,h⟩:=bind_some h
    obtain⟨x194,hx195,h⟩:=bind_some h
    obtain⟨x196,hx197,h⟩:=bind_some h
    obtain⟨x198,hx199,h⟩:=bind_some h
    refine rn 3 rfl ?_
    refine dr mixed (vs 8 rfl (oD (a:=l190) hx193 rfl rfl rfl rfl (lD hx193 rfl rfl rfl rfl rfl (vs 2 rfl (oD (a:=l190) hx195 rfl rfl rfl rfl (lD hx195 rfl rfl rfl rfl rfl (oD (a:=l190) hx197 rfl rfl rfl rfl (xD (OD.mk [(127,(V.ptr 0 2 n189.toNat 0)),(122,(V.agg (encTMethod x192)))] [(0,(Ob.arr 64 2 (l190.map encTMethod)))] [] [(0,(Ob.arr 64 2 ((l190.set n189.toNat x192).map encTMethod)))]) ⟨⟨rfl,rfl,trivial⟩,⟨rfl,trivial⟩⟩ (by exact fun S hn h hh=>aops_store (encTMethod x192) ((l190.set n189.toNat x192).map encTMethod) tS64 wants_none h.1 h.2.1 rfl rfl hh.1 (idx_map encTMethod hx197) rfl (map_set encTMethod l190 _ x192) (aops_nil ⟨rfl,rfl⟩)) rfl (xD (OD.mk [(115,(V.own 0 l190.length)),(117,(iV (w64 (n189 - 1))))] [] [(128,(V.ptr 0 2 (w64 (n189 - 1)).toNat 0))] []) ⟨⟨rfl,rfl,trivial⟩,trivial⟩ (by exact fun S hn h hh=>aops_index_own tSl59 wants_none h.1 h.2.1 (idx_some hx199).1 (by simpa using idx_lt hx199) rfl (aops_nil ⟨rfl,rfl⟩)) rfl (xD (OD.mk [(128,(V.ptr 0 2 (w64 (n189 - 1)).toNat 0)),(126,(V.agg (encTMethod x194)))] [(0,(Ob.arr 64 2 ((l190.set n189.toNat x192).map encTMethod)))] [] [(0,(Ob.arr 64 2 (((l190.set n189.toNat x192).set (w64 (n189 - 1)).toNat x194).map encTMethod)))]) ⟨⟨rfl,rfl,trivial⟩,⟨rfl,trivial⟩⟩ (by exact fun S hn h hh=>aops_store (encTMethod x194) (((l190.set n189.toNat x192).set (w64 (n189 - 1)).toNat x194).map encTMethod) tS64 wants_none h.1 h.2.1 rfl rfl hh.1 (idx_map encTMethod hx199) rfl (map_set encTMethod (l190.set n189.toNat x192) _ x194) (aops_nil ⟨rfl,rfl⟩)) rfl .nil)))))))))) (by kernel_rfl) ?_
    refine rn 6 rfl ?_
    exact jX ((w64 (n189 - 1)),((l190.set n189.toNat x192).set (w64 (n189 - 1)).toNat x194)) h (ghost_ren 1 (fun i=>([0]:List Nat).getD i 0) _ _ (by decide) (EnvSub.get (.cons (Sub.ownE rfl rfl (by simp)) (.cons (Sub.imm (Imm.con _)) (.cons (Sub.imm (Imm.con _)) .nil)))) (HpSub.get (.cons rfl (ObSub.rows (rows_imm imms_encTMethod)) .nil)) rfl)
   refine rn 1 rfl ?_
   exact jX l190 h (gr [0] rfl (hR rfl rfl .nil) rfl)
  intro l186 h
  replace h:=Option.some.inj h
  subst h
  exact wR ⟨.inl rfl,[],(gr [0] rfl (hR rfl rfl .nil) rfl),.nil⟩
 refine rn 30 rfl ?_
 refine jK h (fun(p:Int×Int)=>(⟨[(0,(V.own 0 a4.length)),(1,(iV a1)),(2,(iV a2)),(3,(iV a3)),(4,(V.fn (.func 41) [] [])),(18,(iV (w64 (Int.fdiv (IntKind.wrap .u64 (w64 (a1+a3))) (2 ^ (min (Int.toNat 1) (IntKind.bits .u64))))))),(19,(iV (w64 ((w64 (Int.fdiv (IntKind.wrap .u64 (w64 (a1+a3))) (2 ^ (min (Int.toNat 1) (IntKind.bits .u64)))))+a2)))),(20,(iV (p.1))),(21,(iV (p.2)))],[(0,(Ob.arr 64 2 (a4.map encTMethod)))],1⟩:St)) (fun k200 p=>k200 p.1 p.2=some r) (fun k200 h=>?_) ?_
 ·refine spC h rfl (fun hb203 h=>?_) (fun hb203 h=>?_)
  ·refine rn 11 rfl ?_
   exact jX ((w64 ((w64 ((w64 (Int.fdiv (IntKind.wrap .u64 (w64 (a1+a3))) (2 ^ (min (Int.toNat 1) (IntKind.bits .u64)))))+a2)) - a3)),(w64 (Int.fdiv (IntKind.wrap .u64 (w64 (a1+a3))) (2 ^ (min (Int.toNat 1) (IntKind.bits .u64)))))) h (gr [0] rfl (hR rfl rfl .nil) rfl)
  refine rn 9 rfl ?_
  exact jX (a1,a2) h (gr [0] rfl (hR rfl rfl .nil) rfl)
 rintro⟨n201,n202⟩ h
 refine rn 7 rfl ?_
 refine jK h (fun(p:Int)=>(⟨[(0,(V.own 0 a4.length)),(1,(iV a1)),(2,(iV a2)),(3,(iV a3)),(4,(V.fn (.func 41) [] [])),(18,(iV (w64 (Int.fdiv (IntKind.wrap .u64 (w64 (a1+a3))) (2 ^ (min (Int.toNat 1) (IntKind.bits .u64))))))),(19,(iV (w64 ((w64 (Int.fdiv (IntKind.wrap .u64 (w64 (a1+a3))) (2 ^ (min (Int.toNat 1) (IntKind.bits .u64)))))+a2)))),(20,(iV p))],[(0,(Ob.arr 64 2 (a4.map encTMethod)))],1⟩:St)) (fun k204 p=>k204 p=some r) (fun k204 h=>?_) ?_
 ·refine rn 1 rfl ?_
  refine lC (fun(p:Int×Int)=>(⟨[(0,(V.own 0 a4.length)),(1,(iV a1)),(2,(iV a2)),(3,(iV a3)),(4,(V.fn (.func 41) [] [])),(18,(iV (w64 (Int.fdiv (IntKind.wrap .u64 (w64 (a1+a3))) (2 ^ (min (Int.toNat 1) (IntKind.bits .u64))))))),(19,(iV (w64 ((w64 (Int.fdiv (IntKind.wrap .u64 (w64 (a1+a3))) (2 ^ (min (Int.toNat 1) (IntKind.bits .u64)))))+a2)))),(20,(iV (p.1))),(21,(iV (p.2))),(22,(iV (w64 ((w64 ((w64 (Int.fdiv (IntKind.wrap .u64 (w64 (a1+a3))) (2 ^ (min (Int.toNat 1) (IntKind.bits .u64)))))+a2)) - 1))))],[(0,(Ob.arr 64 2 (a4.map encTMethod)))],1⟩:St)) (fun n p=>M110_L5 F a1 a2 a3 a4 k204 n p.1 p.2=some r) (fun p h=>by simp[M110_L5] at h) F (n201,n202) h (gr [0] rfl (hR rfl rfl .nil) rfl) (fun n p h=>?_)
  obtain⟨n208,n209⟩:=p
  unfold M110_L5 at h
  refine rn 7 rfl ?_
  refine spC h rfl (fun hb210 h=>?_) (fun hb210 h=>?_)
  ·obtain⟨x211,hx212,h⟩:=bind_some h
   obtain⟨x213,hx214,h⟩:=bind_some h
   obtain⟨y215,hx216,h⟩:=bind_some h
   refine rn 13 rfl ?_
   refine dr mixed (vs 5 rfl (oD (a:=a4) hx212 rfl rfl rfl rfl (lD hx212 rfl rfl rfl rfl rfl (vs 2 rfl (oD (a:=a4) hx214 rfl rfl rfl rfl (lD hx214 rfl rfl rfl rfl rfl (cD rfl rfl rfl rfl (W41 _ _ _ _ hx216) rfl (vs 2 rfl .nil)))))))) (by kernel_rfl) ?_
   refine jK h (fun(p:Int×Int)=>(⟨[(0,(V.own 0 a4.length)),(1,(iV a1)),(2,(iV a2)),(3,(iV a3)),(4,(V.fn (.func 41) [] [])),(18,(iV (w64 (Int.fdiv (IntKind.wrap .u64 (w64 (a1+a3))) (2 ^ (min (Int.toNat 1) (IntKind.bits .u64))))))),(19,(iV (w64 ((w64 (Int.fdiv (IntKind.wrap .u64 (w64 (a1+a3))) (2 ^ (min (Int.toNat 1) (IntKind.bits .u64)))))+a2)))),(20,(iV (p.1))),(21,(iV (p.2))),(22,(iV (w64 ((w64 ((w64 (Int.fdiv (IntKind.wrap .u64 (w64 (a1+a3))) (2 ^ (min (Int.toNat 1) (IntKind.bits .u64)))))+a2)) - 1))))],[(0,(Ob.arr 64 2 (a4.map encTMethod)))],1⟩:St)) (fun k217 p=>k217 p.1 p.2=some r) (fun k217 h=>?_) ?_
   ·refine spC h rfl (fun hb220 h=>?_) (fun hb220 h=>?_)
    ·refine rn 5 rfl ?_
     exact jX ((w64 ((w64 (Int.fdiv (IntKind.wrap .u64 (w64 (n208+n209))) (2 ^ (min (Int.toNat 1) (IntKind.bits .u64)))))+1)),n209) h (gr [0] rfl (hR rfl rfl .nil) rfl)
    refine rn 4 rfl ?_
    exact jX (n208,(w64 (Int.fdiv (IntKind.wrap .u64 (w64 (n208+n209))) (2 ^ (min (Int.toNat 1) (IntKind.bits .u64)))))) h (gr [0] rfl (hR rfl rfl .nil) rfl)
   rintro⟨n218,n219⟩ h
   refine rn 1 rfl ?_
   exact jX (n218,n219) h (gr [0] rfl (hR rfl rfl .nil) rfl)
  refine rn 1 rfl ?_
  exact jX n208 h (gr [0] rfl (hR rfl rfl .nil) rfl)
 intro n205 h
 refine rn 14 rfl ?_
 refine spO 181 h rfl (fun hb221 h=>?_) (fun hb221 h=>?_)
 ·refine rn 5 rfl ?_
  refine jK h (fun(p:(List TMethod))=>(⟨[(0,(V.own 0 p.length)),(1,(iV a1)),(3,(iV a3)),(4,(V.fn (.func 41) [] [])),(18,(iV (w64 (Int.fdiv (IntKind.wrap .u64 (w64 (a1+a3))) (2 ^ (min (Int.toNat 1) (IntKind.bits .u64))))))),(20,(iV n205)),(24,(iV (w64 ((w64 ((w64 (Int.fdiv (IntKind.wrap .u64 (w64 (a1+a3))) (2 ^ (min (Int.toNat 1) (IntKind.bits .u64)))))+a2)) - n205))))],[(0,(Ob.arr 64 2 (p.map encTMethod)))],1⟩:St)) (fun k222 p=>k222 p=some r) (fun k222 h=>?_) ?_
  ·refine spC h rfl (fun hb224 h=>?_) (fun hb224 h=>?_)
   ·obtain⟨y225,hx226,h⟩:=bind_some h
    refine rn 6 rfl ?_
    refine ck h (fun hc227 h=>?_)
    refine aops_mcallS (V.tup []) [(V.own 0 a4.length),(iV n205),(iV a2),(iV (w64 ((w64 ((w64 (Int.fdiv (IntKind.wrap .u64 (w64 (a1+a3))) (2 ^ (min (Int.toNat 1) (IntKind.bits .u64)))))+a2)) - n205))),(V.fn (.func 41) [] [])] (fun i=>([0]:List Nat).getD i 0) (fun i=>([0]:List Nat).getD i 0) 1 1 [(0,(Ob.arr 64 2 (y225.map encTMethod)))] fOk139 wants_none rfl (evm_cons rfl (evm_cons rfl (evm_cons rfl (evm_cons rfl (evm_cons rfl evm_nil))))) (.cons (Sub.own rfl rfl) (.cons (Sub.imm (Imm.con _)) (.cons (Sub.imm (Imm.con _)) (.cons (Sub.imm (Imm.con _)) (.cons (Sub.imm (Imm.fn .nil .nil)) .nil))))) (.cons rfl (ObSub.rows (rows_imm imms_encTMethod)) .nil) (W139 F n205 a2 (w64 ((w64 ((w64 (Int.fdiv (IntKind.wrap .u64 (w64 (a1+a3))) (2 ^ (min (Int.toNat 1) (IntKind.bits .u64)))))+a2)) - n205)) a4 y225 hx226) rfl rfl rfl rfl (Sub.immT (Imm.tup .nil)) (.cons rfl (ObSub.rowsT (rows_imm imms_encTMethod)) .nil) _ rfl ?_
    refine aops_ghost (ghost_tell 0 (V.own 0 y225.length) rfl (Sub.ownI hc227)) ?_
    refine aops_ghost (ghost_tell 186 (V.own 0 y225.length) rfl (Sub.ownI hc227)) ?_
    refine fo (rn 1 rfl ?_)
    exact jX y225 h (gr [0] rfl (hR rfl rfl .nil) rfl)
   refine rn 1 rfl ?_
   exact jX a4 h (gr [0] rfl (hR rfl rfl .nil) rfl)
  intro l223 h
  refine rn 7 rfl ?_
  refine spO 195 h rfl (fun hb228 h=>?_) (fun hb228 h=>?_)
  ·refine rn 5 rfl ?_
   refine jK h (fun(p:(List TMethod))=>(⟨[(0,(V.own 0 p.length)),(3,(iV a3)),(4,(V.fn (.func 41) [] [])),(18,(iV (w64 (Int.fdiv (IntKind.wrap .u64 (w64 (a1+a3))) (2 ^ (min (Int.toNat 1) (IntKind.bits .u64))))))),(24,(iV (w64 ((w64 ((w64 (Int.fdiv (IntKind.wrap .u64 (w64 (a1+a3))) (2 ^ (min (Int.toNat 1) (IntKind.bits .u64)))))+a2)) - n205))))],[(0,(Ob.arr 64 2 (p.map encTMethod)))],1⟩:St)) (fun k229 p=>k229 p=some r) (fun k229 h=>?_) ?_
   ·refine spC h rfl (fun hb231 h=>?_) (fun hb231 h=>?_)
    ·obtain⟨y232,hx233,h⟩:=bind_some h
     refine rn 6 rfl ?_
     refine ck h (fun hc234 h=>?_)
     refine aops_mcallS (V.tup []) [(V.own 0 l223.length),(iV a1),(iV n205),(iV (w64 (Int.fdiv (IntKind.wrap .u64 (w64 (a1+a3))) (2 ^ (min (Int.toNat 1) (IntKind.bits .u64)))))),(V.fn (.func 41) [] [])] (fun i=>([0]:List Nat).getD i 0) (fun i=>([0]:List Nat).getD i 0) 1 1 [(0,(Ob.arr 64 2 (y232.map encTMethod)))] fOk110 wants_none rfl (evm_cons rfl (evm_cons rfl (evm_cons rfl (evm_cons rfl (evm_cons rfl evm_nil))))) (.cons (Sub.own rfl rfl) (.cons (Sub.imm (Imm.con _)) (.cons (Sub.imm (Imm.con _)) (.cons (Sub.imm (Imm.con _)) (.cons (Sub.imm (Imm.fn .nil .nil)) .nil))))) (.cons rfl (ObSub.rows (rows_imm imms_encTMethod)) .nil) (hR110 a1 n205 (w64 (Int.fdiv (IntKind.wrap .u64 (w64 (a1+a3))) (2 ^ (min (Int.toNat 1) (IntKind.bits .u64))))) l223 _ hx233) rfl rfl rfl rfl (Sub.immT (Imm.tup .nil)) (.cons rfl (ObSub.rowsT (rows_imm imms_encTMethod)) .nil) _ rfl ?_
     refine aops_ghost (ghost_tell 0 (V.own 0 y232.length) rfl (Sub.ownI hc234)) ?_
     refine aops_ghost (ghost_tell 200 (V.own 0 y232.length) rfl (Sub.ownI hc234)) ?_
     refine fo (rn 1 rfl ?_)
     exact jX y232 h (gr [0] rfl (hR rfl rfl .nil) rfl)
    refine rn 1 rfl ?_
    exact jX l223 h (gr [0] rfl (hR rfl rfl .nil) rfl)
   intro l230 h
   refine rn 6 rfl ?_
   refine spO 209 h rfl (fun hb235 h=>?_) (fun hb235 h=>?_)
   ·refine rn 5 rfl ?_
    refine spC h rfl (fun hb236 h=>?_) (fun hb236 h=>?_)
    ·obtain⟨y237,hx238,h⟩:=bind_some h
     refine rn 6 rfl ?_
     refine ck h (fun hc239 h=>?_)
     refine aops_mcallS (V.tup []) [(V.own 0 l230.length),(iV (w64 (Int.fdiv (IntKind.wrap .u64 (w64 (a1+a3))) (2 ^ (min (Int.toNat 1) (IntKind.bits .u64)))))),(iV (w64 ((w64 ((w64 (Int.fdiv (IntKind.wrap .u64 (w64 (a1+a3))) (2 ^ (min (Int.toNat 1) (IntKind.bits .u64)))))+a2)) - n205))),(iV a3),(V.fn (.func 41) [] [])] (fun i=>([0]:List Nat).getD i 0) (fun i=>([0]:List Nat).getD i 0) 1 1 [(0,(Ob.arr 64 2 (y237.map encTMethod)))] fOk110 wants_none rfl (evm_cons rfl (evm_cons rfl (evm_cons rfl (evm_cons rfl (evm_cons rfl evm_nil))))) (.cons (Sub.own rfl rfl) (.cons (Sub.imm (Imm.con _)) (.cons (Sub.imm (Imm.con _)) (.cons (Sub.imm (Imm.con _)) (.cons (Sub.imm (Imm.fn .nil .nil)) .nil))))) (.cons rfl (ObSub.rows (rows_imm imms_encTMethod)) .nil) (hR110 (w64 (Int.fdiv (IntKind.wrap .u64 (w64 (a1+a3))) (2 ^ (min (Int.toNat 1) (IntKind.bits .u64))))) (w64 ((w64 ((w64 (Int.fdiv (IntKind.wrap .u64 (w64 (a1+a3))) (2 ^ (min (Int.toNat 1) (IntKind.bits .u64)))))+a2)) - n205)) a3 l230 _ hx238) rfl rfl rfl rfl (Sub.immT (Imm.tup .nil)) (.cons rfl (ObSub.rowsT (rows_imm imms_encTMethod)) .nil) _ rfl ?_
     refine aops_ghost (ghost_tell 0 (V.own 0 y237.length) rfl (Sub.ownI hc239)) ?_
     refine aops_ghost (ghost_tell 214 (V.own 0 y237.length) rfl (Sub.ownI hc239)) ?_
     refine fo (rn 1 rfl ?_)
     replace h:=Option.some.inj h
     subst h
     exact wE ⟨.inr rfl,[],(gr [0] rfl (hR rfl rfl .nil) rfl),.nil⟩
    refine rn 1 rfl ?_
    replace h:=Option.some.inj h
    subst h
    exact wE ⟨.inr rfl,[],(gr [0] rfl (hR rfl rfl .nil) rfl),.nil⟩
   refine rn 7 rfl ?_
   replace h:=Option.some.inj h
   subst h
   exact wE ⟨.inr rfl,[],(gr [0] rfl (hR rfl rfl .nil) rfl),.nil⟩
  refine rn 13 rfl ?_
  refine spO 209 h rfl (fun hb240 h=>?_) (fun hb240 h=>?_)
  ·refine rn 5 rfl ?_
   refine spC h rfl (fun hb241 h=>?_) (fun hb241 h=>?_)
   ·obtain⟨y242,hx243,h⟩:=bind_some h
    refine rn 6 rfl ?_
    refine ck h (fun hc244 h=>?_)
    refine aops_mcallS (V.tup []) [(V.own 0 l223.length),(iV (w64 (Int.fdiv (IntKind.wrap .u64 (w64 (a1+a3))) (2 ^ (min (Int.toNat 1) (IntKind.bits .u64)))))),(iV (w64 ((w64 ((w64 (Int.fdiv (IntKind.wrap .u64 (w64 (a1+a3))) (2 ^ (min (Int.toNat 1) (IntKind.bits .u64)))))+a2)) - n205))),(iV a3),(V.fn (.func 41) [] [])] (fun i=>([0]:List Nat).getD i 0) (fun i=>([0]:List Nat).getD i 0) 1 1 [(0,(Ob.arr 64 2 (y242.map encTMethod)))] fOk110 wants_none rfl (evm_cons rfl (evm_cons rfl (evm_cons rfl (evm_cons rfl (evm_cons rfl evm_nil))))) (.cons (Sub.own rfl rfl) (.cons (Sub.imm (Imm.con _)) (.cons (Sub.imm (Imm.con _)) (.cons (Sub.imm (Imm.con _)) (.cons (Sub.imm (Imm.fn .nil .nil)) .nil))))) (.cons rfl (ObSub.rows (rows_imm imms_encTMethod)) .nil) (hR110 (w64 (Int.fdiv (IntKind.wrap .u64 (w64 (a1+a3))) (2 ^ (min (Int.toNat 1) (IntKind.bits .u64))))) (w64 ((w64 ((w64 (Int.fdiv (IntKind.wrap .u64 (w64 (a1+a3))) (2 ^ (min (Int.toNat 1) (IntKind.bits .u64)))))+a2)) - n205)) a3 l223 _ hx243) rfl rfl rfl rfl (Sub.immT (Imm.tup .nil)) (.cons rfl (ObSub.rowsT (rows_imm imms_encTMethod)) .nil) _ rfl ?_
    refine aops_ghost (ghost_tell 0 (V.own 0 y242.length) rfl (Sub.ownI hc244)) ?_
    refine aops_ghost (ghost_tell 214 (V.own 0 y242.length) rfl (Sub.ownI hc244)) ?_
    refine fo (rn 1 rfl ?_)
    replace h:=Option.some.inj h
    subst h
    exact wE ⟨.inr rfl,[],(gr [0] rfl (hR rfl rfl .nil) rfl),.nil⟩
   refine rn 1 rfl ?_
   replace h:=Option.some.inj h
   subst h
   exact wE ⟨.inr rfl,[],(gr [0] rfl (hR rfl rfl .nil) rfl),.nil⟩
  refine rn 7 rfl ?_
  replace h:=Option.some.inj h
  subst h
  exact wE ⟨.inr rfl,[],(gr [0] rfl (hR rfl rfl .nil) rfl),.nil⟩
 refine rn 14 rfl ?_
 refine spO 195 h rfl (fun hb245 h=>?_) (fun hb245 h=>?_)
 ·refine rn 5 rfl ?_
  refine jK h (fun(p:(List TMethod))=>(⟨[(0,(V.own 0 p.length)),(3,(iV a3)),(4,(V.fn (.func 41) [] [])),(18,(iV (w64 (Int.fdiv (IntKind.wrap .u64 (w64 (a1+a3))) (2 ^ (min (Int.toNat 1) (IntKind.bits .u64))))))),(24,(iV (w64 ((w64 ((w64 (Int.fdiv (IntKind.wrap .u64 (w64 (a1+a3))) (2 ^ (min (Int.toNat 1) (IntKind.bits .u64)))))+a2)) - n205))))],[(0,(Ob.arr 64 2 (p.map encTMethod)))],1⟩:St)) (fun k246 p=>k246 p=some r) (fun k246 h=>?_) ?_
  ·refine spC h rfl (fun hb248 h=>?_) (fun hb248 h=>?_)
   ·obtain⟨y249,hx250,h⟩:=bind_some h
    refine rn 6 rfl ?_
    refine ck h (fun hc251 h=>?_)
    refine aops_mcallS (V.tup []) [(V.own 0 a4.length),(iV a1),(iV n205),(iV (w64 (Int.fdiv (IntKind.wrap .u64 (w64 (a1+a3))) (2 ^ (min (Int.toNat 1) (IntKind.bits .u64)))))),(V.fn (.func 41) [] [])] (fun i=>([0]:List Nat).getD i 0) (fun i=>([0]:List Nat).getD i 0) 1 1 [(0,(Ob.arr 64 2 (y249.map encTMethod)))] fOk110 wants_none rfl (evm_cons rfl (evm_cons rfl (evm_cons rfl (evm_cons rfl (evm_cons rfl evm_nil))))) (.cons (Sub.own rfl rfl) (.cons (Sub.imm (Imm.con _)) (.cons (Sub.imm (Imm.con _)) (.cons (Sub.imm (Imm.con _)) (.cons (Sub.imm (Imm.fn .nil .nil)) .nil))))) (.cons rfl (ObSub.rows (rows_imm imms_encTMethod)) .nil) (hR110 a1 n205 (w64 (Int.fdiv (IntKind.wrap .u64 (w64 (a1+a3))) (2 ^ (min (Int.toNat 1) (IntKind.bits .u64))))) a4 _ hx250) rfl rfl rfl rfl (Sub.immT (Imm.tup .nil)) (.cons rfl (ObSub.rowsT (rows_imm imms_encTMethod)) .nil) _ rfl ?_
    refine aops_ghost (ghost_tell 0 (V.own 0 y249.length) rfl (Sub.ownI hc251)) ?_
    refine aops_ghost (ghost_tell 200 (V.own 0 y249.length) rfl (Sub.ownI hc251)) ?_
    refine fo (rn 1 rfl ?_)
    exact jX y249 h (gr [0] rfl (hR rfl rfl .nil) rfl)
   refine rn 1 rfl ?_
   exact jX a4 h (gr [0] rfl (hR rfl rfl .nil) rfl)
  intro l247 h
  refine rn 6 rfl ?_
  refine spO 209 h rfl (fun hb252 h=>?_) (fun hb252 h=>?_)
  ·refine rn 5 rfl ?_
   refine spC h rfl (fun hb253 h=>?_) (fun hb253 h=>?_)
   ·obtain⟨y254,hx255,h⟩:=bind_some h
    refine rn 6 rfl ?_
    refine ck h (fun hc256 h=>?_)
    refine aops_mcallS (V.tup []) [(V.own 0 l247.length),(iV (w64 (Int.fdiv (IntKind.wrap .u64 (w64 (a1+a3))) (2 ^ (min (Int.toNat 1) (IntKind.bits .u64)))))),(iV (w64 ((w64 ((w64 (Int.fdiv (IntKind.wrap .u64 (w64 (a1+a3))) (2 ^ (min (Int.toNat 1) (IntKind.bits .u64)))))+a2)) - n205))),(iV a3),(V.fn (.func 41) [] [])] (fun i=>([0]:List Nat).getD i 0) (fun i=>([0]:List Nat).getD i 0) 1 1 [(0,(Ob.arr 64 2 (y254.map encTMethod)))] fOk110 wants_none rfl (evm_cons rfl (evm_cons rfl (evm_cons rfl (evm_cons rfl (evm_cons rfl evm_nil))))) (.cons (Sub.own rfl rfl) (.cons (Sub.imm (Imm.con _)) (.cons (Sub.imm (Imm.con _)) (.cons (Sub.imm (Imm.con _)) (.cons (Sub.imm (Imm.fn .nil .nil)) .nil))))) (.cons rfl (ObSub.rows (rows_imm imms_encTMethod)) .nil) (hR110 (w64 (Int.fdiv (IntKind.wrap .u64 (w64 (a1+a3))) (2 ^ (min (Int.toNat 1) (IntKind.bits .u64))))) (w64 ((w64 ((w64 (Int.fdiv (IntKind.wrap .u64 (w64 (a1+a3))) (2 ^ (min (Int.toNat 1) (IntKind.bits .u64)))))+a2)) - n205)) a3 l247 _ hx255) rfl rfl rfl rfl (Sub.immT (Imm.tup .nil)) (.cons rfl (ObSub.rowsT (rows_imm imms_encTMethod)) .nil) _ rfl ?_
    refine aops_ghost (ghost_tell 0 (V.own 0 y254.length) rfl (Sub.ownI hc256)) ?_
    refine aops_ghost (ghost_tell 214 (V.own 0 y254.length) rfl (Sub.ownI hc256)) ?_
    refine fo (rn 1 rfl ?_)
    replace h:=Option.some.inj h
    subst h
    exact wE ⟨.inr rfl,[],(gr [0] rfl (hR rfl rfl .nil) rfl),.nil⟩
   refine rn 1 rfl ?_
   replace h:=Option.some.inj h
   subst h
   exact wE ⟨.inr rfl,[],(gr [0] rfl (hR rfl rfl .nil) rfl),.nil⟩
  refine rn 7 rfl ?_
  replace h:=Option.some.inj h
  subst h
  exact wE ⟨.inr rfl,[],(gr [0] rfl (hR rfl rfl .nil) rfl),.nil⟩
 refine rn 13 rfl ?_
 refine spO 209 h rfl (fun hb257 h=>?_) (fun hb257 h=>?_)
 ·refine rn 5 rfl ?_
  refine spC h rfl (fun hb258 h=>?_) (fun hb258 h=>?_)
  ·obtain⟨y259,hx260,h⟩:=bind_some h
   refine rn 6 rfl ?_
   refine ck h (fun hc261 h=>?_)
   refine aops_mcallS (V.tup []) [(V.own 0 a4.length),(iV (w64 (Int.fdiv (IntKind.wrap .u64 (w64 (a1+a3))) (2 ^ (min (Int.toNat 1) (IntKind.bits .u64)))))),(iV (w64 ((w64 ((w64 (Int.fdiv (IntKind.wrap .u64 (w64 (a1+a3))) (2 ^ (min (Int.toNat 1) (IntKind.bits .u64)))))+a2)) - n205))),(iV a3),(V.fn (.func 41) [] [])] (fun i=>([0]:List Nat).getD i 0) (fun i=>([0]:List Nat).getD i 0) 1 1 [(0,(Ob.arr 64 2 (y259.map encTMethod)))] fOk110 wants_none rfl (evm_cons rfl (evm_cons rfl (evm_cons rfl (evm_cons rfl (evm_cons rfl evm_nil))))) (.cons (Sub.own rfl rfl) (.cons (Sub.imm (Imm.con _)) (.cons (Sub.imm (Imm.con _)) (.cons (Sub.imm (Imm.con _)) (.cons (Sub.imm (Imm.fn .nil .nil)) .nil))))) (.cons rfl (ObSub.rows (rows_imm imms_encTMethod)) .nil) (hR110 (w64 (Int.fdiv (IntKind.wrap .u64 (w64 (a1+a3))) (2 ^ (min (Int.toNat 1) (IntKind.bits .u64))))) (w64 ((w64 ((w64 (Int.fdiv (IntKind.wrap .u64 (w64 (a1+a3))) (2 ^ (min (Int.toNat 1) (IntKind.bits .u64)))))+a2)) - n205)) a3 a4 _ hx260) rfl rfl rfl rfl (Sub.immT (Imm.tup .nil)) (.cons rfl (ObSub.rowsT (rows_imm imms_encTMethod)) .nil) _ rfl ?_
   refine aops_ghost (ghost_tell 0 (V.own 0 y259.length) rfl (Sub.ownI hc261)) ?_
   refine aops_ghost (ghost_tell 214 (V.own 0 y259.length) rfl (Sub.ownI hc261)) ?_
   refine fo (rn 1 rfl ?_)
   replace h:=Option.some.inj h
   subst h
   exact wE ⟨.inr rfl,[],(gr [0] rfl (hR rfl rfl .nil) rfl),.nil⟩
  refine rn 1 rfl ?_
  replace h:=Option.some.inj h
  subst h
  exact wE ⟨.inr rfl,[],(gr [0] rfl (hR rfl rfl .nil) rfl),.nil⟩
 refine rn 7 rfl ?_
 replace h:=Option.some.inj h
 subst h
 exact wE ⟨.inr rfl,[],(gr [0] rfl (hR rfl rfl .nil) rfl),.nil⟩
theorem W110:∀(F:Nat) (a1:Int) (a2:Int) (a3:Int) (a4:List TMethod) (r:(List TMethod)) (h:M110 F a1 a2 a3 a4=some r),MutG (gl mx) Tryz.prog 110 [(V.own 0 a4.length),(iV a1),(iV a2),(iV a3),(V.fn (.func 41) [] [])] 1 [(0,(Ob.arr 64 2 (a4.map encTMethod)))] (resV []) 1 [(0,(Ob.arr 64 2 (r.map encTMethod)))]:=by
 intro F
 induction F with
 |zero=>intros;simp[M110] at *
 |succ F ih=>exact fun a1 a2 a3 a4 r h=>W110_B (M110 F) ih F a1 a2 a3 a4 r h
theorem W76(F:Nat)(a1:Int)(a2:List TMethod)(r:(List TMethod))(h:M76 F a1 a2=some r):MutG (gl mx) Tryz.prog 76 [(V.own 0 a2.length),(iV a1),(V.fn (.func 41) [] [])] 1 [(0,(Ob.arr 64 2 (a2.map encTMethod)))] (resV []) 1 [(0,(Ob.arr 64 2 (r.map encTMethod)))]:=by
 refine mut_enter Tryz.func76 rfl rfl (l:=[]) rfl rfl [(0,(V.own 0 a2.length)),(1,(iV a1)),(2,(V.fn (.func 41) [] []))] rfl (fun w0 m0 β0 hg=>en ?_)
 unfold M76 at h
 refine rn 11 rfl ?_
 refine jK h (fun(p:Int×(List TMethod))=>(⟨[(0,(V.own 0 (p.2).length)),(1,(iV a1)),(2,(V.fn (.func 41) [] [])),(6,(iV 20)),(7,(iV (p.1)))],[(0,(Ob.arr 64 2 ((p.2).map encTMethod)))],1⟩:St)) (fun k46 p=>k46 p.1 p.2=some r) (fun k46 h=>?_) ?_
 ·refine rn 1 rfl ?_
  refine lC (fun(p:Int×Int×(List TMethod))=>(⟨[(0,(V.own 0 (p.2.2).length)),(1,(iV a1)),(2,(V.fn (.func 41) [] [])),(6,(iV 20)),(7,(iV (p.1))),(8,(iV (p.2.1)))],[(0,(Ob.arr 64 2 ((p.2.2).map encTMethod)))],1⟩:St)) (fun n p=>M76_L1 F a1 k46 n p.1 p.2.1 p.2.2=some r) (fun p h=>by simp[M76_L1] at h) F (0,20,a2) h (gr [0] rfl (hR rfl rfl .nil) rfl) (fun n p h=>?_)
  obtain⟨n52,n53,l54⟩:=p
  unfold M76_L1 at h
  refine rn 7 rfl ?_
  refine spC h rfl (fun hb55 h=>?_) (fun hb55 h=>?_)
  ·obtain⟨y56,hx57,h⟩:=bind_some h
   refine rn 8 rfl ?_
   refine ck h (fun hc58 h=>?_)
   refine aops_mcallS (V.tup []) [(V.own 0 l54.length),(iV n52),(iV n53),(V.fn (.func 41) [] [])] (fun i=>([0]:List Nat).getD i 0) (fun i=>([0]:List Nat).getD i 0) 1 1 [(0,(Ob.arr 64 2 (y56.map encTMethod)))] fOk109 wants_none rfl (evm_cons rfl (evm_cons rfl (evm_cons rfl (evm_cons rfl evm_nil)))) (.cons (Sub.own rfl rfl) (.cons (Sub.imm (Imm.con _)) (.cons (Sub.imm (Imm.con _)) (.cons (Sub.imm (Imm.fn .nil .nil)) .nil)))) (.cons rfl (ObSub.rows (rows_imm imms_encTMethod)) .nil) (W109 F n52 n53 l54 y56 hx57) rfl rfl rfl rfl (Sub.immT (Imm.tup .nil)) (.cons rfl (ObSub.rowsT (rows_imm imms_encTMethod)) .nil) _ rfl ?_
   refine aops_ghost (ghost_tell 0 (V.own 0 y56.length) rfl (Sub.ownI hc58)) ?_
   refine aops_ghost (ghost_tell 14 (V.own 0 y56.length) rfl (Sub.ownI hc58)) ?_
   refine fo (rn 13 rfl ?_)
   exact jX (n53,(w64 (n53+20)),y56) h (gr [0] rfl (hR rfl rfl .nil) rfl)
  refine rn 1 rfl ?_
  exact jX (n52,l54) h (gr [0] rfl (hR rfl rfl .nil) rfl)
 rintro⟨n47,l48⟩ h
 obtain⟨y59,hx60,h⟩:=bind_some h
 refine rn 6 rfl ?_
 refine ck h (fun hc61 h=>?_)
 refine aops_mcallS (V.tup []) [(V.own 0 l48.length),(iV n47),(iV a1),(V.fn (.func 41) [] [])] (fun i=>([0]:List Nat).getD i 0) (fun i=>([0]:List Nat).getD i 0) 1 1 [(0,(Ob.arr 64 2 (y59.map encTMethod)))] fOk109 wants_none rfl (evm_cons rfl (evm_cons rfl (evm_cons rfl (evm_cons rfl evm_nil)))) (.cons (Sub.own rfl rfl) (.cons (Sub.imm (Imm.con _)) (.cons (Sub.imm (Imm.con _)) (.cons (Sub.imm (Imm.fn .nil .nil)) .nil)))) (.cons rfl (ObSub.rows (rows_imm imms_encTMethod)) .nil) (W109 F n47 a1 l48 y59 hx60) rfl rfl rfl rfl (Sub.immT (Imm.tup .nil)) (.cons rfl (ObSub.rowsT (rows_imm imms_encTMethod)) .nil) _ rfl ?_
 refine aops_ghost (ghost_tell 0 (V.own 0 y59.length) rfl (Sub.ownI hc61)) ?_
 refine aops_ghost (ghost_tell 23 (V.own 0 y59.length) rfl (Sub.ownI hc61)) ?_
 refine fo (rn 2 rfl ?_)
 refine lC (fun(p:Int×(List TMethod))=>(⟨[(0,(V.own 0 (p.2).length)),(1,(iV a1)),(2,(V.fn (.func 41) [] [])),(6,(iV (p.1)))],[(0,(Ob.arr 64 2 ((p.2).map encTMethod)))],1⟩:St)) (fun n p=>M76_L2 F a1 n p.1 p.2=some r) (fun p h=>by simp[M76_L2] at h) F (20,y59) h (gr [0] rfl (hR rfl rfl .nil) rfl) (fun n p h=>?_)
 obtain⟨n64,l65⟩:=p
 unfold M76_L2 at h
 refine rn 7 rfl ?_
 refine spC h rfl (fun hb66 h=>?_) (fun hb66 h=>?_)
 ·refine rn 1 rfl ?_
  refine jK h (fun(p:(List TMethod))=>(⟨[(0,(V.own 0 p.length)),(1,(iV a1)),(2,(V.fn (.func 41) [] [])),(6,(iV (w64 (n64*2))))],[(0,(Ob.arr 64 2 (p.map encTMethod)))],1⟩:St)) (fun k67 p=>k67 p=some r) (fun k67 h=>?_) ?_
  ·refine rn 9 rfl ?_
   refine jK h (fun(p:Int×(List TMethod))=>(⟨[(0,(V.own 0 (p.2).length)),(1,(iV a1)),(2,(V.fn (.func 41) [] [])),(6,(iV n64)),(7,(iV (p.1)))],[(0,(Ob.arr 64 2 ((p.2).map encTMethod)))],1⟩:St)) (fun k69 p=>k69 p.1 p.2=some r) (fun k69 h=>?_) ?_
   ·refine rn 1 rfl ?_
    refine lC (fun(p:Int×Int×(List TMethod))=>(⟨[(0,(V.own 0 (p.2.2).length)),(1,(iV a1)),(2,(V.fn (.func 41) [] [])),(6,(iV n64)),(7,(iV (p.1))),(8,(iV (p.2.1)))],[(0,(Ob.arr 64 2 ((p.2.2).map encTMethod)))],1⟩:St)) (fun n p=>M76_L3 F a1 n64 k69 n p.1 p.2.1 p.2.2=some r) (fun p h=>by simp[M76_L3] at h) F (0,(w64 (2*n64)),l65) h (gr [0] rfl (hR rfl rfl .nil) rfl) (fun n p h=>?_)
    obtain⟨n75,n76,l77⟩:=p
    unfold M76_L3 at h
    refine rn 7 rfl ?_
    refine spC h rfl (fun hb78 h=>?_) (fun hb78 h=>?_)
    ·obtain⟨y79,hx80,h⟩:=bind_some h
     refine rn 11 rfl ?_
     refine ck h (fun hc81 h=>?_)
     refine aops_mcallS (V.tup []) [(V.own 0 l77.length),(iV n75),(iV (w64 (n75+n64))),(iV n76),(V.fn (.func 41) [] [])] (fun i=>([0]:List Nat).getD i 0) (fun i=>([0]:List Nat).getD i 0) 1 1 [(0,(Ob.arr 64 2 (y79.map encTMethod)))] fOk110 wants_none rfl (evm_cons rfl (evm_cons rfl (evm_cons rfl (evm_cons rfl (evm_cons rfl evm_nil))))) (.cons (Sub.own rfl rfl) (.cons (Sub.imm (Imm.con _)) (.cons (Sub.imm (Imm.con _)) (.cons (Sub.imm (Imm.con _)) (.cons (Sub.imm (Imm.fn .nil .nil)) .nil))))) (.cons rfl (ObSub.rows (rows_imm imms_encTMethod)) .nil) (W110 F n75 (w64 (n75+n64)) n76 l77 y79 hx80) rfl rfl rfl rfl (Sub.immT (Imm.tup .nil)) (.cons rfl (ObSub.rowsT (rows_imm imms_encTMethod)) .nil) _ rfl ?_
     refine aops_ghost (ghost_tell 0 (V.own 0 y79.length) rfl (Sub.ownI hc81)) ?_
     refine aops_ghost (ghost_tell 36 (V.own 0 y79.length) rfl (Sub.ownI hc81)) ?_
     refine fo (rn 14 rfl ?_)
     exact jX (n76,(w64 (n76+(w64 (2*n64)))),y79) h (gr [0] rfl (hR rfl rfl .nil) rfl)
    refine rn 1 rfl ?_
    exact jX (n75,l77) h (gr [0] rfl (hR rfl rfl .nil) rfl)
   rintro⟨n70,l71⟩ h
   refine rn 14 rfl ?_
   refine jK h (fun(p:(List TMethod))=>(⟨[(0,(V.own 0 p.length)),(1,(iV a1)),(2,(V.fn (.func 41) [] [])),(6,(iV n64))],[(0,(Ob.arr 64 2 (p.map encTMethod)))],1⟩:St)) (fun k82 p=>k82 p=some r) (fun k82 h=>?_) ?_
   ·refine spC h rfl (fun hb84 h=>?_) (fun hb84 h=>?_)
    ·obtain⟨y85,hx86,h⟩:=bind_some h
     refine rn 6 rfl ?_
     refine ck h (fun hc87 h=>?_)
     refine aops_mcallS (V.tup []) [(V.own 0 l71.length),(iV n70),(iV (w64 (n70+n64))),(iV a1),(V.fn (.func 41) [] [])] (fun i=>([0]:List Nat).getD i 0) (fun i=>([0]:List Nat).getD i 0) 1 1 [(0,(Ob.arr 64 2 (y85.map encTMethod)))] fOk110 wants_none rfl (evm_cons rfl (evm_cons rfl (evm_cons rfl (evm_cons rfl (evm_cons rfl evm_nil))))) (.cons (Sub.own rfl rfl) (.cons (Sub.imm (Imm.con _)) (.cons (Sub.imm (Imm.con _)) (.cons (Sub.imm (Imm.con _)) (.cons (Sub.imm (Imm.fn .nil .nil)) .nil))))) (.cons rfl (ObSub.rows (rows_imm imms_encTMethod)) .nil) (W110 F n70 (w64 (n70+n64)) a1 l71 y85 hx86) rfl rfl rfl rfl (Sub.immT (Imm.tup .nil)) (.cons rfl (ObSub.rowsT (rows_imm imms_encTMethod)) .nil) _ rfl ?_
     refine aops_ghost (ghost_tell 0 (V.own 0 y85.length) rfl (Sub.ownI hc87)) ?_
     refine aops_ghost (ghost_tell 55 (V.own 0 y85.length) rfl (Sub.ownI hc87)) ?_
     refine fo (rn 1 rfl ?_)
     exact jX y85 h (gr [0] rfl (hR rfl rfl .nil) rfl)
    refine rn 1 rfl ?_
    exact jX l71 h (gr [0] rfl (hR rfl rfl .nil) rfl)
   intro l83 h
   refine rn 6 rfl ?_
   exact jX l83 h (gr [0] rfl (hR rfl rfl .nil) rfl)
  intro l68 h
  exact jX ((w64 (n64*2)),l68) h (gr [0] rfl (hR rfl rfl .nil) rfl)
 refine rn 1 rfl ?_
 replace h:=Option.some.inj h
 subst h
 exact wE ⟨.inr rfl,[],(gr [0] rfl (hR rfl rfl .nil) rfl),.nil⟩
theorem W40(F:Nat)(a1:List TMethod)(r:(List TMethod))(h:M40 F a1=some r):MutG (gl mx) Tryz.prog 40 [(V.own 0 a1.length),(V.fn (.func 41) [] [])] 1 [(0,(Ob.arr 64 2 (a1.map encTMethod)))] (resV []) 1 [(0,(Ob.arr 64 2 (r.map encTMethod)))]:=by
 refine mut_enter Tryz.func40 rfl rfl (l:=[]) rfl rfl [(0,(V.own 0 a1.length)),(1,(V.fn (.func 41) [] []))] rfl (fun w0 m0 β0 hg=>en ?_)
 unfold M40 at h
 obtain⟨y6,hx7,h⟩:=bind_some h
 refine rn 5 rfl ?_
 refine ck h (fun hc8 h=>?_)
 refine aops_mcallS (V.tup []) [(V.own 0 a1.length),(iV ((a1.length:Nat):Int)),(V.fn (.func 41) [] [])] (fun i=>([0]:List Nat).getD i 0) (fun i=>([0]:List Nat).getD i 0) 1 1 [(0,(Ob.arr 64 2 (y6.map encTMethod)))] fOk76 wants_none rfl (evm_cons rfl (evm_cons rfl (evm_cons rfl evm_nil))) (.cons (Sub.own rfl rfl) (.cons (Sub.imm (Imm.con _)) (.cons (Sub.imm (Imm.fn .nil .nil)) .nil))) (.cons rfl (ObSub.rows (rows_imm imms_encTMethod)) .nil) (W76 F ((a1.length:Nat):Int) a1 y6 hx7) rfl rfl rfl rfl (Sub.immT (Imm.tup .nil)) (.cons rfl (ObSub.rowsT (rows_imm imms_encTMethod)) .nil) _ rfl ?_
 refine aops_ghost (ghost_tell 0 (V.own 0 y6.length) rfl (Sub.ownI hc8)) ?_
 refine aops_ghost (ghost_tell 4 (V.own 0 y6.length) rfl (Sub.ownI hc8)) ?_
 refine aops_ghost (ghost_tell 5 (V.own 0 y6.length) rfl (Sub.ownI hc8)) ?_
 refine fo (rn 1 rfl ?_)
 replace h:=Option.some.inj h
 subst h
 exact wE ⟨.inr rfl,[],(gr [0] rfl (hR rfl rfl .nil) rfl),.nil⟩
theorem W44(F:Nat)(a1:TMethod)(r:(List UInt8))(h:M44 F a1=some r):PureG (gl mx) Tryz.prog 44 [(V.agg (encTMethod a1))] (sV r):=by
 refine pin (fun r=>(sV r)) r rfl Tryz.func44 rfl rfl rfl rfl rfl (fun w0 m0 hg=>?_)
 unfold M44 at h
 refine rn 11 rfl ?_
 exact rt h rfl
theorem W43(F:Nat)(a1:(List TMethod))(r:Bool)(h:M43 F a1=some r):PureG (gl mx) Tryz.prog 43 [(V.lst 2 (a1.map encTMethod)),(V.fn (.func 44) [] [])] (bV r):=by
 refine pin (fun r=>(bV r)) r rfl Tryz.func43 rfl rfl rfl rfl rfl (fun w0 m0 hg=>?_)
 unfold M43 at h
 refine rn 9 rfl ?_
 refine jK h (fun _:Unit=>(⟨[],[],0⟩:St)) (fun k2 (_:Unit)=>k2=some r) (fun k2 h=>?_) ?_
 ·refine rn 1 rfl ?_
  refine lC (fun(p:Int)=>(⟨[(0,(V.lst 2 (a1.map encTMethod))),(1,(V.fn (.func 44) [] [])),(5,(iV p))],[],0⟩:St)) (fun n p=>M43_L1 F a1 k2 n p=some r) (fun p h=>by simp[M43_L1] at h) F 1 h (g0 rfl rfl) (fun n n4 h=>?_)
  unfold M43_L1 at h
  refine rn 5 rfl ?_
  refine ln rfl rfl ?_
  refine rn 2 rfl ?_
  refine spC h rfl (fun hb5 h=>?_) (fun hb5 h=>?_)
  ·obtain⟨x6,hx7,h⟩:=bind_some h
   obtain⟨y8,hx9,h⟩:=bind_some h
   obtain⟨x10,hx11,h⟩:=bind_some h
   obtain⟨y12,hx13,h⟩:=bind_some h
   refine rn 4 rfl ?_
   refine dr mixed (vs 3 rfl (iD hx7 rfl rfl rfl (vs 1 rfl (cD rfl rfl rfl rfl (W44 _ _ _ hx9) rfl (vs 4 rfl (iD hx11 rfl rfl rfl (vs 1 rfl (cD rfl rfl rfl rfl (W44 _ _ _ hx13) rfl (vs 1 rfl .nil))))))))) (by kernel_rfl) ?_
   refine spC h rfl (fun hb14 h=>?_) (fun hb14 h=>?_)
   ·refine rn 4 rfl ?_
    exact rt h rfl
   refine rn 7 rfl ?_
   exact jX (w64 (n4+1)) h (g0 rfl rfl)
  refine rn 1 rfl ?_
  exact jX () h (g0 rfl rfl)
 intro _ h
 refine rn 4 rfl ?_
 exact rt h rfl
theorem W45(F:Nat)(a1:List (List UInt8))(r:List (List UInt8))(h:M45 F a1=some r):MutG (gl mx) Tryz.prog 45 [(V.own 0 a1.length)] 1 [(0,(Ob.arr 9 1 (a1.map encS)))] (resV []) 1 [(0,(Ob.arr 9 1 (r.map encS)))]:=by
 unfold M45 at h
 by_cases hc:a1.length<4611686018427387904
 ·rw[if_pos hc] at h
  replace h:=Option.some.inj h
  subst h
  exact(mut_sortStr a1 rfl (fun b off cap a w hH hb hc=>Go.Proofs.Tryz.slices_Sort_string b off cap a w hH hb hc) (fun p w=>Go.Proofs.Tryz.slices_Sort_string_none p 0 w) hc).heap hget_one
 ·rw[if_neg hc] at h;simp at h
theorem W47(F:Nat)(a1:(List UInt8))(r:(List UInt8))(h:M47 F a1=some r):PureG (gl mx) Tryz.prog 47 [(sV a1)] (sV r):=by
 refine pin (fun r=>(sV r)) r rfl Tryz.func47 rfl rfl rfl rfl rfl (fun w0 m0 hg=>?_)
 unfold M47 at h
 refine rn 9 rfl ?_
 exact rt h rfl
theorem W46(F:Nat)(a1:(List (List UInt8)))(r:Bool)(h:M46 F a1=some r):PureG (gl mx) Tryz.prog 46 [(V.lst 1 (a1.map encS)),(V.fn (.func 47) [] [])] (bV r):=by
 refine pin (fun r=>(bV r)) r rfl Tryz.func46 rfl rfl rfl rfl rfl (fun w0 m0 hg=>?_)
 unfold M46 at h
 refine rn 9 rfl ?_
 refine jK h (fun _:Unit=>(⟨[],[],0⟩:St)) (fun k2 (_:Unit)=>k2=some r) (fun k2 h=>?_) ?_
 ·refine rn 1 rfl ?_
  refine lC (fun(p:Int)=>(⟨[(0,(V.lst 1 (a1.map encS))),(1,(V.fn (.func 47) [] [])),(5,(iV p))],[],0⟩:St)) (fun n p=>M46_L1 F a1 k2 n p=some r) (fun p h=>by simp[M46_L1] at h) F 1 h (g0 rfl rfl) (fun n n4 h=>?_)
  unfold M46_L1 at h
  refine rn 5 rfl ?_
  refine ln rfl rfl ?_
  refine rn 2 rfl ?_
  refine spC h rfl (fun hb5 h=>?_) (fun hb5 h=>?_)
  ·obtain⟨x6,hx7,h⟩:=bind_some h
   obtain⟨y8,hx9,h⟩:=bind_some h
   obtain⟨x10,hx11,h⟩:=bind_some h
   obtain⟨y12,hx13,h⟩:=bind_some h
   refine rn 4 rfl ?_
   refine dr mixed (vs 3 rfl (iD hx7 rfl rfl rfl (vs 1 rfl (cD rfl rfl rfl rfl (W47 _ _ _ hx9) rfl (vs 4 rfl (iD hx11 rfl rfl rfl (vs 1 rfl (cD rfl rfl rfl rfl (W47 _ _ _ hx13) rfl (vs 1 rfl .nil))))))))) (by kernel_rfl) ?_
   refine spC h rfl (fun hb14 h=>?_) (fun hb14 h=>?_)
   ·refine rn 4 rfl ?_
    exact rt h rfl
   refine rn 7 rfl ?_
   exact jX (w64 (n4+1)) h (g0 rfl rfl)
  refine rn 1 rfl ?_
  exact jX () h (g0 rfl rfl)
 intro _ h
 refine rn 4 rfl ?_
 exact rt h rfl
theorem W82(F:Nat)(a1:(List (List UInt8)))(r:(List (List UInt8)))(h:M82 F a1=some r):PureG (gl mx) Tryz.prog 82 [(V.lst 1 (a1.map encS))] (V.lst 1 (r.map encS)):=by
 refine pin (fun r=>(V.lst 1 (r.map encS))) r rfl Tryz.func82 rfl rfl rfl rfl rfl (fun w0 m0 hg=>?_)
 unfold M82 at h
 refine rn 8 rfl ?_
 refine aops_isNil (n:=a1.length) false tIsSl25 wants_none rfl rfl (congrArg some (List.length_map ..)) rfl (fun b2 hn3=>?_)
 replace h:=nilq_elim h hn3
 refine fo (rn 1 rfl ?_)
 refine spC h rfl (fun hb4 h=>?_) (fun hb4 h=>?_)
 ·refine rn 4 rfl ?_
  exact rt h rfl
 refine rn 3 rfl ?_
 refine aops_emptySlice tEl25 wants_none rfl ?_
 refine fo (rn 1 rfl ?_)
 refine apL encS h rfl rfl rfl (by simp) rfl (fun h=>?_)
 refine rn 2 rfl ?_
 refine awp_ghost (ghost_frzEs 1 [2,7] rfl (rows_imm imms_encS) (List.forall_mem_cons.2 ⟨rfl,(List.forall_mem_cons.2 ⟨rfl,(fun _ hx=>nomatch hx)⟩)⟩) (List.length_map ..).symm) ?_
 refine fa ?_
 exact rt h rfl
theorem W50(F:Nat)(a1:TIface)(r:TIface)(h:M50 F a1=some r):PureG (gl mx) Tryz.prog 50 [(V.agg (encTIface a1))] (V.agg (encTIface r)):=by
 refine pin (fun r=>(V.agg (encTIface r))) r rfl Tryz.func50 rfl rfl rfl rfl rfl (fun w0 m0 hg=>?_)
 unfold M50 at h
 refine rn 9 rfl ?_
 refine cl h rfl rfl rfl (W82 _ _) rfl (fun y2 hx3 h=>?_)
 refine rn 8 rfl ?_
 exact rt h rfl
theorem W49(F:Nat)(a1:TIface)(r:(List UInt8))(h:M49 F a1=some r):PureG (gl mx) Tryz.prog 49 [(V.agg (encTIface a1))] (sV r):=by
 refine pin (fun r=>(sV r)) r rfl Tryz.func49 rfl rfl rfl rfl rfl (fun w0 m0 hg=>?_)
 unfold M49 at h
 refine rn 11 rfl ?_
 exact rt h rfl
theorem W81(F:Nat)(a1:TIface)(a2:TIface)(r:Int)(h:M81 F a1 a2=some r):PureG (gl mx) Tryz.prog 81 [(V.agg (encTIface a1)),(V.agg (encTIface a2)),(V.iptr [(V.fn (.func 49) [] [])] 0)] (iV r):=by
 refine pin (fun r=>(iV r)) r rfl Tryz.func81 rfl rfl rfl rfl rfl (fun w0 m0 hg=>?_)
 unfold M81 at h
 obtain⟨y3,hx4,h⟩:=bind_some h
 obtain⟨y5,hx6,h⟩:=bind_some h
 obtain⟨y7,hx8,h⟩:=bind_some h
 refine rn 7 rfl ?_
 refine dr mixed (vs 2 rfl (cD rfl rfl rfl rfl (W49 _ _ _ hx4) rfl (vs 2 rfl (cD rfl rfl rfl rfl (W49 _ _ _ hx6) rfl (cD rfl rfl rfl rfl (W42 _ _ _ _ hx8) rfl (vs 1 rfl .nil)))))) (by kernel_rfl) ?_
 exact rt h rfl
theorem W80(F:Nat)(a1:List TIface)(r:List TIface)(h:M80 F a1=some r):MutG (gl mx) Tryz.prog 80 [(V.own 0 a1.length),(V.fn (.func 81) [] [(V.iptr [(V.fn (.func 49) [] [])] 0)])] 1 [(0,(Ob.arr 56 2 (a1.map encTIface)))] (resV []) 1 [(0,(Ob.arr 56 2 (r.map encTIface)))]:=by
 unfold M80 at h
 exact(mut_sortQ (g:=81) encTIface (fun _=>rfl) (fun x=>(imms_encTIface _)) [(V.iptr [(V.fn (.func 49) [] [])] 0)] (.cons (Imm.iptr _ _) .nil) (fun x3 y4=>M81 F x3 y4) a1 r rfl h (fun x3 y4 c hc=>W81 F x3 y4 c hc)
  (fun encR h1 h2 cf h3 cb blk off cap d w h4 h5 h6 h7=>Go.Proofs.Tryz.slices_SortFunc_eq_f80 2 Go.Proofs.Tryz.isAgg56 Go.Proofs.Tryz.sizeOf56 encR h1 h2 cf h3 81 cb blk off cap d w (Go.Proofs.enters_of Go.Proofs.Tryz.func81 (by kernel_rfl) rfl) h4 h5 h6 h7)
  (fun p cap fv w=>Go.Proofs.Tryz.slices_SortFunc_none_f80 (α:=Nat) p cap fv w)).heap hget_one
theorem W48(F:Nat)(a1:(List TIface))(r:(List TIface))(h:M48 F a1=some r):PureG (gl mx) Tryz.prog 48 [(V.lst 2 (a1.map encTIface)),(V.fn (.func 49) [] []),(V.fn (.func 50) [] [])] (V.lst 2 (r.map encTIface)):=by
 refine pin (fun r=>(V.lst 2 (r.map encTIface))) r rfl Tryz.func48 rfl rfl rfl rfl rfl (fun w0 m0 hg=>?_)
 unfold M48 at h
 refine rn 13 rfl ?_
 refine ln rfl rfl ?_
 refine rn 2 rfl ?_
 refine jK h (fun(p:(List TIface))=>(⟨[(4,(V.ptr 0 1 0 0)),(7,(V.own 1 p.length))],[(0,(Ob.arr 103 1 [[(V.fn (.func 49) [] [])]])),(1,(Ob.arr 56 2 (p.map encTIface)))],2⟩:St)) (fun k2 p=>k2 p=some r) (fun k2 h=>?_) ?_
 ·refine rn 1 rfl ?_
  refine wl (A:=a1) 0 rfl (fun hA14=>?_)
  refine lC (fun(p:Int×(List TIface))=>(⟨[(2,(V.fn (.func 50) [] [])),(4,(V.ptr 0 1 0 0)),(7,(V.own 1 (p.2).length)),(10,(V.lst 2 (a1.map encTIface))),(11,(iV ((a1.length:Nat):Int))),(12,(iV (p.1)))],[(0,(Ob.arr 103 1 [[(V.fn (.func 49) [] [])]])),(1,(Ob.arr 56 2 ((p.2).map encTIface)))],2⟩:St)) (fun n p=>RG a1 (fun tl nn=>M48_L1 F k2 tl p.2=some r) n p.1) (fun p h=>RG.zero h) (a1.length+1) (0,([]:List TIface)) (RG.start h) (Ghost.trans (ghost_nilE 7 56 2 rfl) (ghost_ren 2 (fun i=>([0,1]:List Nat).getD i 0) _ _ (by decide) (EnvSub.get (.cons (Sub.imm (Imm.fn .nil .nil)) (.cons (Sub.ptr rfl rfl) (.cons (Sub.ownE rfl rfl (by simp)) (.cons (Sub.imm (Imm.lst _ _)) (.cons (Sub.imm (Imm.con _)) (.cons (Sub.imm (Imm.con _)) .nil))))))) (HpSub.get (.cons rfl (ObSub.box (.cons (Sub.imm (Imm.fn .nil .nil)) .nil)) (.cons rfl (ObSub.rows (rows_imm imms_encTIface)) .nil))) rfl)) (fun n p h=>?_)
  obtain⟨n6,l7⟩:=p
  refine rn 5 rfl ?_
  refine spL rfl (fun hb8=>?_) (fun hb8=>?_)
  ·obtain⟨x9,tl,hx10,h,hk1⟩:=RG.t hA14 h hb8
   unfold M48_L1 at h
   refine rn 5 rfl ?_
   refine ixh hx10 rfl rfl ?_
   refine rn 8 rfl ?_
   refine cl h rfl rfl rfl (W50 _ _) rfl (fun y11 hx12 h=>?_)
   refine aops_buildSlice [(0,(V.agg (encTIface y11)))] [(encTIface y11)] tEl22 tZ56 rfl rfl rfl rfl wants_none (evp_cons rfl evp_nil) rfl rfl (by simp) rfl ?_
   refine fo ?_
   refine apO encTIface h rfl rfl rfl rfl rfl rfl rfl rfl (fun h=>?_)
   refine rn 7 rfl ?_
   exact jX ((w64 (n6+1)),(l7++([y11]:List TIface))) (hk1 _ h) (gr [0,4] rfl (hB rfl rfl rfl (hR rfl rfl .nil)) rfl)
  replace h:=RG.f h hb8
  unfold M48_L1 at h
  refine rn 1 rfl ?_
  exact jX l7 h (gr [0,1] rfl (hB rfl rfl rfl (hR rfl rfl .nil)) rfl)
 intro l3 h
 obtain⟨y15,hx16,h⟩:=bind_some h
 refine rn 4 rfl ?_
 refine ck h (fun hc17 h=>?_)
 refine aops_ghost (ghost_frzV 0 24 (V.fn (.func 81) [] [(V.iptr [(V.fn (.func 49) [] [])] 0)]) rfl (imms_rows (.cons (.cons (Imm.fn .nil .nil) .nil) .nil)) rfl (Sub.fnc (.cons (Sub.frzptr rfl) .nil))) ?_
 refine aops_mcallS (V.tup []) [(V.own 1 l3.length),(V.fn (.func 81) [] [(V.iptr [(V.fn (.func 49) [] [])] 0)])] (fun i=>([1]:List Nat).getD i 0) (fun i=>([1]:List Nat).getD i 0) 2 2 [(1,(Ob.arr 56 2 (y15.map encTIface)))] fOk80 wants_none rfl (evm_cons rfl (evm_cons rfl evm_nil)) (.cons (Sub.own rfl rfl) (.cons (Sub.imm (Imm.fn .nil (.cons (Imm.iptr _ _) .nil))) .nil)) (.cons rfl (ObSub.rows (rows_imm imms_encTIface)) .nil) (W80 F l3 y15 hx16) rfl rfl rfl rfl (Sub.immT (Imm.tup .nil)) (.cons rfl (ObSub.rowsT (rows_imm imms_encTIface)) .nil) _ rfl ?_
 refine aops_ghost (ghost_tell 7 (V.own 1 y15.length) rfl (Sub.ownI hc17)) ?_
 refine aops_ghost (ghost_tell 23 (V.own 1 y15.length) rfl (Sub.ownI hc17)) ?_
 refine fo (rn 6 rfl ?_)
 refine awp_ghost (ghost_frzEs 1 [6,7,23,26] rfl (rows_imm imms_encTIface) (List.forall_mem_cons.2 ⟨rfl,(List.forall_mem_cons.2 ⟨rfl,(List.forall_mem_cons.2 ⟨rfl,(List.forall_mem_cons.2 ⟨rfl,(fun _ hx=>nomatch hx)⟩)⟩)⟩)⟩) (List.length_map ..).symm) ?_
 refine fa ?_
 exact rt h rfl
theorem W85(F:Nat)(a1:(List TMethod))(r:(List TMethod))(h:M85 F a1=some r):PureG (gl mx) Tryz.prog 85 [(V.lst 2 (a1.map encTMethod))] (V.lst 2 (r.map encTMethod)):=by
 refine pin (fun r=>(V.lst 2 (r.map encTMethod))) r rfl Tryz.func85 rfl rfl rfl rfl rfl (fun w0 m0 hg=>?_)
 unfold M85 at h
 refine rn 8 rfl ?_
 refine aops_isNil (n:=a1.length) false tIsSl59 wants_none rfl rfl (congrArg some (List.length_map ..)) rfl (fun b2 hn3=>?_)
 replace h:=nilq_elim h hn3
 refine fo (rn 1 rfl ?_)
 refine spC h rfl (fun hb4 h=>?_) (fun hb4 h=>?_)
 ·refine rn 4 rfl ?_
  exact rt h rfl
 refine rn 3 rfl ?_
 refine aops_emptySlice tEl59 wants_none rfl ?_
 refine fo (rn 1 rfl ?_)
 refine apL encTMethod h rfl rfl rfl (by simp) rfl (fun h=>?_)
 refine rn 2 rfl ?_
 refine awp_ghost (ghost_frzEs 1 [2,7] rfl (rows_imm imms_encTMethod) (List.forall_mem_cons.2 ⟨rfl,(List.forall_mem_cons.2 ⟨rfl,(fun _ hx=>nomatch hx)⟩)⟩) (List.length_map ..).symm) ?_
 refine fa ?_
 exact rt h rfl
theorem W53(F:Nat)(a1:TType)(r:TType)(h:M53 F a1=some r):PureG (gl mx) Tryz.prog 53 [(V.agg (encTType a1))] (V.agg (encTType r)):=by
 refine pin (fun r=>(V.agg (encTType r))) r rfl Tryz.func53 rfl rfl rfl rfl rfl (fun w0 m0 hg=>?_)
 unfold M53 at h
 refine rn 9 rfl ?_
 refine cl h rfl rfl rfl (W85 _ _) rfl (fun y2 hx3 h=>?_)
 refine rn 8 rfl ?_
 exact rt h rfl
theorem W52(F:Nat)(a1:TType)(r:(List UInt8))(h:M52 F a1=some r):PureG (gl mx) Tryz.prog 52 [(V.agg (encTType a1))] (sV r):=by
 refine pin (fun r=>(sV r)) r rfl Tryz.func52 rfl rfl rfl rfl rfl (fun w0 m0 hg=>?_)
 unfold M52 at h
 refine rn 11 rfl ?_
 exact rt h rfl
theorem W84(F:Nat)(a1:TType)(a2:TType)(r:Int)(h:M84 F a1 a2=some r):PureG (gl mx) Tryz.prog 84 [(V.agg (encTType a1)),(V.agg (encTType a2)),(V.iptr [(V.fn (.func 52) [] [])] 0)] (iV r):=by
 refine pin (fun r=>(iV r)) r rfl Tryz.func84 rfl rfl rfl rfl rfl (fun w0 m0 hg=>?_)
 unfold M84 at h
 obtain⟨y3,hx4,h⟩:=bind_some h
 obtain⟨y5,hx6,h⟩:=bind_some h
 obtain⟨y7,hx8,h⟩:=bind_some h
 refine rn 7 rfl ?_
 refine dr mixed (vs 2 rfl (cD rfl rfl rfl rfl (W52 _ _ _ hx4) rfl (vs 2 rfl (cD rfl rfl rfl rfl (W52 _ _ _ hx6) rfl (cD rfl rfl rfl rfl (W42 _ _ _ _ hx8) rfl (vs 1 rfl .nil)))))) (by kernel_rfl) ?_
 exact rt h rfl
theorem W83(F:Nat)(a1:List TType)(r:List TType)(h:M83 F a1=some r):MutG (gl mx) Tryz.prog 83 [(V.own 0 a1.length),(V.fn (.func 84) [] [(V.iptr [(V.fn (.func 52) [] [])] 0)])] 1 [(0,(Ob.arr 61 2 (a1.map encTType)))] (resV []) 1 [(0,(Ob.arr 61 2 (r.map encTType)))]:=by
 unfold M83 at h
 exact(mut_sortQ (g:=84) encTType (fun _=>rfl) (fun x=>(imms_encTType _)) [(V.iptr [(V.fn (.func 52) [] [])] 0)] (.cons (Imm.iptr _ _) .nil) (fun x3 y4=>M84 F x3 y4) a1 r rfl h (fun x3 y4 c hc=>W84 F x3 y4 c hc)
  (fun encR h1 h2 cf h3 cb blk off cap d w h4 h5 h6 h7=>Go.Proofs.Tryz.slices_SortFunc_eq_f83 2 Go.Proofs.Tryz.isAgg61 Go.Proofs.Tryz.sizeOf61 encR h1 h2 cf h3 84 cb blk off cap d w (Go.Proofs.enters_of Go.Proofs.Tryz.func84 (by kernel_rfl) rfl) h4 h5 h6 h7)
  (fun p cap fv w=>Go.Proofs.Tryz.slices_SortFunc_none_f83 (α:=Nat) p cap fv w)).heap hget_one
theorem W51(F:Nat)(a1:(List TType))(r:(List TType))(h:M51 F a1=some r):PureG (gl mx) Tryz.prog 51 [(V.lst 2 (a1.map encTType)),(V.fn (.func 52) [] []),(V.fn (.func 53) [] [])] (V.lst 2 (r.map encTType)):=by
 refine pin (fun r=>(V.lst 2 (r.map encTType))) r rfl Tryz.func51 rfl rfl rfl rfl rfl (fun w0 m0 hg=>?_)
 unfold M51 at h
 refine rn 13 rfl ?_
 refine ln rfl rfl ?_
 refine rn 2 rfl ?_
 refine jK h (fun(p:(List TType))=>(⟨[(4,(V.ptr 0 1 0 0)),(7,(V.own 1 p.length))],[(0,(Ob.arr 106 1 [[(V.fn (.func 52) [] [])]])),(1,(Ob.arr 61 2 (p.map encTType)))],2⟩:St)) (fun k2 p=>k2 p=some r) (fun k2 h=>?_) ?_
 ·refine rn 1 rfl ?_
  refine wl (A:=a1) 0 rfl (fun hA14=>?_)
  refine lC (fun(p:Int×(List TType))=>(⟨[(2,(V.fn (.func 53) [] [])),(4,(V.ptr 0 1 0 0)),(7,(V.own 1 (p.2).length)),(10,(V.lst 2 (a1.map encTType))),(11,(iV ((a1.length:Nat):Int))),(12,(iV (p.1)))],[(0,(Ob.arr 106 1 [[(V.fn (.func 52) [] [])]])),(1,(Ob.arr 61 2 ((p.2).map encTType)))],2⟩:St)) (fun n p=>RG a1 (fun tl nn=>M51_L1 F k2 tl p.2=some r) n p.1) (fun p h=>RG.zero h) (a1.length+1) (0,([]:List TType)) (RG.start h) (Ghost.trans (ghost_nilE 7 61 2 rfl) (ghost_ren 2 (fun i=>([0,1]:List Nat).getD i 0) _ _ (by decide) (EnvSub.get (.cons (Sub.imm (Imm.fn .nil .nil)) (.cons (Sub.ptr rfl rfl) (.cons (Sub.ownE rfl rfl (by simp)) (.cons (Sub.imm (Imm.lst _ _)) (.cons (Sub.imm (Imm.con _)) (.cons (Sub.imm (Imm.con _)) .nil))))))) (HpSub.get (.cons rfl (ObSub.box (.cons (Sub.imm (Imm.fn .nil .nil)) .nil)) (.cons rfl (ObSub.rows (rows_imm imms_encTType)) .nil))) rfl)) (fun n p h=>?_)
  obtain⟨n6,l7⟩:=p
  refine rn 5 rfl ?_
  refine spL rfl (fun hb8=>?_) (fun hb8=>?_)
  ·obtain⟨x9,tl,hx10,h,hk1⟩:=RG.t hA14 h hb8
   unfold M51_L1 at h
   refine rn 5 rfl ?_
   refine ixh hx10 rfl rfl ?_
   refine rn 8 rfl ?_
   refine cl h rfl rfl rfl (W53 _ _) rfl (fun y11 hx12 h=>?_)
   refine aops_buildSlice [(0,(V.agg (encTType y11)))] [(encTType y11)] tEl23 tZ61 rfl rfl rfl rfl wants_none (evp_cons rfl evp_nil) rfl rfl (by simp) rfl ?_
   refine fo ?_
   refine apO encTType h rfl rfl rfl rfl rfl rfl rfl rfl (fun h=>?_)
   refine rn 7 rfl ?_
   exact jX ((w64 (n6+1)),(l7++([y11]:List TType))) (hk1 _ h) (gr [0,4] rfl (hB rfl rfl rfl (hR rfl rfl .nil)) rfl)
  replace h:=RG.f h hb8
  unfold M51_L1 at h
  refine rn 1 rfl ?_
  exact jX l7 h (gr [0,1] rfl (hB rfl rfl rfl (hR rfl rfl .nil)) rfl)
 intro l3 h
 obtain⟨y15,hx16,h⟩:=bind_some h
 refine rn 4 rfl ?_
 refine ck h (fun hc17 h=>?_)
 refine aops_ghost (ghost_frzV 0 24 (V.fn (.func 84) [] [(V.iptr [(V.fn (.func 52) [] [])] 0)]) rfl (imms_rows (.cons (.cons (Imm.fn .nil .nil) .nil) .nil)) rfl (Sub.fnc (.cons (Sub.frzptr rfl) .nil))) ?_
 refine aops_mcallS (V.tup []) [(V.own 1 l3.length),(V.fn (.func 84) [] [(V.iptr [(V.fn (.func 52) [] [])] 0)])] (fun i=>([1]:List Nat).getD i 0) (fun i=>([1]:List Nat).getD i 0) 2 2 [(1,(Ob.arr 61 2 (y15.map encTType)))] fOk83 wants_none rfl (evm_cons rfl (evm_cons rfl evm_nil)) (.cons (Sub.own rfl rfl) (.cons (Sub.imm (Imm.fn .nil (.cons (Imm.iptr _ _) .nil))) .nil)) (.cons rfl (ObSub.rows (rows_imm imms_encTType)) .nil) (W83 F l3 y15 hx16) rfl rfl rfl rfl (Sub.immT (Imm.tup .nil)) (.cons rfl (ObSub.rowsT (rows_imm imms_encTType)) .nil) _ rfl ?_
 refine aops_ghost (ghost_tell 7 (V.own 1 y15.length) rfl (Sub.ownI hc17)) ?_
 refine aops_ghost (ghost_tell 23 (V.own 1 y15.length) rfl (Sub.ownI hc17)) ?_
 refine fo (rn 6 rfl ?_)
 refine awp_ghost (ghost_frzEs 1 [6,7,23,26] rfl (rows_imm imms_encTType) (List.forall_mem_cons.2 ⟨rfl,(List.forall_mem_cons.2 ⟨rfl,(List.forall_mem_cons.2 ⟨rfl,(List.forall_mem_cons.2 ⟨rfl,(fun _ hx=>nomatch hx)⟩)⟩)⟩)⟩) (List.length_map ..).symm) ?_
 refine fa ?_
 exact rt h rfl
theorem W88(F:Nat)(a1:(List TCall))(r:(List TCall))(h:M88 F a1=some r):PureG (gl mx) Tryz.prog 88 [(V.lst 4 (a1.map encTCall))] (V.lst 4 (r.map encTCall)):=by
 refine pin (fun r=>(V.lst 4 (r.map encTCall))) r rfl Tryz.func88 rfl rfl rfl rfl rfl (fun w0 m0 hg=>?_)
 unfold M88 at h
 refine rn 8 rfl ?_
 refine aops_isNil (n:=a1.length) false tIsSl69 wants_none rfl rfl (congrArg some (List.length_map ..)) rfl (fun b2 hn3=>?_)
 replace h:=nilq_elim h hn3
 refine fo (rn 1 rfl ?_)
 refine spC h rfl (fun hb4 h=>?_) (fun hb4 h=>?_)
 ·refine rn 4 rfl ?_
  exact rt h rfl
 refine rn 3 rfl ?_
 refine aops_emptySlice tEl69 wants_none rfl ?_
 refine fo (rn 1 rfl ?_)
 refine apL encTCall h rfl rfl rfl (by simp) rfl (fun h=>?_)
 refine rn 2 rfl ?_
 refine awp_ghost (ghost_frzEs 1 [2,7] rfl (rows_imm imms_encTCall) (List.forall_mem_cons.2 ⟨rfl,(List.forall_mem_cons.2 ⟨rfl,(fun _ hx=>nomatch hx)⟩)⟩) (List.length_map ..).symm) ?_
 refine fa ?_
 exact rt h rfl
theorem W56(F:Nat)(a1:TFunc)(r:TFunc)(h:M56 F a1=some r):PureG (gl mx) Tryz.prog 56 [(V.agg (encTFunc a1))] (V.agg (encTFunc r)):=by
 refine pin (fun r=>(V.agg (encTFunc r))) r rfl Tryz.func56 rfl rfl rfl rfl rfl (fun w0 m0 hg=>?_)
 unfold M56 at h
 obtain⟨y2,hx3,h⟩:=bind_some h
 obtain⟨y4,hx5,h⟩:=bind_some h
 refine rn 6 rfl ?_
 refine dr mixed (vs 2 rfl (cD rfl rfl rfl rfl (W88 _ _ _ hx3) rfl (vs 2 rfl (cD rfl rfl rfl rfl (W82 _ _ _ hx5) rfl (vs 4 rfl .nil))))) (by kernel_rfl) ?_
 refine rn 5 rfl ?_
 exact rt h rfl
theorem W55(F:Nat)(a1:TFunc)(r:(List UInt8))(h:M55 F a1=some r):PureG (gl mx) Tryz.prog 55 [(V.agg (encTFunc a1))] (sV r):=by
 refine pin (fun r=>(sV r)) r rfl Tryz.func55 rfl rfl rfl rfl rfl (fun w0 m0 hg=>?_)
 unfold M55 at h
 refine rn 11 rfl ?_
 exact rt h rfl
theorem W87(F:Nat)(a1:TFunc)(a2:TFunc)(r:Int)(h:M87 F a1 a2=some r):PureG (gl mx) Tryz.prog 87 [(V.agg (encTFunc a1)),(V.agg (encTFunc a2)),(V.iptr [(V.fn (.func 55) [] [])] 0)] (iV r):=by
 refine pin (fun r=>(iV r)) r rfl Tryz.func87 rfl rfl rfl rfl rfl (fun w0 m0 hg=>?_)
 unfold M87 at h
 obtain⟨y3,hx4,h⟩:=bind_some h
 obtain⟨y5,hx6,h⟩:=bind_some h
 obtain⟨y7,hx8,h⟩:=bind_some h
 refine rn 7 rfl ?_
 refine dr mixed (vs 2 rfl (cD rfl rfl rfl rfl (W55 _ _ _ hx4) rfl (vs 2 rfl (cD rfl rfl rfl rfl (W55 _ _ _ hx6) rfl (cD rfl rfl rfl rfl (W42 _ _ _ _ hx8) rfl (vs 1 rfl .nil)))))) (by kernel_rfl) ?_
 exact rt h rfl
theorem W86(F:Nat)(a1:List TFunc)(r:List TFunc)(h:M86 F a1=some r):MutG (gl mx) Tryz.prog 86 [(V.own 0 a1.length),(V.fn (.func 87) [] [(V.iptr [(V.fn (.func 55) [] [])] 0)])] 1 [(0,(Ob.arr 71 4 (a1.map encTFunc)))] (resV []) 1 [(0,(Ob.arr 71 4 (r.map encTFunc)))]:=by
 unfold M86 at h
 exact(mut_sortQ (g:=87) encTFunc (fun _=>rfl) (fun x=>(imms_encTFunc _)) [(V.iptr [(V.fn (.func 55) [] [])] 0)] (.cons (Imm.iptr _ _) .nil) (fun x3 y4=>M87 F x3 y4) a1 r rfl h (fun x3 y4 c hc=>W87 F x3 y4 c hc)
  (fun encR h1 h2 cf h3 cb blk off cap d w h4 h5 h6 h7=>Go.Proofs.Tryz.slices_SortFunc_eq_f86 4 Go.Proofs.Tryz.isAgg71 Go.Proofs.Tryz.sizeOf71 encR h1 h2 cf h3 87 cb blk off cap d w (Go.Proofs.enters_of Go.Proofs.Tryz.func87 (by kernel_rfl) rfl) h4 h5 h6 h7)
  (fun p cap fv w=>Go.Proofs.Tryz.slices_SortFunc_none_f86 (α:=Nat) p cap fv w)).heap hget_one
theorem W54(F:Nat)(a1:(List TFunc))(r:(List TFunc))(h:M54 F a1=some r):PureG (gl mx) Tryz.prog 54 [(V.lst 4 (a1.map encTFunc)),(V.fn (.func 55) [] []),(V.fn (.func 56) [] [])] (V.lst 4 (r.map encTFunc)):=by
 refine pin (fun r=>(V.lst 4 (r.map encTFunc))) r rfl Tryz.func54 rfl rfl rfl rfl rfl (fun w0 m0 hg=>?_)
 unfold M54 at h
 refine rn 13 rfl ?_
 refine ln rfl rfl ?_
 refine rn 2 rfl ?_
 refine jK h (fun(p:(List TFunc))=>(⟨[(4,(V.ptr 0 1 0 0)),(7,(V.own 1 p.length))],[(0,(Ob.arr 109 1 [[(V.fn (.func 55) [] [])]])),(1,(Ob.arr 71 4 (p.map encTFunc)))],2⟩:St)) (fun k2 p=>k2 p=some r) (fun k2 h=>?_) ?_
 ·refine rn 1 rfl ?_
  refine wl (A:=a1) 0 rfl (fun hA14=>?_)
  refine lC (fun(p:Int×(List TFunc))=>(⟨[(2,(V.fn (.func 56) [] [])),(4,(V.ptr 0 1 0 0)),(7,(V.own 1 (p.2).length)),(10,(V.lst 4 (a1.map encTFunc))),(11,(iV ((a1.length:Nat):Int))),(12,(iV (p.1)))],[(0,(Ob.arr 109 1 [[(V.fn (.func 55) [] [])]])),(1,(Ob.arr 71 4 ((p.2).map encTFunc)))],2⟩:St)) (fun n p=>RG a1 (fun tl nn=>M54_L1 F k2 tl p.2=some r) n p.1) (fun p h=>RG.zero h) (a1.length+1) (0,([]:List TFunc)) (RG.start h) (Ghost.trans (ghost_nilE 7 71 4 rfl) (ghost_ren 2 (fun i=>([0,1]:List Nat).getD i 0) _ _ (by decide) (EnvSub.get (.cons (Sub.imm (Imm.fn .nil .nil)) (.cons (Sub.ptr rfl rfl) (.cons (Sub.ownE rfl rfl (by simp)) (.cons (Sub.imm (Imm.lst _ _)) (.cons (Sub.imm (Imm.con _)) (.cons (Sub.imm (Imm.con _)) .nil))))))) (HpSub.get (.cons rfl (ObSub.box (.cons (Sub.imm (Imm.fn .nil .nil)) .nil)) (.cons rfl (ObSub.rows (rows_imm imms_encTFunc)) .nil))) rfl)) (fun n p h=>?_)
  obtain⟨n6,l7⟩:=p
  refine rn 5 rfl ?_
  refine spL rfl (fun hb8=>?_) (fun hb8=>?_)
  ·obtain⟨x9,tl,hx10,h,hk1⟩:=RG.t hA14 h hb8
   unfold M54_L1 at h
   refine rn 5 rfl ?_
   refine ixh hx10 rfl rfl ?_
   refine rn 8 rfl ?_
   refine cl h rfl rfl rfl (W56 _ _) rfl (fun y11 hx12 h=>?_)
   refine aops_buildSlice [(0,(V.agg (encTFunc y11)))] [(encTFunc y11)] tEl24 tZ71 rfl rfl rfl rfl wants_none (evp_cons rfl evp_nil) rfl rfl (by simp) rfl ?_
   refine fo ?_
   refine apO encTFunc h rfl rfl rfl rfl rfl rfl rfl rfl (fun h=>?_)
   refine rn 7 rfl ?_
   exact jX ((w64 (n6+1)),(l7++([y11]:List TFunc))) (hk1 _ h) (gr [0,4] rfl (hB rfl rfl rfl (hR rfl rfl .nil)) rfl)
  replace h:=RG.f h hb8
  unfold M54_L1 at h
  refine rn 1 rfl ?_
  exact jX l7 h (gr [0,1] rfl (hB rfl rfl rfl (hR rfl rfl .nil)) rfl)
 intro l3 h
 obtain⟨y15,hx16,h⟩:=bind_some h
 refine rn 4 rfl ?_
 refine ck h (fun hc17 h=>?_)
 refine aops_ghost (ghost_frzV 0 24 (V.fn (.func 87) [] [(V.iptr [(V.fn (.func 55) [] [])] 0)]) rfl (imms_rows (.cons (.cons (Imm.fn .nil .nil) .nil) .nil)) rfl (Sub.fnc (.cons (Sub.frzptr rfl) .nil))) ?_
 refine aops_mcallS (V.tup []) [(V.own 1 l3.length),(V.fn (.func 87) [] [(V.iptr [(V.fn (.func 55) [] [])] 0)])] (fun i=>([1]:List Nat).getD i 0) (fun i=>([1]:List Nat).getD i 0) 2 2 [(1,(Ob.arr 71 4 (y15.map encTFunc)))] fOk86 wants_none rfl (evm_cons rfl (evm_cons rfl evm_nil)) (.cons (Sub.own rfl rfl) (.cons (Sub.imm (Imm.fn .nil (.cons (Imm.iptr _ _) .nil))) .nil)) (.cons rfl (ObSub.rows (rows_imm imms_encTFunc)) .nil) (W86 F l3 y15 hx16) rfl rfl rfl rfl (Sub.immT (Imm.tup .nil)) (.cons rfl (ObSub.rowsT (rows_imm imms_encTFunc)) .nil) _ rfl ?_
 refine aops_ghost (ghost_tell 7 (V.own 1 y15.length) rfl (Sub.ownI hc17)) ?_
 refine aops_ghost (ghost_tell 23 (V.own 1 y15.length) rfl (Sub.ownI hc17)) ?_
 refine fo (rn 6 rfl ?_)
 refine awp_ghost (ghost_frzEs 1 [6,7,23,26] rfl (rows_imm imms_encTFunc) (List.forall_mem_cons.2 ⟨rfl,(List.forall_mem_cons.2 ⟨rfl,(List.forall_mem_cons.2 ⟨rfl,(List.forall_mem_cons.2 ⟨rfl,(fun _ hx=>nomatch hx)⟩)⟩)⟩)⟩) (List.length_map ..).symm) ?_
 refine fa ?_
 exact rt h rfl
theorem W57(F:Nat)(a1:(List TIface))(r:Bool)(h:M57 F a1=some r):PureG (gl mx) Tryz.prog 57 [(V.lst 2 (a1.map encTIface)),(V.fn (.func 49) [] [])] (bV r):=by
 refine pin (fun r=>(bV r)) r rfl Tryz.func57 rfl rfl rfl rfl rfl (fun w0 m0 hg=>?_)
 unfold M57 at h
 refine rn 9 rfl ?_
 refine jK h (fun _:Unit=>(⟨[],[],0⟩:St)) (fun k2 (_:Unit)=>k2=some r) (fun k2 h=>?_) ?_
 ·refine rn 1 rfl ?_
  refine lC (fun(p:Int)=>(⟨[(0,(V.lst 2 (a1.map encTIface))),(1,(V.fn (.func 49) [] [])),(5,(iV p))],[],0⟩:St)) (fun n p=>M57_L1 F a1 k2 n p=some r) (fun p h=>by simp[M57_L1] at h) F 1 h (g0 rfl rfl) (fun n n4 h=>?_)
  unfold M57_L1 at h
  refine rn 5 rfl ?_
  refine ln rfl rfl ?_
  refine rn 2 rfl ?_
  refine spC h rfl (fun hb5 h=>?_) (fun hb5 h=>?_)
  ·obtain⟨x6,hx7,h⟩:=bind_some h
   obtain⟨y8,hx9,h⟩:=bind_some h
   obtain⟨x10,hx11,h⟩:=bind_some h
   obtain⟨y12,hx13,h⟩:=bind_some h
   refine rn 4 rfl ?_
   refine dr mixed (vs 3 rfl (iD hx7 rfl rfl rfl (vs 1 rfl (cD rfl rfl rfl rfl (W49 _ _ _ hx9) rfl (vs 4 rfl (iD hx11 rfl rfl rfl (vs 1 rfl (cD rfl rfl rfl rfl (W49 _ _ _ hx13) rfl (vs 1 rfl .nil))))))))) (by kernel_rfl) ?_
   refine spC h rfl (fun hb14 h=>?_) (fun hb14 h=>?_)
   ·refine rn 4 rfl ?_
    exact rt h rfl
   refine rn 7 rfl ?_
   exact jX (w64 (n4+1)) h (g0 rfl rfl)
  refine rn 1 rfl ?_
  exact jX () h (g0 rfl rfl)
 intro _ h
 refine rn 4 rfl ?_
 exact rt h rfl
theorem W58(F:Nat)(a1:(List TType))(r:Bool)(h:M58 F a1=some r):PureG (gl mx) Tryz.prog 58 [(V.lst 2 (a1.map encTType)),(V.fn (.func 52) [] [])] (bV r):=by
 refine pin (fun r=>(bV r)) r rfl Tryz.func58 rfl rfl rfl rfl rfl (fun w0 m0 hg=>?_)
 unfold M58 at h
 refine rn 9 rfl ?_
 refine jK h (fun _:Unit=>(⟨[],[],0⟩:St)) (fun k2 (_:Unit)=>k2=some r) (fun k2 h=>?_) ?_
 ·refine rn 1 rfl ?_
  refine lC (fun(p:Int)=>(⟨[(0,(V.lst 2 (a1.map encTType))),(1,(V.fn (.func 52) [] [])),(5,(iV p))],[],0⟩:St)) (fun n p=>M58_L1 F a1 k2 n p=some r) (fun p h=>by simp[M58_L1] at h) F 1 h (g0 rfl rfl) (fun n n4 h=>?_)
  unfold M58_L1 at h
  refine rn 5 rfl ?_
  refine ln rfl rfl ?_
  refine rn 2 rfl ?_
  refine spC h rfl (fun hb5 h=>?_) (fun hb5 h=>?_)
  ·obtain⟨x6,hx7,h⟩:=bind_some h
   obtain⟨y8,hx9,h⟩:=bind_some h
   obtain⟨x10,hx11,h⟩:=bind_some h
   obtain⟨y12,hx13,h⟩:=bind_some h
   refine rn 4 rfl ?_
   refine dr mixed (vs 3 rfl (iD hx7 rfl rfl rfl (vs 1 rfl (cD rfl rfl rfl rfl (W52 _ _ _ hx9) rfl (vs 4 rfl (iD hx11 rfl rfl rfl (vs 1 rfl (cD rfl rfl rfl rfl (W52 _ _ _ hx13) rfl (vs 1 rfl .nil))))))))) (by kernel_rfl) ?_
   refine spC h rfl (fun hb14 h=>?_) (fun hb14 h=>?_)
   ·refine rn 4 rfl ?_
    exact rt h rfl
   refine rn 7 rfl ?_
   exact jX (w64 (n4+1)) h (g0 rfl rfl)
  refine rn 1 rfl ?_
  exact jX () h (g0 rfl rfl)
 intro _ h
 refine rn 4 rfl ?_
 exact rt h rfl
theorem W59(F:Nat)(a1:(List TFunc))(r:Bool)(h:M59 F a1=some r):PureG (gl mx) Tryz.prog 59 [(V.lst 4 (a1.map encTFunc)),(V.fn (.func 55) [] [])] (bV r):=by
 refine pin (fun r=>(bV r)) r rfl Tryz.func59 rfl rfl rfl rfl rfl (fun w0 m0 hg=>?_)
 unfold M59 at h
 refine rn 9 rfl ?_
 refine jK h (fun _:Unit=>(⟨[],[],0⟩:St)) (fun k2 (_:Unit)=>k2=some r) (fun k2 h=>?_) ?_
 ·refine rn 1 rfl ?_
  refine lC (fun(p:Int)=>(⟨[(0,(V.lst 4 (a1.map encTFunc))),(1,(V.fn (.func 55) [] [])),(5,(iV p))],[],0⟩:St)) (fun n p=>M59_L1 F a1 k2 n p=some r) (fun p h=>by simp[M59_L1] at h) F 1 h (g0 rfl rfl) (fun n n4 h=>?_)
  unfold M59_L1 at h
  refine rn 5 rfl ?_
  refine ln rfl rfl ?_
  refine rn 2 rfl ?_
  refine spC h rfl (fun hb5 h=>?_) (fun hb5 h=>?_)
  ·obtain⟨x6,hx7,h⟩:=bind_some h
   obtain⟨y8,hx9,h⟩:=bind_some h
   obtain⟨x10,hx11,h⟩:=bind_some h
   obtain⟨y12,hx13,h⟩:=bind_some h
   refine rn 4 rfl ?_
   refine dr mixed (vs 3 rfl (iD hx7 rfl rfl rfl (vs 1 rfl (cD rfl rfl rfl rfl (W55 _ _ _ hx9) rfl (vs 4 rfl (iD hx11 rfl rfl rfl (vs 1 rfl (cD rfl rfl rfl rfl (W55 _ _ _ hx13) rfl (vs 1 rfl .nil))))))))) (by kernel_rfl) ?_
   refine spC h rfl (fun hb14 h=>?_) (fun hb14 h=>?_)
   ·refine rn 4 rfl ?_
    exact rt h rfl
   refine rn 7 rfl ?_
   exact jX (w64 (n4+1)) h (g0 rfl rfl)
  refine rn 1 rfl ?_
  exact jX () h (g0 rfl rfl)
 intro _ h
 refine rn 4 rfl ?_
 exact rt h rfl
set_option maxHeartbeats 4000000 in
theorem W14(F:Nat)(a1:Int)(a2:List TIface)(a3:List TType)(a4:List TFunc)(a5:List (List UInt8))(r:(Bool×(List TIface)×(List TType)×(List TFunc)×(List (List UInt8))))(h:M14 F a1 a2 a3 a4 a5=some r):MutG (gl mx) Tryz.prog 14 [(V.ptr 0 5 0 0)] 5 [(0,(Ob.arr 39 5 [[(V.own 1 a2.length),(V.own 2 a3.length),(V.own 3 a4.length),(V.own 4 a5.length),(iV a1)]])),(1,(Ob.arr 56 2 (a2.map encTIface))),(2,(Ob.arr 61 2 (a3.map dencTType))),(3,(Ob.arr 71 4 (a4.map dencTFunc))),(4,(Ob.arr 9 1 (a5.map encS)))] (resV [(bV (r.1))]) 5 [(0,(Ob.arr 39 5 [[(V.lst 2 ((r.2.1).map encTIface)),(V.lst 2 ((r.2.2.1).map encTType)),(V.lst 4 ((r.2.2.2.1).map encTFunc)),(V.own 4 (r.2.2.2.2).length),(iV a1)]])),(1,Ob.dead),(2,Ob.dead),(3,Ob.dead),(4,(Ob.arr 9 1 ((r.2.2.2.2).map encS)))]:=by
 refine mut_enter Tryz.func14 rfl rfl (l:=[.tmp 2]) rfl rfl [(0,(V.ptr 0 5 0 0))] rfl (fun w0 m0 β0 hg=>en ?_)
 unfold M14 at h
 refine rn 18 rfl ?_
 refine jK h (fun(p:Bool×(List TType))=>(⟨[(0,(V.ptr 0 5 0 0)),(3,(bV (p.1)))],[(0,(Ob.arr 39 5 [[(V.own 1 a2.length),(V.own 2 (p.2).length),(V.own 3 a4.length),(V.own 4 a5.length),(iV a1)]])),(1,(Ob.arr 56 2 (a2.map encTIface))),(2,(Ob.arr 61 2 ((p.2).map dencTType))),(3,(Ob.arr 71 4 (a4.map dencTFunc))),(4,(Ob.arr 9 1 (a5.map encS)))],5⟩:St)) (fun k82 p=>k82 p.1 p.2=some r) (fun k82 h=>?_) ?_
 ·refine rn 1 rfl ?_
  refine wlO (A:=a3) 2 rfl (fun hA105=>?_)
  refine lC (fun(p:Bool×Int×(List TType))=>(⟨[(0,(V.ptr 0 5 0 0)),(3,(bV (p.1))),(11,(iV ((a3.length:Nat):Int))),(12,(iV (p.2.1)))],[(0,(Ob.arr 39 5 [[(V.own 1 a2.length),(V.own 2 (p.2.2).length),(V.own 3 a4.length),(V.own 4 a5.length),(iV a1)]])),(1,(Ob.arr 56 2 (a2.map encTIface))),(2,(Ob.arr 61 2 ((p.2.2).map dencTType))),(3,(Ob.arr 71 4 (a4.map dencTFunc))),(4,(Ob.arr 9 1 (a5.map encS)))],5⟩:St)) (fun n p=>RC ((a3.length:Nat):Int) (fun tl nn=>M14_L1 F k82 tl nn p.1 p.2.2=some r) n p.2.1) (fun p h=>RC.zero h) (Int.toNat ((a3.length:Nat):Int)+1) (false,0,a3) (RC.start h) (gr [0,1,2,3,4] rfl (hB rfl rfl rfl (hR rfl rfl (hR rfl rfl (hR rfl rfl (hR rfl rfl .nil))))) rfl) (fun n p h=>?_)
  obtain⟨b88,n89,l90⟩:=p
  refine rn 5 rfl ?_
  refine spL rfl (fun hb91=>?_) (fun hb91=>?_)
  ·obtain⟨tl,h,hk1⟩:=RC.t (by unfold maxLen at hA105;omega) h hb91
   unfold M14_L1 at h
   refine rn 2 rfl ?_
   refine jK h (fun(p:Bool×(List TType))=>(⟨[(0,(V.ptr 0 5 0 0)),(3,(bV (p.1))),(11,(iV ((a3.length:Nat):Int))),(12,(iV n89))],[(0,(Ob.arr 39 5 [[(V.own 1 a2.length),(V.own 2 (p.2).length),(V.own 3 a4.length),(V.own 4 a5.length),(iV a1)]])),(1,(Ob.arr 56 2 (a2.map encTIface))),(2,(Ob.arr 61 2 ((p.2).map dencTType))),(3,(Ob.arr 71 4 (a4.map dencTFunc))),(4,(Ob.arr 9 1 (a5.map encS)))],5⟩:St)) (fun k92 p=>k92 p.1 p.2=some r) (fun k92 h=>?_) ?_
   ·refine rn 13 rfl ?_
    refine ixo (a:=l90) h rfl rfl rfl (fun x95 hx96 h=>?_)
    refine rn 1 rfl ?_
    refine aops_load_takeS dencTType encTMethod rfl tC59 wants_none rfl rfl (idx_some hx96).2 rfl rfl rfl ?_
    obtain⟨y97,hx98,h⟩:=bind_some h
    refine fo (rn 5 rfl ?_)
    refine ck h (fun hc99 h=>?_)
    refine aops_mcallS (V.tup []) [(V.own 5 x95.Methods.length),(V.fn (.func 41) [] [])] (fun i=>([5]:List Nat).getD i 0) (fun i=>([5]:List Nat).getD i 0) 6 6 [(5,(Ob.arr 64 2 (y97.map encTMethod)))] fOk40 wants_none rfl (evm_cons rfl (evm_cons rfl evm_nil)) (.cons (Sub.own rfl rfl) (.cons (Sub.imm (Imm.fn .nil .nil)) .nil)) (.cons rfl (ObSub.rows (rows_imm imms_encTMethod)) .nil) (W40 F x95.Methods y97 hx98) rfl rfl rfl rfl (Sub.immT (Imm.tup .nil)) (.cons rfl (ObSub.rowsT (rows_imm imms_encTMethod)) .nil) _ rfl ?_
    refine aops_ghost (ghost_tell 22 (V.own 5 y97.length) rfl (Sub.ownI hc99)) ?_
    refine aops_ghost (ghost_tell 5 (V.own 5 y97.length) rfl (Sub.ownI hc99)) ?_
    refine aops_ghost (ghost_tell 23 (V.own 5 y97.length) rfl (Sub.ownI hc99)) ?_
    refine fo (rn 4 rfl ?_)
    refine spO 26 h rfl (fun hb100 h=>?_) (fun hb100 h=>?_)
    ·refine rn 6 rfl ?_
     refine ck h (fun hc101 h=>?_)
     exact jX (true,(l90.set (n89.toNat) ({ x95 with Methods:=y97 }:TType))) h (Ghost.trans (ghost_untakeS 2 (n89.toNat) 1 5 dencTType encTMethod (fun z=>(imms_encTMethod z).keep) (l90.set (n89.toNat) ({ x95 with Methods:=y97 }:TType)) (by rfl) (Nat.le_of_ble_eq_true rfl) (by simpa using idx_lt hx96) (by rfl) hc101 rfl (by rw[List.map_set];rfl)) (ghost_ren 5 (fun i=>([0,1,2,3,4]:List Nat).getD i 0) _ _ (by decide) (EnvSub.get (.cons (Sub.ptr rfl rfl) (.cons (Sub.imm (Imm.con _)) (.cons (Sub.imm (Imm.con _)) (.cons (Sub.imm (Imm.con _)) .nil))))) (HpSub.get (.cons rfl (ObSub.box (.cons (Sub.own rfl rfl) (.cons (Sub.ownE rfl rfl (by simp)) (.cons (Sub.own rfl rfl) (.cons (Sub.own rfl rfl) (.cons (Sub.imm (Imm.con _)) .nil)))))) (.cons rfl (ObSub.rows (rows_imm imms_encTIface)) (.cons rfl (ObSub.rowsK RK.h) (.cons rfl (ObSub.rowsK RK.h) (.cons rfl (ObSub.rows (rows_imm imms_encS)) .nil)))))) rfl))
    obtain⟨y102,hx103,h⟩:=bind_some h
    refine rn 1 rfl ?_
    refine aops_lend_call (bV y102) [(V.lst 2 (y97.map encTMethod)),(V.fn (.func 44) [] [])] fOk43 (ghost_frzEs 5 [27,22,5,23] rfl (rows_imm imms_encTMethod) (List.forall_mem_cons.2 ⟨rfl,(List.forall_mem_cons.2 ⟨rfl,(List.forall_mem_cons.2 ⟨rfl,(List.forall_mem_cons.2 ⟨rfl,(fun _ hx=>nomatch hx)⟩)⟩)⟩)⟩) (List.length_map ..).symm) (Flat.con _) (wants_some (c:=false) (b:=false) 26 rfl rfl rfl) (evm_cons rfl (evm_cons rfl evm_nil)) (.cons (Imm.lst _ _) (.cons (Imm.fn .nil .nil) .nil)) (W43 F y97 y102 hx103) rfl ?_
    refine fo (rn 4 rfl ?_)
    refine ck h (fun hc104 h=>?_)
    exact jX (y102,(l90.set (n89.toNat) ({ x95 with Methods:=y97 }:TType))) h (Ghost.trans (ghost_untakeS 2 (n89.toNat) 1 5 dencTType encTMethod (fun z=>(imms_encTMethod z).keep) (l90.set (n89.toNat) ({ x95 with Methods:=y97 }:TType)) (by rfl) (Nat.le_of_ble_eq_true rfl) (by simpa using idx_lt hx96) (by rfl) hc104 rfl (by rw[List.map_set];rfl)) (ghost_ren 5 (fun i=>([0,1,2,3,4]:List Nat).getD i 0) _ _ (by decide) (EnvSub.get (.cons (Sub.ptr rfl rfl) (.cons (Sub.imm (Imm.con _)) (.cons (Sub.imm (Imm.con _)) (.cons (Sub.imm (Imm.con _)) .nil))))) (HpSub.get (.cons rfl (ObSub.box (.cons (Sub.own rfl rfl) (.cons (Sub.ownE rfl rfl (by simp)) (.cons (Sub.own rfl rfl) (.cons (Sub.own rfl rfl) (.cons (Sub.imm (Imm.con _)) .nil)))))) (.cons rfl (ObSub.rows (rows_imm imms_encTIface)) (.cons rfl (ObSub.rowsK RK.h) (.cons rfl (ObSub.rowsK RK.h) (.cons rfl (ObSub.rows (rows_imm imms_encS)) .nil)))))) rfl))
   rintro⟨b93,l94⟩ h
   refine rn 4 rfl ?_
   exact jX (b93,(w64 (n89+1)),l94) (hk1 _ h) (gr [0,1,2,3,4] rfl (hB rfl rfl rfl (hR rfl rfl (hR rfl rfl (hR rfl rfl (hR rfl rfl .nil))))) rfl)
  replace h:=RC.f h hb91
  unfold M14_L1 at h
  refine rn 1 rfl ?_
  exact jX (b88,l90) h (gr [0,1,2,3,4] rfl (hB rfl rfl rfl (hR rfl rfl (hR rfl rfl (hR rfl rfl (hR rfl rfl .nil))))) rfl)
 rintro⟨b83,l84⟩ h
 refine rn 10 rfl ?_
 refine jK h (fun(p:Bool×(List TFunc))=>(⟨[(0,(V.ptr 0 5 0 0)),(3,(bV (p.1)))],[(0,(Ob.arr 39 5 [[(V.own 1 a2.length),(V.own 2 l84.length),(V.own 3 (p.2).length),(V.own 4 a5.length),(iV a1)]])),(1,(Ob.arr 56 2 (a2.map encTIface))),(2,(Ob.arr 61 2 (l84.map dencTType))),(3,(Ob.arr 71 4 ((p.2).map dencTFunc))),(4,(Ob.arr 9 1 (a5.map encS)))],5⟩:St)) (fun k106 p=>k106 p.1 p.2=some r) (fun k106 h=>?_) ?_
 ·refine rn 1 rfl ?_
  refine wlO (A:=a4) 3 rfl (fun hA131=>?_)
  refine lC (fun(p:Bool×Int×(List TFunc))=>(⟨[(0,(V.ptr 0 5 0 0)),(3,(bV (p.1))),(35,(iV ((a4.length:Nat):Int))),(36,(iV (p.2.1)))],[(0,(Ob.arr 39 5 [[(V.own 1 a2.length),(V.own 2 l84.length),(V.own 3 (p.2.2).length),(V.own 4 a5.length),(iV a1)]])),(1,(Ob.arr 56 2 (a2.map encTIface))),(2,(Ob.arr 61 2 (l84.map dencTType))),(3,(Ob.arr 71 4 ((p.2.2).map dencTFunc))),(4,(Ob.arr 9 1 (a5.map encS)))],5⟩:St)) (fun n p=>RC ((a4.length:Nat):Int) (fun tl nn=>M14_L2 F k106 tl nn p.1 p.2.2=some r) n p.2.1) (fun p h=>RC.zero h) (Int.toNat ((a4.length:Nat):Int)+1) (b83,0,a4) (RC.start h) (gr [0,1,2,3,4] rfl (hB rfl rfl rfl (hR rfl rfl (hR rfl rfl (hR rfl rfl (hR rfl rfl .nil))))) rfl) (fun n p h=>?_)
  obtain⟨b112,n113,l114⟩:=p
  refine rn 5 rfl ?_
  refine spL rfl (fun hb115=>?_) (fun hb115=>?_)
  ·obtain⟨tl,h,hk2⟩:=RC.t (by unfold maxLen at hA131;omega) h hb115
   unfold M14_L2 at h
   refine rn 2 rfl ?_
   refine jK h (fun(p:Bool×(List TFunc))=>(⟨[(0,(V.ptr 0 5 0 0)),(3,(bV (p.1))),(35,(iV ((a4.length:Nat):Int))),(36,(iV n113))],[(0,(Ob.arr 39 5 [[(V.own 1 a2.length),(V.own 2 l84.length),(V.own 3 (p.2).length),(V.own 4 a5.length),(iV a1)]])),(1,(Ob.arr 56 2 (a2.map encTIface))),(2,(Ob.arr 61 2 (l84.map dencTType))),(3,(Ob.arr 71 4 ((p.2).map dencTFunc))),(4,(Ob.arr 9 1 (a5.map encS)))],5⟩:St)) (fun k116 p=>k116 p.1 p.2=some r) (fun k116 h=>?_) ?_
   ·refine rn 13 rfl ?_
    refine ixo (a:=l114) h rfl rfl rfl (fun x119 hx120 h=>?_)
    refine rn 1 rfl ?_
    refine aops_load_takeS dencTFunc encS rfl tC25 wants_none rfl rfl (idx_some hx120).2 rfl rfl rfl ?_
    obtain⟨y121,hx122,h⟩:=bind_some h
    refine ck h (fun hc123 h=>?_)
    refine aops_mcallS (V.tup []) [(V.own 5 x119.Makes.length)] (fun i=>([5]:List Nat).getD i 0) (fun i=>([5]:List Nat).getD i 0) 6 6 [(5,(Ob.arr 9 1 (y121.map encS)))] fOk45 wants_none rfl (evm_cons rfl evm_nil) (.cons (Sub.own rfl rfl) .nil) (.cons rfl (ObSub.rows (rows_imm imms_encS)) .nil) (W45 F x119.Makes y121 hx122) rfl rfl rfl rfl (Sub.immT (Imm.tup .nil)) (.cons rfl (ObSub.rowsT (rows_imm imms_encS)) .nil) _ rfl ?_
    refine aops_ghost (ghost_tell 46 (V.own 5 y121.length) rfl (Sub.ownI hc123)) ?_
    refine fo (rn 4 rfl ?_)
    refine spO 49 h rfl (fun hb124 h=>?_) (fun hb124 h=>?_)
    ·refine rn 13 rfl ?_
     refine ck h (fun hc125 h=>?_)
     exact jX (true,(l114.set (n113.toNat) ({ x119 with Makes:=y121 }:TFunc))) h (Ghost.trans (ghost_untakeS 3 (n113.toNat) 3 5 dencTFunc encS (fun z=>(imms_encS z).keep) (l114.set (n113.toNat) ({ x119 with Makes:=y121 }:TFunc)) (by rfl) (Nat.le_of_ble_eq_true rfl) (by simpa using idx_lt hx120) (by rfl) hc125 rfl (by rw[List.map_set];rfl)) (ghost_ren 5 (fun i=>([0,1,2,3,4]:List Nat).getD i 0) _ _ (by decide) (EnvSub.get (.cons (Sub.ptr rfl rfl) (.cons (Sub.imm (Imm.con _)) (.cons (Sub.imm (Imm.con _)) (.cons (Sub.imm (Imm.con _)) .nil))))) (HpSub.get (.cons rfl (ObSub.box (.cons (Sub.own rfl rfl) (.cons (Sub.own rfl rfl) (.cons (Sub.ownE rfl rfl (by simp)) (.cons (Sub.own rfl rfl) (.cons (Sub.imm (Imm.con _)) .nil)))))) (.cons rfl (ObSub.rows (rows_imm imms_encTIface)) (.cons rfl (ObSub.rowsK RK.h) (.cons rfl (ObSub.rowsK RK.h) (.cons rfl (ObSub.rows (rows_imm imms_encS)) .nil)))))) rfl))
    refine rn 5 rfl ?_
    refine ck h (fun hc126 h=>?_)
    obtain⟨x127,hx128,h⟩:=bind_some h
    refine aops_ghost (ghost_untakeS 3 (n113.toNat) 3 5 dencTFunc encS (fun z=>(imms_encS z).keep) (l114.set (n113.toNat) ({ x119 with Makes:=y121 }:TFunc)) (by rfl) (Nat.le_of_ble_eq_true rfl) (by simpa using idx_lt hx120) (by rfl) hc126 rfl (by rw[List.map_set];rfl)) ?_
    refine aops_index_own tSl24 (wants_some (c:=false) (b:=false) 49 rfl rfl rfl) rfl rfl (idx_some hx128).1 (by simpa using idx_lt hx128) rfl ?_
    refine fo (rn 1 rfl ?_)
    refine aops_load_takeS dencTFunc encS rfl tC25 (wants_some (c:=false) (b:=false) 49 rfl rfl rfl) rfl rfl (idx_some hx128).2 rfl rfl rfl ?_
    obtain⟨y129,hx130,h⟩:=bind_some h
    refine aops_lend_call (bV y129) [(V.lst 1 (x127.Makes.map encS)),(V.fn (.func 47) [] [])] fOk46 (ghost_frzE 6 57 rfl (rows_imm imms_encS) rfl (List.length_map ..).symm) (Flat.con _) (wants_some (c:=false) (b:=false) 49 rfl rfl rfl) (evm_cons rfl (evm_cons rfl evm_nil)) (.cons (Imm.lst _ _) (.cons (Imm.fn .nil .nil) .nil)) (W46 F x127.Makes y129 hx130) rfl ?_
    refine fo (rn 4 rfl ?_)
    exact jX (y129,(l114.set (n113.toNat) ({ x119 with Makes:=y121 }:TFunc))) h (Ghost.trans (ghost_untakeS 3 (n113.toNat) 3 6 dencTFunc encS (fun z=>(imms_encS z).keep) (l114.set (n113.toNat) ({ x119 with Makes:=y121 }:TFunc)) (by rfl) (Nat.le_of_ble_eq_true rfl) (by simpa using idx_lt hx128) (by rfl) rfl rfl (rows_same (idx_some hx128).2 rfl)) (ghost_ren 5 (fun i=>([0,1,2,3,4]:List Nat).getD i 0) _ _ (by decide) (EnvSub.get (.cons (Sub.ptr rfl rfl) (.cons (Sub.imm (Imm.con _)) (.cons (Sub.imm (Imm.con _)) (.cons (Sub.imm (Imm.con _)) .nil))))) (HpSub.get (.cons rfl (ObSub.box (.cons (Sub.own rfl rfl) (.cons (Sub.own rfl rfl) (.cons (Sub.ownE rfl rfl (by simp)) (.cons (Sub.own rfl rfl) (.cons (Sub.imm (Imm.con _)) .nil)))))) (.cons rfl (ObSub.rows (rows_imm imms_encTIface)) (.cons rfl (ObSub.rowsK RK.h) (.cons rfl (ObSub.rowsK RK.h) (.cons rfl (ObSub.rows (rows_imm imms_encS)) .nil)))))) rfl))
   rintro⟨b117,l118⟩ h
   refine rn 4 rfl ?_
   exact jX (b117,(w64 (n113+1)),l118) (hk2 _ h) (gr [0,1,2,3,4] rfl (hB rfl rfl rfl (hR rfl rfl (hR rfl rfl (hR rfl rfl (hR rfl rfl .nil))))) rfl)
  replace h:=RC.f h hb115
  unfold M14_L2 at h
  refine rn 1 rfl ?_
  exact jX (b112,l114) h (gr [0,1,2,3,4] rfl (hB rfl rfl rfl (hR rfl rfl (hR rfl rfl (hR rfl rfl (hR rfl rfl .nil))))) rfl)
 rintro⟨b107,l108⟩ h
 obtain⟨y132,hx133,h⟩:=bind_some h
 obtain⟨y134,hx135,h⟩:=bind_some h
 obtain⟨y136,hx137,h⟩:=bind_some h
 refine rn 1 rfl ?_
 refine dr mixed (vs 7 rfl (xD (OD.mk [(67,(V.own 1 a2.length))] [(1,(Ob.arr 56 2 (a2.map encTIface)))] [(68,(V.lst 2 (y132.map encTIface))),(67,(V.lst 2 (a2.map encTIface)))] [(1,Ob.dead)]) ⟨⟨rfl,trivial⟩,⟨rfl,trivial⟩⟩ (by exact fun S hn h hh=>aops_ghost (ghost_frzE 1 67 hh.1 (rows_imm imms_encTIface) h.1 (List.length_map ..).symm) (aops_call (V.lst 2 (y132.map encTIface)) [(V.lst 2 (a2.map encTIface)),(V.fn (.func 49) [] []),(V.fn (.func 50) [] [])] fOk48 wants_none (evm_cons rfl (evm_cons rfl (evm_cons rfl evm_nil))) (.cons (Imm.lst _ _) (.cons (Imm.fn .nil .nil) (.cons (Imm.fn .nil .nil) .nil))) (W48 F a2 y132 hx133) rfl (aops_nil ⟨rfl,rfl⟩))) rfl (vs 4 rfl (xD (OD.mk [(72,(V.own 2 l84.length))] [(2,(Ob.arr 61 2 (l84.map dencTType)))] [(73,(V.lst 2 (y134.map encTType))),(72,(V.lst 2 (l84.map encTType)))] [(2,Ob.dead)]) ⟨⟨rfl,trivial⟩,⟨rfl,trivial⟩⟩ (by exact fun S hn h hh=>aops_ghost (ghost_frzSE 2 72 und_dencTType hh.1 h.1 rfl) (aops_call (V.lst 2 (y134.map encTType)) [(V.lst 2 (l84.map encTType)),(V.fn (.func 52) [] []),(V.fn (.func 53) [] [])] fOk51 wants_none (evm_cons rfl (evm_cons rfl (evm_cons rfl evm_nil))) (.cons (Imm.lst _ _) (.cons (Imm.fn .nil .nil) (.cons (Imm.fn .nil .nil) .nil))) (W51 F l84 y134 hx135) rfl (aops_nil ⟨rfl,rfl⟩))) rfl (vs 4 rfl (xD (OD.mk [(77,(V.own 3 l108.length))] [(3,(Ob.arr 71 4 (l108.map dencTFunc)))] [(78,(V.lst 4 (y136.map encTFunc))),(77,(V.lst 4 (l108.map encTFunc)))] [(3,Ob.dead)]) ⟨⟨rfl,trivial⟩,⟨rfl,trivial⟩⟩ (by exact fun S hn h hh=>aops_ghost (ghost_frzSE 3 77 und_dencTFunc hh.1 h.1 rfl) (aops_call (V.lst 4 (y136.map encTFunc)) [(V.lst 4 (l108.map encTFunc)),(V.fn (.func 55) [] []),(V.fn (.func 56) [] [])] fOk54 wants_none (evm_cons rfl (evm_cons rfl (evm_cons rfl evm_nil))) (.cons (Imm.lst _ _) (.cons (Imm.fn .nil .nil) (.cons (Imm.fn .nil .nil) .nil))) (W54 F l108 y136 hx137) rfl (aops_nil ⟨rfl,rfl⟩))) rfl (vs 9 rfl .nil))))))) (by kernel_rfl) ?_
 obtain⟨y138,hx139,h⟩:=bind_some h
 refine rn 6 rfl ?_
 refine ck h (fun hc140 h=>?_)
 refine aops_mcallS (V.tup []) [(V.own 4 a5.length)] (fun i=>([4]:List Nat).getD i 0) (fun i=>([4]:List Nat).getD i 0) 5 5 [(4,(Ob.arr 9 1 (y138.map encS)))] fOk45 wants_none rfl (evm_cons rfl evm_nil) (.cons (Sub.own rfl rfl) .nil) (.cons rfl (ObSub.rows (rows_imm imms_encS)) .nil) (W45 F a5 y138 hx139) rfl rfl rfl rfl (Sub.immT (Imm.tup .nil)) (.cons rfl (ObSub.rowsT (rows_imm imms_encS)) .nil) _ rfl ?_
 refine aops_ghost (ghost_tell 88 (V.own 4 y138.length) rfl (Sub.ownI hc140)) ?_
 refine aops_ghost (ghost_tellC 0 (Ob.arr 39 5 [[(V.lst 2 (y132.map encTIface)),(V.lst 2 (y134.map encTType)),(V.lst 4 (y136.map encTFunc)),(V.own 4 y138.length),(iV a1)]]) rfl (ObSub.box (.cons Sub.keepI (.cons Sub.keepI (.cons Sub.keepI (.cons (Sub.ownI hc140) (.cons Sub.keepI .nil))))))) ?_
 refine fo (rn 6 rfl ?_)
 refine spO 92 h rfl (fun hb141 h=>?_) (fun hb141 h=>?_)
 ·refine rn 4 rfl ?_
  refine cl h rfl rfl rfl (W57 _ _) rfl (fun y142 hx143 h=>?_)
  refine rn 3 rfl ?_
  refine spO 100 h rfl (fun hb144 h=>?_) (fun hb144 h=>?_)
  ·refine rn 4 rfl ?_
   refine cl h rfl rfl rfl (W58 _ _) rfl (fun y145 hx146 h=>?_)
   refine rn 3 rfl ?_
   refine spO 108 h rfl (fun hb147 h=>?_) (fun hb147 h=>?_)
   ·refine rn 4 rfl ?_
    refine cl h rfl rfl rfl (W59 _ _) rfl (fun y148 hx149 h=>?_)
    refine rn 3 rfl ?_
    refine spO 116 h rfl (fun hb150 h=>?_) (fun hb150 h=>?_)
    ·obtain⟨y151,hx152,h⟩:=bind_some h
     refine rn 4 rfl ?_
     refine aops_lend_call (bV y151) [(V.lst 1 (y138.map encS)),(V.fn (.func 47) [] [])] fOk46 (ghost_frzEs 4 [120,88] rfl (rows_imm imms_encS) (List.forall_mem_cons.2 ⟨rfl,(List.forall_mem_cons.2 ⟨rfl,(fun _ hx=>nomatch hx)⟩)⟩) (List.length_map ..).symm) (Flat.con _) (wants_some (c:=true) (b:=true) 116 rfl rfl rfl) (evm_cons rfl (evm_cons rfl evm_nil)) (.cons (Imm.lst _ _) (.cons (Imm.fn .nil .nil) .nil)) (W46 F y138 y151 hx152) rfl ?_
     refine fo (rn 4 rfl ?_)
     replace h:=Option.some.inj h
     subst h
     exact wR ⟨.inl rfl,[(2,(bV (!y151)))],(gr [0,1,2,3,4] rfl (hB rfl rfl rfl (hD rfl (hD rfl (hD rfl (hR rfl rfl .nil))))) rfl),(.cons (.tmp rfl) .nil)⟩
    refine rn 9 rfl ?_
    replace h:=Option.some.inj h
    subst h
    exact wR ⟨.inl rfl,[(2,(bV false))],(gr [0,1,2,3,4] rfl (hB rfl rfl rfl (hD rfl (hD rfl (hD rfl (hR rfl rfl .nil))))) rfl),(.cons (.tmp rfl) .nil)⟩
   refine rn 17 rfl ?_
   replace h:=Option.some.inj h
   subst h
   exact wR ⟨.inl rfl,[(2,(bV false))],(gr [0,1,2,3,4] rfl (hB rfl rfl rfl (hD rfl (hD rfl (hD rfl (hR rfl rfl .nil))))) rfl),(.cons (.tmp rfl) .nil)⟩
  refine rn 25 rfl ?_
  replace h:=Option.some.inj h
  subst h
  exact wR ⟨.inl rfl,[(2,(bV false))],(gr [0,1,2,3,4] rfl (hB rfl rfl rfl (hD rfl (hD rfl (hD rfl (hR rfl rfl .nil))))) rfl),(.cons (.tmp rfl) .nil)⟩
 refine rn 33 rfl ?_
 replace h:=Option.some.inj h
 subst h
 exact wR ⟨.inl rfl,[(2,(bV false))],(gr [0,1,2,3,4] rfl (hB rfl rfl rfl (hD rfl (hD rfl (hD rfl (hR rfl rfl .nil))))) rfl),(.cons (.tmp rfl) .nil)⟩
theorem W60(F:Nat)(a1:TGraph)(a2:Bool)(r:Treach_checker)(h:M60 F a1 a2=some r):PureG (gl mx) Tryz.prog 60 [(V.agg (encTGraph a1)),(bV a2)] (V.agg (encTreach_checker r)):=by
 refine pin (fun r=>(V.agg (encTreach_checker r))) r rfl Tryz.func60 rfl rfl rfl rfl rfl (fun w0 m0 hg=>?_)
 unfold M60 at h
 refine rn 20 rfl ?_
 refine ln rfl rfl ?_
 refine rn 2 rfl ?_
 refine jK h (fun(p:(List ((List UInt8)×TIface)))=>(⟨[(2,(V.ptr 0 4 0 0)),(4,(V.ptr 1 4 0 0)),(5,(V.ptr 2 4 0 0))],[(0,(Ob.arr 27 4 [(encTGraph a1)])),(1,(Ob.arr 117 4 [[(bV false),(V.con (.map none)),(V.con (.map none)),(V.con (.map none))]])),(2,(Ob.arr 117 4 [[(bV a2),(V.map 3),(V.map 4),(V.map 5)]])),(3,(Ob.map (p.map encM9_56))),(4,(Ob.map (([]:List ((List UInt8)×Bool)).map encM9_4))),(5,(Ob.map (([]:List ((List UInt8)×Bool)).map encM9_4)))],6⟩:St)) (fun k3 p=>k3 p=some r) (fun k3 h=>?_) ?_
 ·refine rn 1 rfl ?_
  refine wl (A:=a1.Ifaces) 18 rfl (fun hA12=>?_)
  refine lC (fun(p:Int×(List ((List UInt8)×TIface)))=>(⟨[(2,(V.ptr 0 4 0 0)),(4,(V.ptr 1 4 0 0)),(5,(V.ptr 2 4 0 0)),(18,(V.lst 2 (a1.Ifaces.map encTIface))),(19,(iV ((a1.Ifaces.length:Nat):Int))),(20,(iV (p.1)))],[(0,(Ob.arr 27 4 [(encTGraph a1)])),(1,(Ob.arr 117 4 [[(bV false),(V.con (.map none)),(V.con (.map none)),(V.con (.map none))]])),(2,(Ob.arr 117 4 [[(bV a2),(V.map 3),(V.map 4),(V.map 5)]])),(3,(Ob.map ((p.2).map encM9_56))),(4,(Ob.map (([]:List ((List UInt8)×Bool)).map encM9_4))),(5,(Ob.map (([]:List ((List UInt8)×Bool)).map encM9_4)))],6⟩:St)) (fun n p=>RG a1.Ifaces (fun tl nn=>M60_L1 F k3 tl p.2=some r) n p.1) (fun p h=>RG.zero h) (a1.Ifaces.length+1) (0,([]:List ((List UInt8)×TIface))) (RG.start h) (gr [0,1,5,2,3,4] rfl (hB rfl rfl rfl (hB rfl rfl rfl (hB rfl rfl rfl (hM rfl rfl (hM rfl rfl (hM rfl rfl .nil)))))) rfl) (fun n p h=>?_)
  obtain⟨n7,m8⟩:=p
  refine rn 5 rfl ?_
  refine spL rfl (fun hb9=>?_) (fun hb9=>?_)
  ·obtain⟨x10,tl,hx11,h,hk1⟩:=RG.t hA12 h hb9
   unfold M60_L1 at h
   refine rn 5 rfl ?_
   refine ixh hx11 rfl rfl ?_
   refine rn 10 rfl ?_
   refine aops_mapUpdate (es:=m8.map encM9_56) ((mput m8 x10.Name x10).map encM9_56) tMap114 tKey9 wants_none rfl rfl (.con rfl) ⟨_,rfl⟩ encM9_56_good rfl (encM9_56_puts m8 x10.Name x10) ?_
   refine fo (rn 6 rfl ?_)
   exact jX ((w64 (n7+1)),(mput m8 x10.Name x10)) (hk1 _ h) (gr [0,1,2,3,4,5] rfl (hB rfl rfl rfl (hB rfl rfl rfl (hB rfl rfl rfl (hM rfl rfl (hM rfl rfl (hM rfl rfl .nil)))))) rfl)
  replace h:=RG.f h hb9
  unfold M60_L1 at h
  refine rn 1 rfl ?_
  exact jX m8 h (gr [0,1,2,3,4,5] rfl (hB rfl rfl rfl (hB rfl rfl rfl (hB rfl rfl rfl (hM rfl rfl (hM rfl rfl (hM rfl rfl .nil)))))) rfl)
 intro m4 h
 refine rn 5 rfl ?_
 refine ln rfl rfl ?_
 refine rn 2 rfl ?_
 refine jK h (fun(p:(List ((List UInt8)×Bool)))=>(⟨[(2,(V.ptr 0 4 0 0)),(4,(V.ptr 1 4 0 0)),(5,(V.ptr 2 4 0 0))],[(0,(Ob.arr 27 4 [(encTGraph a1)])),(1,(Ob.arr 117 4 [[(bV false),(V.con (.map none)),(V.con (.map none)),(V.con (.map none))]])),(2,(Ob.arr 117 4 [[(bV a2),(V.map 3),(V.map 4),(V.map 5)]])),(3,(Ob.map (m4.map encM9_56))),(4,(Ob.map (p.map encM9_4))),(5,(Ob.map (([]:List ((List UInt8)×Bool)).map encM9_4)))],6⟩:St)) (fun k13 p=>k13 p=some r) (fun k13 h=>?_) ?_
 ·refine rn 1 rfl ?_
  refine wl (A:=a1.Types) 31 rfl (fun hA22=>?_)
  refine lC (fun(p:Int×(List ((List UInt8)×Bool)))=>(⟨[(2,(V.ptr 0 4 0 0)),(4,(V.ptr 1 4 0 0)),(5,(V.ptr 2 4 0 0)),(31,(V.lst 2 (a1.Types.map encTType))),(32,(iV ((a1.Types.length:Nat):Int))),(33,(iV (p.1)))],[(0,(Ob.arr 27 4 [(encTGraph a1)])),(1,(Ob.arr 117 4 [[(bV false),(V.con (.map none)),(V.con (.map none)),(V.con (.map none))]])),(2,(Ob.arr 117 4 [[(bV a2),(V.map 3),(V.map 4),(V.map 5)]])),(3,(Ob.map (m4.map encM9_56))),(4,(Ob.map ((p.2).map encM9_4))),(5,(Ob.map (([]:List ((List UInt8)×Bool)).map encM9_4)))],6⟩:St)) (fun n p=>RG a1.Types (fun tl nn=>M60_L2 F k13 tl p.2=some r) n p.1) (fun p h=>RG.zero h) (a1.Types.length+1) (0,([]:List ((List UInt8)×Bool))) (RG.start h) (gr [0,1,2,3,4,5] rfl (hB rfl rfl rfl (hB rfl rfl rfl (hB rfl rfl rfl (hM rfl rfl (hM rfl rfl (hM rfl rfl .nil)))))) rfl) (fun n p h=>?_)
  obtain⟨n17,m18⟩:=p
  refine rn 5 rfl ?_
  refine spL rfl (fun hb19=>?_) (fun hb19=>?_)
  ·obtain⟨x20,tl,hx21,h,hk2⟩:=RG.t hA22 h hb19
   unfold M60_L2 at h
   refine rn 5 rfl ?_
   refine ixh hx21 rfl rfl ?_
   refine rn 9 rfl ?_
   refine aops_mapUpdate (es:=m18.map encM9_4) ((mput m18 x20.Name true).map encM9_4) tMap115 tKey9 wants_none rfl rfl (.con rfl) ⟨_,rfl⟩ encM9_4_good rfl (encM9_4_puts m18 x20.Name true) ?_
   refine fo (rn 6 rfl ?_)
   exact jX ((w64 (n17+1)),(mput m18 x20.Name true)) (hk2 _ h) (gr [0,1,2,3,4,5] rfl (hB rfl rfl rfl (hB rfl rfl rfl (hB rfl rfl rfl (hM rfl rfl (hM rfl rfl (hM rfl rfl .nil)))))) rfl)
  replace h:=RG.f h hb19
  unfold M60_L2 at h
  refine rn 1 rfl ?_
  exact jX m18 h (gr [0,1,2,3,4,5] rfl (hB rfl rfl rfl (hB rfl rfl rfl (hB rfl rfl rfl (hM rfl rfl (hM rfl rfl (hM rfl rfl .nil)))))) rfl)
 intro m14 h
 refine rn 5 rfl ?_
 refine ln rfl rfl ?_
 refine rn 2 rfl ?_
 refine jK h (fun(p:(List ((List UInt8)×Bool)))=>(⟨[(4,(V.ptr 0 4 0 0)),(5,(V.ptr 1 4 0 0))],[(0,(Ob.arr 117 4 [[(bV false),(V.con (.map none)),(V.con (.map none)),(V.con (.map none))]])),(1,(Ob.arr 117 4 [[(bV a2),(V.map 2),(V.map 3),(V.map 4)]])),(2,(Ob.map (m4.map encM9_56))),(3,(Ob.map (m14.map encM9_4))),(4,(Ob.map (p.map encM9_4)))],5⟩:St)) (fun k23 p=>k23 p=some r) (fun k23 h=>?_) ?_
 ·refine rn 1 rfl ?_
  refine wl (A:=a1.Funcs) 43 rfl (fun hA32=>?_)
  refine lC (fun(p:Int×(List ((List UInt8)×Bool)))=>(⟨[(4,(V.ptr 0 4 0 0)),(5,(V.ptr 1 4 0 0)),(43,(V.lst 4 (a1.Funcs.map encTFunc))),(44,(iV ((a1.Funcs.length:Nat):Int))),(45,(iV (p.1)))],[(0,(Ob.arr 117 4 [[(bV false),(V.con (.map none)),(V.con (.map none)),(V.con (.map none))]])),(1,(Ob.arr 117 4 [[(bV a2),(V.map 2),(V.map 3),(V.map 4)]])),(2,(Ob.map (m4.map encM9_56))),(3,(Ob.map (m14.map encM9_4))),(4,(Ob.map ((p.2).map encM9_4)))],5⟩:St)) (fun n p=>RG a1.Funcs (fun tl nn=>M60_L3 F k23 tl p.2=some r) n p.1) (fun p h=>RG.zero h) (a1.Funcs.length+1) (0,([]:List ((List UInt8)×Bool))) (RG.start h) (gr [1,2,3,4,5] rfl (hB rfl rfl rfl (hB rfl rfl rfl (hM rfl rfl (hM rfl rfl (hM rfl rfl .nil))))) rfl) (fun n p h=>?_)
  obtain⟨n27,m28⟩:=p
  refine rn 5 rfl ?_
  refine spL rfl (fun hb29=>?_) (fun hb29=>?_)
  ·obtain⟨x30,tl,hx31,h,hk3⟩:=RG.t hA32 h hb29
   unfold M60_L3 at h
   refine rn 5 rfl ?_
   refine ixh hx31 rfl rfl ?_
   refine rn 9 rfl ?_
   refine aops_mapUpdate (es:=m28.map encM9_4) ((mput m28 x30.Name true).map encM9_4) tMap115 tKey9 wants_none rfl rfl (.con rfl) ⟨_,rfl⟩ encM9_4_good rfl (encM9_4_puts m28 x30.Name true) ?_
   refine fo (rn 6 rfl ?_)
   exact jX ((w64 (n27+1)),(mput m28 x30.Name true)) (hk3 _ h) (gr [0,1,2,3,4] rfl (hB rfl rfl rfl (hB rfl rfl rfl (hM rfl rfl (hM rfl rfl (hM rfl rfl .nil))))) rfl)
  replace h:=RG.f h hb29
  unfold M60_L3 at h
  refine rn 1 rfl ?_
  exact jX m28 h (gr [0,1,2,3,4] rfl (hB rfl rfl rfl (hB rfl rfl rfl (hM rfl rfl (hM rfl rfl (hM rfl rfl .nil))))) rfl)
 intro m24 h
 refine rn 5 rfl ?_
 refine awp_ghost (ghost_frzMC 2 0 (Ob.arr 117 4 [[(bV a2),(V.imap (m4.map encM9_56)),(V.map 3),(V.map 4)]]) rfl encM9_56_imm (ObSub.box (.cons Sub.keepM (.cons Sub.frzM (.cons Sub.keepM (.cons Sub.keepM .nil)))))) ?_
 refine awp_ghost (ghost_frzMC 3 0 (Ob.arr 117 4 [[(bV a2),(V.imap (m4.map encM9_56)),(V.imap (m14.map encM9_4)),(V.map 4)]]) rfl encM9_4_imm (ObSub.box (.cons Sub.keepM (.cons Sub.keepM (.cons Sub.frzM (.cons Sub.keepM .nil)))))) ?_
 refine awp_ghost (ghost_frzMC 4 0 (Ob.arr 117 4 [[(bV a2),(V.imap (m4.map encM9_56)),(V.imap (m14.map encM9_4)),(V.imap (m24.map encM9_4))]]) rfl encM9_4_imm (ObSub.box (.cons Sub.keepM (.cons Sub.keepM (.cons Sub.keepM (.cons Sub.frzM .nil)))))) ?_
 refine fa ?_
 exact rt h rfl
theorem W126(F:Nat)(a1:(List UInt8))(r:Bool)(h:M126 F a1=some r):PureG (gl mx) Tryz.prog 126 [(sV a1)] (bV r):=by
 refine pin (fun r=>(bV r)) r rfl Tryz.func126 rfl rfl rfl rfl rfl (fun w0 m0 hg=>?_)
 unfold M126 at h
 refine rn 11 rfl ?_
 refine jK h (fun _:Unit=>(⟨[(0,(sV a1))],[],0⟩:St)) (fun k2 (_:Unit)=>k2=some r) (fun k2 h=>?_) ?_
 ·refine rn 1 rfl ?_
  refine ck h (fun hA15 h=>?_)
  refine lC (fun(p:Int)=>(⟨[(0,(sV a1)),(5,(iV (a1.length:Int))),(6,(iV p))],[],0⟩:St)) (fun n p=>RC (a1.length:Int) (fun tl nn=>M126_L1 F a1 k2 tl nn=some r) n p) (fun p h=>RC.zero h) (Int.toNat (a1.length:Int)+1) 0 (RC.start h) (g0 rfl rfl) (fun n n4 h=>?_)
  refine rn 5 rfl ?_
  refine spL rfl (fun hb5=>?_) (fun hb5=>?_)
  ·obtain⟨tl,h,hk1⟩:=RC.t hA15 h hb5
   unfold M126_L1 at h
   refine rn 12 rfl ?_
   refine ixs h rfl rfl (fun c6 hx7 h=>?_)
   refine rn 2 rfl ?_
   refine spO 13 h rfl (fun hb8 h=>?_) (fun hb8 h=>?_)
   ·refine rn 17 rfl ?_
    exact rt h rfl
   refine rn 2 rfl ?_
   refine ixs h rfl rfl (fun c9 hx10 h=>?_)
   refine rn 3 rfl ?_
   refine spO 19 h rfl (fun hb11 h=>?_) (fun hb11 h=>?_)
   ·refine rn 11 rfl ?_
    exact rt h rfl
   refine rn 2 rfl ?_
   refine ixs h rfl rfl (fun c12 hx13 h=>?_)
   refine rn 3 rfl ?_
   refine spC h rfl (fun hb14 h=>?_) (fun hb14 h=>?_)
   ·refine rn 4 rfl ?_
    exact rt h rfl
   refine rn 6 rfl ?_
   exact jX (w64 (n4+1)) (hk1 _ h) (g0 rfl rfl)
  replace h:=RC.f h hb5
  unfold M126_L1 at h
  refine rn 1 rfl ?_
  exact jX () h (g0 rfl rfl)
 intro _ h
 refine rn 5 rfl ?_
 refine spO 28 h rfl (fun hb16 h=>?_) (fun hb16 h=>?_)
 ·refine rn 6 rfl ?_
  exact rt h rfl
 refine rn 6 rfl ?_
 exact rt h rfl
theorem W125(F:Nat)(a1:(List UInt8))(a2:(List UInt8))(a3:Bool)(r:Int)(h:M125 F a1 a2 a3=some r):PureG (gl mx) Tryz.prog 125 [(sV a1),(sV a2),(bV a3)] (iV r):=by
 refine pin (fun r=>(iV r)) r rfl Tryz.func125 rfl rfl rfl rfl rfl (fun w0 m0 hg=>?_)
 unfold M125 at h
 refine rn 9 rfl ?_
 refine cl h rfl rfl rfl (W126 _ _) rfl (fun y4 hx5 h=>?_)
 refine rn 3 rfl ?_
 refine jK h (fun _:Unit=>(⟨[],[],0⟩:St)) (fun k6 (_:Unit)=>k6=some r) (fun k6 h=>?_) ?_
 ·refine spC h rfl (fun hb7 h=>?_) (fun hb7 h=>?_)
  ·refine rn 4 rfl ?_
   exact rt h rfl
  refine rn 5 rfl ?_
  refine spO 14 h rfl (fun hb8 h=>?_) (fun hb8 h=>?_)
  ·refine rn 6 rfl ?_
   refine spC h rfl (fun hb9 h=>?_) (fun hb9 h=>?_)
   ·refine rn 4 rfl ?_
    exact rt h rfl
   refine rn 1 rfl ?_
   exact jX () h (g0 rfl rfl)
  refine rn 8 rfl ?_
  exact jX () h (g0 rfl rfl)
 intro _ h
 refine rn 5 rfl ?_
 exact rt h rfl
theorem W89(F:Nat)(a1:Treach_checker)(a2:(List TIface))(r:Int)(h:M89 F a1 a2=some r):PureG (gl mx) Tryz.prog 89 [(V.agg (encTreach_checker a1)),(V.lst 2 (a2.map encTIface))] (iV r):=by
 refine pin (fun r=>(iV r)) r rfl Tryz.func89 rfl rfl rfl rfl rfl (fun w0 m0 hg=>?_)
 unfold M89 at h
 refine rn 13 rfl ?_
 refine ln rfl rfl ?_
 refine rn 2 rfl ?_
 refine jK h (fun _:Unit=>(⟨[],[],0⟩:St)) (fun k3 (_:Unit)=>k3=some r) (fun k3 h=>?_) ?_
 ·refine rn 1 rfl ?_
  refine wl (A:=a2) 1 rfl (fun hA30=>?_)
  refine lC (fun(p:(List UInt8)×Int)=>(⟨[(5,(sV (p.1))),(13,(V.lst 2 (a2.map encTIface))),(14,(iV ((a2.length:Nat):Int))),(15,(iV (p.2)))],[],0⟩:St)) (fun n p=>RG a2 (fun tl nn=>M89_L1 F k3 tl nn p.1=some r) n p.2) (fun p h=>RG.zero h) (a2.length+1) (([]:List UInt8),0) (RG.start h) (g0 rfl rfl) (fun n p h=>?_)
  obtain⟨s6,n7⟩:=p
  refine rn 5 rfl ?_
  refine spL rfl (fun hb8=>?_) (fun hb8=>?_)
  ·obtain⟨x11,tl,hx12,h,hk1⟩:=RG.t hA30 h hb8
   unfold M89_L1 at h
   refine rn 2 rfl ?_
   refine jK h (fun(p:(List UInt8))=>(⟨[(5,(sV p)),(13,(V.lst 2 (a2.map encTIface))),(14,(iV ((a2.length:Nat):Int))),(15,(iV n7))],[],0⟩:St)) (fun k9 p=>k9 p=some r) (fun k9 h=>?_) ?_
   ·refine rn 4 rfl ?_
    refine ixh hx12 rfl rfl ?_
    refine rn 13 rfl ?_
    refine cl h rfl rfl rfl (W125 _ _ _ _) rfl (fun y13 hx14 h=>?_)
    refine rn 7 rfl ?_
    refine spC h rfl (fun hb15 h=>?_) (fun hb15 h=>?_)
    ·refine rn 5 rfl ?_
     exact rt h rfl
    refine rn 13 rfl ?_
    refine ln rfl rfl ?_
    refine rn 3 rfl ?_
    refine spC h rfl (fun hb16 h=>?_) (fun hb16 h=>?_)
    ·refine rn 4 rfl ?_
     exact rt h rfl
    refine rn 4 rfl ?_
    refine ln rfl rfl ?_
    refine rn 3 rfl ?_
    refine spC h rfl (fun hb17 h=>?_) (fun hb17 h=>?_)
    ·refine rn 4 rfl ?_
     exact rt h rfl
    refine rn 10 rfl ?_
    refine ln rfl rfl ?_
    refine rn 2 rfl ?_
    refine jK h (fun _:Unit=>(⟨[(5,(sV x11.Name)),(13,(V.lst 2 (a2.map encTIface))),(14,(iV ((a2.length:Nat):Int))),(15,(iV n7))],[],0⟩:St)) (fun k18 (_:Unit)=>k18=some r) (fun k18 h=>?_) ?_
    ·refine rn 1 rfl ?_
     refine wl (A:=x11.Methods) 33 rfl (fun hA29=>?_)
     refine lC (fun(p:(List UInt8)×Int)=>(⟨[(5,(sV x11.Name)),(9,(sV (p.1))),(13,(V.lst 2 (a2.map encTIface))),(14,(iV ((a2.length:Nat):Int))),(15,(iV n7)),(42,(V.lst 1 (x11.Methods.map encS))),(43,(iV ((x11.Methods.length:Nat):Int))),(44,(iV (p.2)))],[],0⟩:St)) (fun n p=>RG x11.Methods (fun tl nn=>M89_L2 F k18 tl nn p.1=some r) n p.2) (fun p h=>RG.zero h) (x11.Methods.length+1) (([]:List UInt8),0) (RG.start h) (g0 rfl rfl) (fun n p h=>?_)
     obtain⟨s21,n22⟩:=p
     refine rn 5 rfl ?_
     refine spL rfl (fun hb23=>?_) (fun hb23=>?_)
     ·obtain⟨x24,tl,hx25,h,hk2⟩:=RG.t hA29 h hb23
      unfold M89_L2 at h
      refine rn 6 rfl ?_
      refine ixh hx25 rfl rfl ?_
      refine rn 11 rfl ?_
      refine cl h rfl rfl rfl (W125 _ _ _ _) rfl (fun y26 hx27 h=>?_)
      refine rn 7 rfl ?_
      refine spC h rfl (fun hb28 h=>?_) (fun hb28 h=>?_)
      ·refine rn 5 rfl ?_
       exact rt h rfl
      refine rn 10 rfl ?_
      exact jX (x24,(w64 (n22+1))) (hk2 _ h) (g0 rfl rfl)
     replace h:=RG.f h hb23
     unfold M89_L2 at h
     refine rn 1 rfl ?_
     exact jX () h (g0 rfl rfl)
    intro _ h
    refine rn 1 rfl ?_
    exact jX x11.Name h (g0 rfl rfl)
   intro s10 h
   refine rn 4 rfl ?_
   exact jX (s10,(w64 (n7+1))) (hk1 _ h) (g0 rfl rfl)
  replace h:=RG.f h hb8
  unfold M89_L1 at h
  refine rn 1 rfl ?_
  exact jX () h (g0 rfl rfl)
 intro _ h
 refine rn 4 rfl ?_
 exact rt h rfl
theorem W90(F:Nat)(a1:Treach_checker)(a2:(List TType))(r:Int)(h:M90 F a1 a2=some r):PureG (gl mx) Tryz.prog 90 [(V.agg (encTreach_checker a1)),(V.lst 2 (a2.map encTType))] (iV r):=by
 refine pin (fun r=>(iV r)) r rfl Tryz.func90 rfl rfl rfl rfl rfl (fun w0 m0 hg=>?_)
 unfold M90 at h
 refine rn 13 rfl ?_
 refine ln rfl rfl ?_
 refine rn 2 rfl ?_
 refine jK h (fun _:Unit=>(⟨[],[],0⟩:St)) (fun k3 (_:Unit)=>k3=some r) (fun k3 h=>?_) ?_
 ·refine rn 1 rfl ?_
  refine wl (A:=a2) 1 rfl (fun hA33=>?_)
  refine lC (fun(p:(List UInt8)×Int)=>(⟨[(2,(V.ptr 0 4 0 0)),(5,(sV (p.1))),(13,(V.lst 2 (a2.map encTType))),(14,(iV ((a2.length:Nat):Int))),(15,(iV (p.2)))],[(0,(Ob.arr 117 4 [(encTreach_checker a1)]))],1⟩:St)) (fun n p=>RG a2 (fun tl nn=>M90_L1 F a1 k3 tl nn p.1=some r) n p.2) (fun p h=>RG.zero h) (a2.length+1) (([]:List UInt8),0) (RG.start h) (gr [0] rfl (hB rfl rfl rfl .nil) rfl) (fun n p h=>?_)
  obtain⟨s6,n7⟩:=p
  refine rn 5 rfl ?_
  refine spL rfl (fun hb8=>?_) (fun hb8=>?_)
  ·obtain⟨x11,tl,hx12,h,hk1⟩:=RG.t hA33 h hb8
   unfold M90_L1 at h
   refine rn 2 rfl ?_
   refine jK h (fun(p:(List UInt8))=>(⟨[(2,(V.ptr 0 4 0 0)),(5,(sV p)),(13,(V.lst 2 (a2.map encTType))),(14,(iV ((a2.length:Nat):Int))),(15,(iV n7))],[(0,(Ob.arr 117 4 [(encTreach_checker a1)]))],1⟩:St)) (fun k9 p=>k9 p=some r) (fun k9 h=>?_) ?_
   ·refine rn 4 rfl ?_
    refine ixh hx12 rfl rfl ?_
    refine rn 13 rfl ?_
    refine cl h rfl rfl rfl (W125 _ _ _ _) rfl (fun y13 hx14 h=>?_)
    refine rn 7 rfl ?_
    refine spC h rfl (fun hb15 h=>?_) (fun hb15 h=>?_)
    ·refine rn 5 rfl ?_
     exact rt h rfl
    refine rn 12 rfl ?_
    refine ln rfl rfl ?_
    refine rn 2 rfl ?_
    refine spC h rfl (fun hb16 h=>?_) (fun hb16 h=>?_)
    ·refine rn 4 rfl ?_
     exact rt h rfl
    refine rn 9 rfl ?_
    refine ln rfl rfl ?_
    refine rn 2 rfl ?_
    refine jK h (fun _:Unit=>(⟨[(2,(V.ptr 0 4 0 0)),(5,(sV x11.Name)),(13,(V.lst 2 (a2.map encTType))),(14,(iV ((a2.length:Nat):Int))),(15,(iV n7))],[(0,(Ob.arr 117 4 [(encTreach_checker a1)]))],1⟩:St)) (fun k17 (_:Unit)=>k17=some r) (fun k17 h=>?_) ?_
    ·refine rn 1 rfl ?_
     refine wl (A:=x11.Methods) 32 rfl (fun hA32=>?_)
     refine lC (fun(p:(List UInt8)×Int)=>(⟨[(2,(V.ptr 0 4 0 0)),(5,(sV x11.Name)),(9,(sV (p.1))),(13,(V.lst 2 (a2.map encTType))),(14,(iV ((a2.length:Nat):Int))),(15,(iV n7)),(36,(V.lst 2 (x11.Methods.map encTMethod))),(37,(iV ((x11.Methods.length:Nat):Int))),(38,(iV (p.2)))],[(0,(Ob.arr 117 4 [(encTreach_checker a1)]))],1⟩:St)) (fun n p=>RG x11.Methods (fun tl nn=>M90_L2 F a1 k17 tl nn p.1=some r) n p.2) (fun p h=>RG.zero h) (x11.Methods.length+1) (([]:List UInt8),0) (RG.start h) (gr [0] rfl (hB rfl rfl rfl .nil) rfl) (fun n p h=>?_)
     obtain⟨s20,n21⟩:=p
     refine rn 5 rfl ?_
     refine spL rfl (fun hb22=>?_) (fun hb22=>?_)
     ·obtain⟨x25,tl,hx26,h,hk2⟩:=RG.t hA32 h hb22
      unfold M90_L2 at h
      refine rn 2 rfl ?_
      refine jK h (fun(p:(List UInt8))=>(⟨[(2,(V.ptr 0 4 0 0)),(5,(sV x11.Name)),(9,(sV p)),(13,(V.lst 2 (a2.map encTType))),(14,(iV ((a2.length:Nat):Int))),(15,(iV n7)),(36,(V.lst 2 (x11.Methods.map encTMethod))),(37,(iV ((x11.Methods.length:Nat):Int))),(38,(iV n21))],[(0,(Ob.arr 117 4 [(encTreach_checker a1)]))],1⟩:St)) (fun k23 p=>k23 p=some r) (fun k23 h=>?_) ?_
      ·refine rn 4 rfl ?_
       refine ixh hx26 rfl rfl ?_
       refine rn 13 rfl ?_
       refine cl h rfl rfl rfl (W125 _ _ _ _) rfl (fun y27 hx28 h=>?_)
       refine rn 7 rfl ?_
       refine spC h rfl (fun hb29 h=>?_) (fun hb29 h=>?_)
       ·refine rn 5 rfl ?_
        exact rt h rfl
       refine rn 13 rfl ?_
       refine spO 57 h rfl (fun hb30 h=>?_) (fun hb30 h=>?_)
       ·refine rn 4 rfl ?_
        refine aops_lookup _ (bV false) (bV ((mget a1.funcs x25.Func).getD false)) tMap115 tKey9 tZo4 (irel_con _) (wants_some (c:=true) (b:=true) 57 rfl rfl rfl) rfl .imm (.con rfl) ⟨_,rfl⟩ encM9_4_good (encM9_4_look a1.funcs x25.Func) (getD_map (encM9_4_val) (mget a1.funcs x25.Func) false) rfl ?_
        refine fo (rn 3 rfl ?_)
        refine spC h rfl (fun hb31 h=>?_) (fun hb31 h=>?_)
        ·refine rn 4 rfl ?_
         exact rt h rfl
        refine rn 2 rfl ?_
        exact jX x25.Name h (gr [0] rfl (hB rfl rfl rfl .nil) rfl)
       refine rn 11 rfl ?_
       exact jX x25.Name h (gr [0] rfl (hB rfl rfl rfl .nil) rfl)
      intro s24 h
      refine rn 4 rfl ?_
      exact jX (s24,(w64 (n21+1))) (hk2 _ h) (gr [0] rfl (hB rfl rfl rfl .nil) rfl)
     replace h:=RG.f h hb22
     unfold M90_L2 at h
     refine rn 1 rfl ?_
     exact jX () h (gr [0] rfl (hB rfl rfl rfl .nil) rfl)
    intro _ h
    refine rn 1 rfl ?_
    exact jX x11.Name h (gr [0] rfl (hB rfl rfl rfl .nil) rfl)
   intro s10 h
   refine rn 4 rfl ?_
   exact jX (s10,(w64 (n7+1))) (hk1 _ h) (gr [0] rfl (hB rfl rfl rfl .nil) rfl)
  replace h:=RG.f h hb8
  unfold M90_L1 at h
  refine rn 1 rfl ?_
  exact jX () h (g0 rfl rfl)
 intro _ h
 refine rn 4 rfl ?_
 exact rt h rfl
theorem W185(F:Nat)(a1:(List (List UInt8)))(a2:(List UInt8))(r:Int)(h:M185 F a1 a2=some r):PureG (gl mx) Tryz.prog 185 [(V.lst 1 (a1.map encS)),(sV a2)] (iV r):=by
 refine pin (fun r=>(iV r)) r rfl Tryz.func185 rfl rfl rfl rfl rfl (fun w0 m0 hg=>?_)
 unfold M185 at h
 refine rn 8 rfl ?_
 refine ln rfl rfl ?_
 refine rn 2 rfl ?_
 refine jK h (fun _:Unit=>(⟨[],[],0⟩:St)) (fun k3 (_:Unit)=>k3=some r) (fun k3 h=>?_) ?_
 ·refine rn 1 rfl ?_
  refine wl (A:=a1) 0 rfl (fun hA10=>?_)
  refine lC (fun(p:Int)=>(⟨[(0,(V.lst 1 (a1.map encS))),(1,(sV a2)),(7,(iV ((a1.length:Nat):Int))),(8,(iV p))],[],0⟩:St)) (fun n p=>RG a1 (fun tl nn=>M185_L1 F a2 k3 tl nn=some r) n p) (fun p h=>RG.zero h) (a1.length+1) 0 (RG.start h) (g0 rfl rfl) (fun n n5 h=>?_)
  refine rn 5 rfl ?_
  refine spL rfl (fun hb6=>?_) (fun hb6=>?_)
  ·obtain⟨x7,tl,hx8,h,hk1⟩:=RG.t hA10 h hb6
   unfold M185_L1 at h
   refine rn 13 rfl ?_
   refine ixh hx8 rfl rfl ?_
   refine rn 3 rfl ?_
   refine spC h rfl (fun hb9 h=>?_) (fun hb9 h=>?_)
   ·refine rn 5 rfl ?_
    exact rt h rfl
   refine rn 6 rfl ?_
   exact jX (w64 (n5+1)) (hk1 _ h) (g0 rfl rfl)
  replace h:=RG.f h hb6
  unfold M185_L1 at h
  refine rn 1 rfl ?_
  exact jX () h (g0 rfl rfl)
 intro _ h
 refine rn 4 rfl ?_
 exact rt h rfl
theorem W169(F:Nat)(a1:(List (List UInt8)))(a2:(List UInt8))(r:Bool)(h:M169 F a1 a2=some r):PureG (gl mx) Tryz.prog 169 [(V.lst 1 (a1.map encS)),(sV a2)] (bV r):=by
 refine pin (fun r=>(bV r)) r rfl Tryz.func169 rfl rfl rfl rfl rfl (fun w0 m0 hg=>?_)
 unfold M169 at h
 refine rn 8 rfl ?_
 refine cl h rfl rfl rfl (W185 _ _ _) rfl (fun y3 hx4 h=>?_)
 refine rn 3 rfl ?_
 exact rt h rfl
theorem W127(F:Nat)(a1:Treach_checker)(a2:TCall)(r:Int)(h:M127 F a1 a2=some r):PureG (gl mx) Tryz.prog 127 [(V.agg (encTreach_checker a1)),(V.agg (encTCall a2))] (iV r):=by
 refine pin (fun r=>(iV r)) r rfl Tryz.func127 rfl rfl rfl rfl rfl (fun w0 m0 hg=>?_)
 unfold M127 at h
 refine rn 18 rfl ?_
 refine jK h (fun _:Unit=>(⟨[(3,(V.ptr 0 4 0 0))],[(0,(Ob.arr 74 4 [(encTCall a2)]))],1⟩:St)) (fun k3 (_:Unit)=>k3=some r) (fun k3 h=>?_) ?_
 ·refine spC h rfl (fun hb4 h=>?_) (fun hb4 h=>?_)
  ·refine rn 7 rfl ?_
   refine spO 14 h rfl (fun hb5 h=>?_) (fun hb5 h=>?_)
   ·refine rn 4 rfl ?_
    refine aops_lookup _ (bV false) (bV ((mget a1.funcs a2.Target).getD false)) tMap115 tKey9 tZo4 (irel_con _) (wants_some (c:=true) (b:=true) 14 rfl rfl rfl) rfl .imm (.con rfl) ⟨_,rfl⟩ encM9_4_good (encM9_4_look a1.funcs a2.Target) (getD_map (encM9_4_val) (mget a1.funcs a2.Target) false) rfl ?_
    refine fo (rn 3 rfl ?_)
    refine spC h rfl (fun hb6 h=>?_) (fun hb6 h=>?_)
    ·refine rn 4 rfl ?_
     exact rt h rfl
    refine rn 7 rfl ?_
    refine spC h rfl (fun hb7 h=>?_) (fun hb7 h=>?_)
    ·refine rn 4 rfl ?_
     exact rt h rfl
    refine rn 1 rfl ?_
    exact jX () h (gr [1] rfl (hB rfl rfl rfl .nil) rfl)
   refine rn 16 rfl ?_
   refine spC h rfl (fun hb8 h=>?_) (fun hb8 h=>?_)
   ·refine rn 4 rfl ?_
    exact rt h rfl
   refine rn 1 rfl ?_
   exact jX () h (gr [1] rfl (hB rfl rfl rfl .nil) rfl)
  refine rn 5 rfl ?_
  refine spC h rfl (fun hb9 h=>?_) (fun hb9 h=>?_)
  ·refine rn 6 rfl ?_
   refine aops_lookup_okB _ (V.agg [(sV ([]:List UInt8)),(V.lst 1 (([]:List (List UInt8)).map encS))]) (V.agg (encTIface ((mget a1.ifaces a2.Target).getD (TIface.mk ([]:List UInt8) ([]:(List (List UInt8))))))) tMap114 tKey9 tZo56 (irel_aggZ (.con (.sl .nil))) wants_none rfl .imm (.con rfl) ⟨_,rfl⟩ encM9_56_good (encM9_56_look a1.ifaces a2.Target) (getD_map (encM9_56_val) (mget a1.ifaces a2.Target) (TIface.mk ([]:List UInt8) ([]:(List (List UInt8))))) (isSome_map ..) rfl ?_
   refine fo (rn 13 rfl ?_)
   refine spO 38 h rfl (fun hb10 h=>?_) (fun hb10 h=>?_)
   ·refine rn 3 rfl ?_
    refine spO 41 h rfl (fun hb11 h=>?_) (fun hb11 h=>?_)
    ·refine rn 14 rfl ?_
     exact rt h rfl
    refine rn 4 rfl ?_
    refine cl h rfl rfl rfl (W169 _ _ _) rfl (fun y12 hx13 h=>?_)
    refine rn 4 rfl ?_
    refine spC h rfl (fun hb14 h=>?_) (fun hb14 h=>?_)
    ·refine rn 4 rfl ?_
     exact rt h rfl
    refine rn 1 rfl ?_
    exact jX () h (gr [1] rfl (hB rfl rfl rfl .nil) rfl)
   refine rn 14 rfl ?_
   exact jX () h (gr [1] rfl (hB rfl rfl rfl .nil) rfl)
  refine rn 4 rfl ?_
  exact rt h rfl
 intro _ h
 refine rn 8 rfl ?_
 refine spO 53 h rfl (fun hb15 h=>?_) (fun hb15 h=>?_)
 ·refine rn 2 rfl ?_
  refine cl h rfl rfl rfl (W126 _ _) rfl (fun y16 hx17 h=>?_)
  refine rn 3 rfl ?_
  refine spC h rfl (fun hb18 h=>?_) (fun hb18 h=>?_)
  ·refine rn 4 rfl ?_
   exact rt h rfl
  refine rn 5 rfl ?_
  exact rt h rfl
 refine rn 12 rfl ?_
 exact rt h rfl
theorem W92(F:Nat)(a1:Treach_checker)(a2:(List (List UInt8)))(a3:(List ((List UInt8)×Bool)))(r:Int)(h:M92 F a1 a2 a3=some r):PureG (gl mx) Tryz.prog 92 [(V.agg (encTreach_checker a1)),(V.lst 1 (a2.map encS)),(V.imap (a3.map encM9_4))] (iV r):=by
 refine pin (fun r=>(iV r)) r rfl Tryz.func92 rfl rfl rfl rfl rfl (fun w0 m0 hg=>?_)
 unfold M92 at h
 refine rn 9 rfl ?_
 refine ln rfl rfl ?_
 refine rn 2 rfl ?_
 refine jK h (fun _:Unit=>(⟨[],[],0⟩:St)) (fun k4 (_:Unit)=>k4=some r) (fun k4 h=>?_) ?_
 ·refine rn 1 rfl ?_
  refine wl (A:=a2) 1 rfl (fun hA22=>?_)
  refine lC (fun(p:Int)=>(⟨[(1,(V.lst 1 (a2.map encS))),(2,(V.imap (a3.map encM9_4))),(3,(V.ptr 0 4 0 0)),(9,(V.lst 1 (a2.map encS))),(10,(iV ((a2.length:Nat):Int))),(11,(iV p))],[(0,(Ob.arr 117 4 [(encTreach_checker a1)]))],1⟩:St)) (fun n p=>RG a2 (fun tl nn=>M92_L1 F a1 a2 a3 k4 tl nn=some r) n p) (fun p h=>RG.zero h) (a2.length+1) 0 (RG.start h) (gr [0] rfl (hB rfl rfl rfl .nil) rfl) (fun n n6 h=>?_)
  refine rn 5 rfl ?_
  refine spL rfl (fun hb7=>?_) (fun hb7=>?_)
  ·obtain⟨x8,tl,hx9,h,hk1⟩:=RG.t hA22 h hb7
   unfold M92_L1 at h
   refine rn 6 rfl ?_
   refine ixh hx9 rfl rfl ?_
   refine rn 4 rfl ?_
   refine jK h (fun _:Unit=>(⟨[(1,(V.lst 1 (a2.map encS))),(2,(V.imap (a3.map encM9_4))),(3,(V.ptr 0 4 0 0)),(9,(V.lst 1 (a2.map encS))),(10,(iV ((a2.length:Nat):Int))),(11,(iV n6))],[(0,(Ob.arr 117 4 [(encTreach_checker a1)]))],1⟩:St)) (fun k10 (_:Unit)=>k10=some r) (fun k10 h=>?_) ?_
   ·refine rn 7 rfl ?_
    refine spO 20 h rfl (fun hb11 h=>?_) (fun hb11 h=>?_)
    ·refine rn 2 rfl ?_
     refine aops_lookup _ (bV false) (bV ((mget a3 x8).getD false)) tMap115 tKey9 tZo4 (irel_con _) (wants_some (c:=true) (b:=true) 20 rfl rfl rfl) rfl .imm (.con rfl) ⟨_,rfl⟩ encM9_4_good (encM9_4_look a3 x8) (getD_map (encM9_4_val) (mget a3 x8) false) rfl ?_
     refine fo (rn 4 rfl ?_)
     refine jK h (fun _:Unit=>(⟨[(1,(V.lst 1 (a2.map encS))),(2,(V.imap (a3.map encM9_4))),(3,(V.ptr 0 4 0 0)),(9,(V.lst 1 (a2.map encS))),(10,(iV ((a2.length:Nat):Int))),(11,(iV n6)),(24,(bV (!((mget a3 x8).getD false))))],[(0,(Ob.arr 117 4 [(encTreach_checker a1)]))],1⟩:St)) (fun k12 (_:Unit)=>k12=some r) (fun k12 h=>?_) ?_
     ·refine spC h rfl (fun hb13 h=>?_) (fun hb13 h=>?_)
      ·refine rn 4 rfl ?_
       exact rt h rfl
      refine rn 5 rfl ?_
      refine spO 29 h rfl (fun hb14 h=>?_) (fun hb14 h=>?_)
      ·refine rn 4 rfl ?_
       refine ixl h rfl rfl (fun x15 hx16 h=>?_)
       refine rn 5 rfl ?_
       refine spC h rfl (fun hb17 h=>?_) (fun hb17 h=>?_)
       ·refine rn 4 rfl ?_
        exact rt h rfl
       refine rn 1 rfl ?_
       exact jX () h (gr [0] rfl (hB rfl rfl rfl .nil) rfl)
      refine rn 12 rfl ?_
      exact jX () h (gr [0] rfl (hB rfl rfl rfl .nil) rfl)
     intro _ h
     refine rn 1 rfl ?_
     exact jX () h (gr [0] rfl (hB rfl rfl rfl .nil) rfl)
    refine rn 13 rfl ?_
    refine spO 29 h rfl (fun hb18 h=>?_) (fun hb18 h=>?_)
    ·refine rn 4 rfl ?_
     refine ixl h rfl rfl (fun x19 hx20 h=>?_)
     refine rn 5 rfl ?_
     refine spC h rfl (fun hb21 h=>?_) (fun hb21 h=>?_)
     ·refine rn 4 rfl ?_
      exact rt h rfl
     refine rn 2 rfl ?_
     exact jX () h (gr [0] rfl (hB rfl rfl rfl .nil) rfl)
    refine rn 13 rfl ?_
    exact jX () h (gr [0] rfl (hB rfl rfl rfl .nil) rfl)
   intro _ h
   refine rn 5 rfl ?_
   exact jX (w64 (n6+1)) (hk1 _ h) (gr [0] rfl (hB rfl rfl rfl .nil) rfl)
  replace h:=RG.f h hb7
  unfold M92_L1 at h
  refine rn 1 rfl ?_
  exact jX () h (g0 rfl rfl)
 intro _ h
 refine rn 4 rfl ?_
 exact rt h rfl
theorem W91(F:Nat)(a1:Treach_checker)(a2:(List TFunc))(r:Int)(h:M91 F a1 a2=some r):PureG (gl mx) Tryz.prog 91 [(V.agg (encTreach_checker a1)),(V.lst 4 (a2.map encTFunc))] (iV r):=by
 refine pin (fun r=>(iV r)) r rfl Tryz.func91 rfl rfl rfl rfl rfl (fun w0 m0 hg=>?_)
 unfold M91 at h
 refine rn 13 rfl ?_
 refine ln rfl rfl ?_
 refine rn 2 rfl ?_
 refine jK h (fun _:Unit=>(⟨[],[],0⟩:St)) (fun k3 (_:Unit)=>k3=some r) (fun k3 h=>?_) ?_
 ·refine rn 1 rfl ?_
  refine wl (A:=a2) 1 rfl (fun hA33=>?_)
  refine lC (fun(p:(List UInt8)×Int)=>(⟨[(2,(V.ptr 0 4 0 0)),(5,(sV (p.1))),(13,(V.lst 4 (a2.map encTFunc))),(14,(iV ((a2.length:Nat):Int))),(15,(iV (p.2)))],[(0,(Ob.arr 117 4 [(encTreach_checker a1)]))],1⟩:St)) (fun n p=>RG a2 (fun tl nn=>M91_L1 F a1 k3 tl nn p.1=some r) n p.2) (fun p h=>RG.zero h) (a2.length+1) (([]:List UInt8),0) (RG.start h) (gr [0] rfl (hB rfl rfl rfl .nil) rfl) (fun n p h=>?_)
  obtain⟨s6,n7⟩:=p
  refine rn 5 rfl ?_
  refine spL rfl (fun hb8=>?_) (fun hb8=>?_)
  ·obtain⟨x11,tl,hx12,h,hk1⟩:=RG.t hA33 h hb8
   unfold M91_L1 at h
   refine rn 2 rfl ?_
   refine jK h (fun(p:(List UInt8))=>(⟨[(2,(V.ptr 0 4 0 0)),(5,(sV p)),(13,(V.lst 4 (a2.map encTFunc))),(14,(iV ((a2.length:Nat):Int))),(15,(iV n7))],[(0,(Ob.arr 117 4 [(encTreach_checker a1)]))],1⟩:St)) (fun k9 p=>k9 p=some r) (fun k9 h=>?_) ?_
   ·refine rn 4 rfl ?_
    refine ixh hx12 rfl rfl ?_
    refine rn 13 rfl ?_
    refine cl h rfl rfl rfl (W125 _ _ _ _) rfl (fun y13 hx14 h=>?_)
    refine rn 7 rfl ?_
    refine spC h rfl (fun hb15 h=>?_) (fun hb15 h=>?_)
    ·refine rn 5 rfl ?_
     exact rt h rfl
    refine rn 13 rfl ?_
    refine cl h rfl rfl rfl (W126 _ _) rfl (fun y16 hx17 h=>?_)
    refine rn 3 rfl ?_
    refine spC h rfl (fun hb18 h=>?_) (fun hb18 h=>?_)
    ·refine rn 4 rfl ?_
     exact rt h rfl
    refine rn 4 rfl ?_
    refine ln rfl rfl ?_
    refine rn 3 rfl ?_
    refine spC h rfl (fun hb19 h=>?_) (fun hb19 h=>?_)
    ·refine rn 4 rfl ?_
     exact rt h rfl
    refine rn 7 rfl ?_
    refine ln rfl rfl ?_
    refine rn 2 rfl ?_
    refine jK h (fun _:Unit=>(⟨[(2,(V.ptr 0 4 0 0)),(5,(sV x11.Name)),(7,(V.ptr 1 4 0 0)),(13,(V.lst 4 (a2.map encTFunc))),(14,(iV ((a2.length:Nat):Int))),(15,(iV n7))],[(0,(Ob.arr 117 4 [(encTreach_checker a1)])),(1,(Ob.arr 71 4 [(encTFunc x11)]))],2⟩:St)) (fun k20 (_:Unit)=>k20=some r) (fun k20 h=>?_) ?_
    ·refine rn 1 rfl ?_
     refine wl (A:=x11.Calls) 38 rfl (fun hA29=>?_)
     refine lC (fun(p:Int)=>(⟨[(2,(V.ptr 0 4 0 0)),(5,(sV x11.Name)),(7,(V.ptr 1 4 0 0)),(13,(V.lst 4 (a2.map encTFunc))),(14,(iV ((a2.length:Nat):Int))),(15,(iV n7)),(42,(V.lst 4 (x11.Calls.map encTCall))),(43,(iV ((x11.Calls.length:Nat):Int))),(44,(iV p))],[(0,(Ob.arr 117 4 [(encTreach_checker a1)])),(1,(Ob.arr 71 4 [(encTFunc x11)]))],2⟩:St)) (fun n p=>RG x11.Calls (fun tl nn=>M91_L2 F a1 k20 tl=some r) n p) (fun p h=>RG.zero h) (x11.Calls.length+1) 0 (RG.start h) (gr [0,1] rfl (hB rfl rfl rfl (hB rfl rfl rfl .nil)) rfl) (fun n n22 h=>?_)
     refine rn 5 rfl ?_
     refine spL rfl (fun hb23=>?_) (fun hb23=>?_)
     ·obtain⟨x24,tl,hx25,h,hk2⟩:=RG.t hA29 h hb23
      unfold M91_L2 at h
      refine rn 5 rfl ?_
      refine ixh hx25 rfl rfl ?_
      refine rn 8 rfl ?_
      refine cl h rfl rfl rfl (W127 _ _ _) rfl (fun y26 hx27 h=>?_)
      refine rn 7 rfl ?_
      refine spC h rfl (fun hb28 h=>?_) (fun hb28 h=>?_)
      ·refine rn 5 rfl ?_
       exact rt h rfl
      refine rn 6 rfl ?_
      exact jX (w64 (n22+1)) (hk2 _ h) (gr [0,1] rfl (hB rfl rfl rfl (hB rfl rfl rfl .nil)) rfl)
     replace h:=RG.f h hb23
     unfold M91_L2 at h
     refine rn 1 rfl ?_
     exact jX () h (gr [0,1] rfl (hB rfl rfl rfl (hB rfl rfl rfl .nil)) rfl)
    intro _ h
    refine rn 7 rfl ?_
    refine cl h rfl rfl rfl (W92 _ _ _ _) rfl (fun y30 hx31 h=>?_)
    refine rn 7 rfl ?_
    refine spC h rfl (fun hb32 h=>?_) (fun hb32 h=>?_)
    ·refine rn 5 rfl ?_
     exact rt h rfl
    refine rn 2 rfl ?_
    exact jX x11.Name h (gr [0] rfl (hB rfl rfl rfl .nil) rfl)
   intro s10 h
   refine rn 4 rfl ?_
   exact jX (s10,(w64 (n7+1))) (hk1 _ h) (gr [0] rfl (hB rfl rfl rfl .nil) rfl)
  replace h:=RG.f h hb8
  unfold M91_L1 at h
  refine rn 1 rfl ?_
  exact jX () h (g0 rfl rfl)
 intro _ h
 refine rn 4 rfl ?_
 exact rt h rfl
theorem W61(F:Nat)(a1:Treach_checker)(a2:TGraph)(r:Int)(h:M61 F a1 a2=some r):PureG (gl mx) Tryz.prog 61 [(V.agg (encTreach_checker a1)),(V.agg (encTGraph a2))] (iV r):=by
 refine pin (fun r=>(iV r)) r rfl Tryz.func61 rfl rfl rfl rfl rfl (fun w0 m0 hg=>?_)
 unfold M61 at h
 refine rn 11 rfl ?_
 refine ln rfl rfl ?_
 refine rn 2 rfl ?_
 refine spO 12 h rfl (fun hb3 h=>?_) (fun hb3 h=>?_)
 ·refine rn 17 rfl ?_
  exact rt h rfl
 refine rn 2 rfl ?_
 refine ln rfl rfl ?_
 refine rn 3 rfl ?_
 refine spO 18 h rfl (fun hb4 h=>?_) (fun hb4 h=>?_)
 ·refine rn 11 rfl ?_
  exact rt h rfl
 refine rn 2 rfl ?_
 refine ln rfl rfl ?_
 refine rn 3 rfl ?_
 refine spC h rfl (fun hb5 h=>?_) (fun hb5 h=>?_)
 ·refine rn 4 rfl ?_
  exact rt h rfl
 refine rn 7 rfl ?_
 refine cl h rfl rfl rfl (W89 _ _ _) rfl (fun y6 hx7 h=>?_)
 refine rn 7 rfl ?_
 refine spC h rfl (fun hb8 h=>?_) (fun hb8 h=>?_)
 ·refine rn 5 rfl ?_
  exact rt h rfl
 refine rn 7 rfl ?_
 refine cl h rfl rfl rfl (W90 _ _ _) rfl (fun y9 hx10 h=>?_)
 refine rn 7 rfl ?_
 refine spC h rfl (fun hb11 h=>?_) (fun hb11 h=>?_)
 ·refine rn 5 rfl ?_
  exact rt h rfl
 refine rn 7 rfl ?_
 refine cl h rfl rfl rfl (W91 _ _ _) rfl (fun y12 hx13 h=>?_)
 refine rn 7 rfl ?_
 refine spC h rfl (fun hb14 h=>?_) (fun hb14 h=>?_)
 ·refine rn 5 rfl ?_
  exact rt h rfl
 refine rn 8 rfl ?_
 refine cl h rfl rfl rfl (W92 _ _ _ _) rfl (fun y15 hx16 h=>?_)
 refine rn 2 rfl ?_
 exact rt h rfl
theorem W15(F:Nat)(a1:TGraph)(r:Int)(h:M15 F a1=some r):PureG (gl mx) Tryz.prog 15 [(V.agg (encTGraph a1))] (iV r):=by
 refine pin (fun r=>(iV r)) r rfl Tryz.func15 rfl rfl rfl rfl rfl (fun w0 m0 hg=>?_)
 unfold M15 at h
 obtain⟨y2,hx3,h⟩:=bind_some h
 obtain⟨y4,hx5,h⟩:=bind_some h
 refine rn 6 rfl ?_
 refine dr mixed (vs 1 rfl (cD rfl rfl rfl rfl (W60 _ _ _ _ hx3) rfl (vs 1 rfl (cD rfl rfl rfl rfl (W61 _ _ _ _ hx5) rfl (vs 1 rfl .nil))))) (by kernel_rfl) ?_
 exact rt h rfl
set_option maxHeartbeats 4000000 in
theorem W5(F:Nat)(a1:(List UInt8))(r:(TGraph×Int×Int))(h:M5 F a1=some r):PureG (gl mx) Tryz.prog 5 [(sV a1)] (V.tup [(V.agg (encTGraph (r.1))),(iV (r.2.1)),(iV (r.2.2))]):=by
 refine pin (fun r=>(V.tup [(V.agg (encTGraph (r.1))),(iV (r.2.1)),(iV (r.2.2))])) r rfl Tryz.func5 rfl rfl rfl rfl rfl (fun w0 m0 hg=>?_)
 unfold M5 at h
 refine rn 13 rfl ?_
 refine spC h rfl (fun hb2 h=>?_) (fun hb2 h=>?_)
 ·refine rn 7 rfl ?_
  exact rt h rfl
 refine rn 11 rfl ?_
 refine cl h rfl rfl rfl (W11 _ _ _) rfl (fun y3 hx4 h=>?_)
 refine ln rfl rfl ?_
 refine rn 2 rfl ?_
 refine jK h (fun(p:Int×(List TIface)×(List TType)×(List TFunc)×(List (List UInt8)))=>(⟨[(2,(V.ptr 0 4 0 0)),(5,(V.ptr 1 5 0 0))],[(0,(Ob.arr 27 4 [[nV,nV,nV,nV]])),(1,(Ob.arr 39 5 [[(V.own 2 (p.2.1).length),(V.own 3 (p.2.2.1).length),(V.own 4 (p.2.2.2.1).length),(V.own 5 (p.2.2.2.2).length),(iV (p.1))]])),(2,(Ob.arr 56 2 ((p.2.1).map encTIface))),(3,(Ob.arr 61 2 ((p.2.2.1).map dencTType))),(4,(Ob.arr 71 4 ((p.2.2.2.1).map dencTFunc))),(5,(Ob.arr 9 1 ((p.2.2.2.2).map encS)))],6⟩:St)) (fun k5 p=>k5 p.1 p.2.1 p.2.2.1 p.2.2.2.1 p.2.2.2.2=some r) (fun k5 h=>?_) ?_
 ·refine rn 1 rfl ?_
  refine wl (A:=y3) 17 rfl (fun hA38=>?_)
  refine lC (fun(p:Int×Int×(List TIface)×(List TType)×(List TFunc)×(List (List UInt8)))=>(⟨[(2,(V.ptr 0 4 0 0)),(5,(V.ptr 1 5 0 0)),(17,(V.lst 1 (y3.map encS))),(18,(iV ((y3.length:Nat):Int))),(19,(iV (p.1)))],[(0,(Ob.arr 27 4 [[nV,nV,nV,nV]])),(1,(Ob.arr 39 5 [[(V.own 2 (p.2.2.1).length),(V.own 3 (p.2.2.2.1).length),(V.own 4 (p.2.2.2.2.1).length),(V.own 5 (p.2.2.2.2.2).length),(iV (p.2.1))]])),(2,(Ob.arr 56 2 ((p.2.2.1).map encTIface))),(3,(Ob.arr 61 2 ((p.2.2.2.1).map dencTType))),(4,(Ob.arr 71 4 ((p.2.2.2.2.1).map dencTFunc))),(5,(Ob.arr 9 1 ((p.2.2.2.2.2).map encS)))],6⟩:St)) (fun n p=>RG y3 (fun tl nn=>M5_L1 F k5 tl nn p.2.1 p.2.2.1 p.2.2.2.1 p.2.2.2.2.1 p.2.2.2.2.2=some r) n p.1) (fun p h=>RG.zero h) (y3.length+1) (0,0,([]:List TIface),([]:List TType),([]:List TFunc),([]:List (List UInt8))) (RG.start h) (Ghost.trans (ghost_nilC 1 56 2 (Ob.arr 39 5 [[(V.own 2 0),nV,nV,nV,(iV 0)]]) (ObSub.box (.cons Sub.mkNil (.cons Sub.keepNil (.cons Sub.keepNil (.cons Sub.keepNil (.cons Sub.keepNil .nil))))))) (Ghost.trans (ghost_nilC 1 61 2 (Ob.arr 39 5 [[(V.own 2 0),(V.own 3 0),nV,nV,(iV 0)]]) (ObSub.box (.cons Sub.keepNil (.cons Sub.mkNil (.cons Sub.keepNil (.cons Sub.keepNil (.cons Sub.keepNil .nil))))))) (Ghost.trans (ghost_nilC 1 71 4 (Ob.arr 39 5 [[(V.own 2 0),(V.own 3 0),(V.own 4 0),nV,(iV 0)]]) (ObSub.box (.cons Sub.keepNil (.cons Sub.keepNil (.cons Sub.mkNil (.cons Sub.keepNil (.cons Sub.keepNil .nil))))))) (Ghost.trans (ghost_nilC 1 9 1 (Ob.arr 39 5 [[(V.own 2 0),(V.own 3 0),(V.own 4 0),(V.own 5 0),(iV 0)]]) (ObSub.box (.cons Sub.keepNil (.cons Sub.keepNil (.cons Sub.keepNil (.cons Sub.mkNil (.cons Sub.keepNil .nil))))))) (ghost_ren 6 (fun i=>([0,1,2,3,4,5]:List Nat).getD i 0) _ _ (by decide) (EnvSub.get (.cons (Sub.ptr rfl rfl) (.cons (Sub.ptr rfl rfl) (.cons (Sub.imm (Imm.lst _ _)) (.cons (Sub.imm (Imm.con _)) (.cons (Sub.imm (Imm.con _)) .nil)))))) (HpSub.get (.cons rfl (ObSub.box (.cons (Sub.imm (Imm.con _)) (.cons (Sub.imm (Imm.con _)) (.cons (Sub.imm (Imm.con _)) (.cons (Sub.imm (Imm.con _)) .nil))))) (.cons rfl (ObSub.box (.cons (Sub.ownE rfl rfl (by simp)) (.cons (Sub.ownE rfl rfl (by simp)) (.cons (Sub.ownE rfl rfl (by simp)) (.cons (Sub.ownE rfl rfl (by simp)) (.cons (Sub.imm (Imm.con _)) .nil)))))) (.cons rfl (ObSub.rows (rows_imm imms_encTIface)) (.cons rfl (ObSub.rowsK RK.h) (.cons rfl (ObSub.rowsK RK.h) (.cons rfl (ObSub.rows (rows_imm imms_encS)) .nil))))))) rfl))))) (fun n p h=>?_)
  obtain⟨n17,n18,l19,l20,l21,l22⟩:=p
  refine rn 5 rfl ?_
  refine spL rfl (fun hb23=>?_) (fun hb23=>?_)
  ·obtain⟨x30,tl,hx31,h,hk1⟩:=RG.t hA38 h hb23
   unfold M5_L1 at h
   refine rn 2 rfl ?_
   refine jK h (fun(p:Int×(List TIface)×(List TType)×(List TFunc)×(List (List UInt8)))=>(⟨[(2,(V.ptr 0 4 0 0)),(5,(V.ptr 1 5 0 0)),(17,(V.lst 1 (y3.map encS))),(18,(iV ((y3.length:Nat):Int))),(19,(iV n17))],[(0,(Ob.arr 27 4 [[nV,nV,nV,nV]])),(1,(Ob.arr 39 5 [[(V.own 2 (p.2.1).length),(V.own 3 (p.2.2.1).length),(V.own 4 (p.2.2.2.1).length),(V.own 5 (p.2.2.2.2).length),(iV (p.1))]])),(2,(Ob.arr 56 2 ((p.2.1).map encTIface))),(3,(Ob.arr 61 2 ((p.2.2.1).map dencTType))),(4,(Ob.arr 71 4 ((p.2.2.2.1).map dencTFunc))),(5,(Ob.arr 9 1 ((p.2.2.2.2).map encS)))],6⟩:St)) (fun k24 p=>k24 p.1 p.2.1 p.2.2.1 p.2.2.2.1 p.2.2.2.2=some r) (fun k24 h=>?_) ?_
   ·refine rn 4 rfl ?_
    refine ixh hx31 rfl rfl ?_
    refine rn 7 rfl ?_
    refine cl h rfl rfl rfl (W12 _ _) rfl (fun y32 hx33 h=>?_)
    refine rn 5 rfl ?_
    refine ln rfl rfl ?_
    refine rn 2 rfl ?_
    refine spO 29 h rfl (fun hb34 h=>?_) (fun hb34 h=>?_)
    ·obtain⟨y35,hx36,h⟩:=bind_some h
     refine rn 2 rfl ?_
     refine aops_mcallS (bV (y35.1)) [(V.ptr 1 5 0 0),(V.lst 1 (y32.map encS))] (fun i=>([1,2,3,4,5]:List Nat).getD i 0) (fun i=>([1,2,3,4,5,6,7,8,9]:List Nat).getD i 0) 6 10 [(1,(Ob.arr 39 5 [[(V.own 6 (y35.2.2.1).length),(V.own 7 (y35.2.2.2.1).length),(V.own 8 (y35.2.2.2.2.1).length),(V.own 9 (y35.2.2.2.2.2).length),(iV (y35.2.1))]])),(2,Ob.dead),(3,Ob.dead),(4,Ob.dead),(5,Ob.dead),(6,(Ob.arr 56 2 ((y35.2.2.1).map encTIface))),(7,(Ob.arr 61 2 ((y35.2.2.2.1).map dencTType))),(8,(Ob.arr 71 4 ((y35.2.2.2.2.1).map dencTFunc))),(9,(Ob.arr 9 1 ((y35.2.2.2.2.2).map encS)))] fOk13 (wants_some (c:=true) (b:=true) 29 rfl rfl rfl) rfl (evm_cons rfl (evm_cons rfl evm_nil)) (.cons (Sub.ptr rfl rfl) (.cons (Sub.imm (Imm.lst _ _)) .nil)) (.cons rfl (ObSub.box (.cons (Sub.own rfl rfl) (.cons (Sub.own rfl rfl) (.cons (Sub.own rfl rfl) (.cons (Sub.own rfl rfl) (.cons (Sub.imm (Imm.con _)) .nil)))))) (.cons rfl (ObSub.rows (rows_imm imms_encTIface)) (.cons rfl (ObSub.rowsK RK.h) (.cons rfl (ObSub.rowsK RK.h) (.cons rfl (ObSub.rows (rows_imm imms_encS)) .nil))))) (W13 F y32 n18 l19 l20 l21 l22 y35 hx36) rfl rfl rfl rfl (Sub.immT (Imm.con _)) (.cons rfl (ObSub.box (.cons (Sub.ownT rfl rfl) (.cons (Sub.ownT rfl rfl) (.cons (Sub.ownT rfl rfl) (.cons (Sub.ownT rfl rfl) (.cons (Sub.immT (Imm.con _)) .nil)))))) (.cons rfl ObSub.deadT (.cons rfl ObSub.deadT (.cons rfl ObSub.deadT (.cons rfl ObSub.deadT (.cons rfl (ObSub.rowsT (rows_imm imms_encTIface)) (.cons rfl (ObSub.rowsTK RK.h) (.cons rfl (ObSub.rowsTK RK.h) (.cons rfl (ObSub.rowsT (rows_imm imms_encS)) .nil))))))))) _ rfl ?_
     refine fo (rn 3 rfl ?_)
     refine spC h rfl (fun hb37 h=>?_) (fun hb37 h=>?_)
     ·refine rn 8 rfl ?_
      exact rt h rfl
     refine rn 2 rfl ?_
     exact jX ((y35.2.1),(y35.2.2.1),(y35.2.2.2.1),(y35.2.2.2.2.1),(y35.2.2.2.2.2)) h (gr [0,1,6,7,8,9] rfl (hB rfl rfl rfl (hB rfl rfl rfl (hR rfl rfl (hR rfl rfl (hR rfl rfl (hR rfl rfl .nil)))))) rfl)
    refine rn 9 rfl ?_
    exact jX (n18,l19,l20,l21,l22) h (gr [0,1,2,3,4,5] rfl (hB rfl rfl rfl (hB rfl rfl rfl (hR rfl rfl (hR rfl rfl (hR rfl rfl (hR rfl rfl .nil)))))) rfl)
   rintro⟨n25,l26,l27,l28,l29⟩ h
   refine rn 4 rfl ?_
   exact jX ((w64 (n17+1)),n25,l26,l27,l28,l29) (hk1 _ h) (gr [0,1,2,3,4,5] rfl (hB rfl rfl rfl (hB rfl rfl rfl (hR rfl rfl (hR rfl rfl (hR rfl rfl (hR rfl rfl .nil)))))) rfl)
  replace h:=RG.f h hb23
  unfold M5_L1 at h
  refine rn 1 rfl ?_
  exact jX (n18,l19,l20,l21,l22) h (gr [0,1,2,3,4,5] rfl (hB rfl rfl rfl (hB rfl rfl rfl (hR rfl rfl (hR rfl rfl (hR rfl rfl (hR rfl rfl .nil)))))) rfl)
 rintro⟨n6,l7,l8,l9,l10⟩ h
 obtain⟨y39,hx40,h⟩:=bind_some h
 refine rn 6 rfl ?_
 refine aops_mcallS (bV (y39.1)) [(V.ptr 1 5 0 0)] (fun i=>([1,2,3,4,5]:List Nat).getD i 0) (fun i=>([1,2,3,4,5]:List Nat).getD i 0) 6 6 [(1,(Ob.arr 39 5 [[(V.lst 2 ((y39.2.1).map encTIface)),(V.lst 2 ((y39.2.2.1).map encTType)),(V.lst 4 ((y39.2.2.2.1).map encTFunc)),(V.own 5 (y39.2.2.2.2).length),(iV n6)]])),(2,Ob.dead),(3,Ob.dead),(4,Ob.dead),(5,(Ob.arr 9 1 ((y39.2.2.2.2).map encS)))] fOk14 wants_none rfl (evm_cons rfl evm_nil) (.cons (Sub.ptr rfl rfl) .nil) (.cons rfl (ObSub.box (.cons (Sub.own rfl rfl) (.cons (Sub.own rfl rfl) (.cons (Sub.own rfl rfl) (.cons (Sub.own rfl rfl) (.cons (Sub.imm (Imm.con _)) .nil)))))) (.cons rfl (ObSub.rows (rows_imm imms_encTIface)) (.cons rfl (ObSub.rowsK RK.h) (.cons rfl (ObSub.rowsK RK.h) (.cons rfl (ObSub.rows (rows_imm imms_encS)) .nil))))) (W14 F n6 l7 l8 l9 l10 y39 hx40) rfl rfl rfl rfl (Sub.immT (Imm.con _)) (.cons rfl (ObSub.box (.cons (Sub.immT (Imm.lst _ _)) (.cons (Sub.immT (Imm.lst _ _)) (.cons (Sub.immT (Imm.lst _ _)) (.cons (Sub.ownT rfl rfl) (.cons (Sub.immT (Imm.con _)) .nil)))))) (.cons rfl ObSub.deadT (.cons rfl ObSub.deadT (.cons rfl ObSub.deadT (.cons rfl (ObSub.rowsT (rows_imm imms_encS)) .nil))))) _ rfl ?_
 refine fo (rn 2 rfl ?_)
 refine spC h rfl (fun hb41 h=>?_) (fun hb41 h=>?_)
 ·refine rn 7 rfl ?_
  exact rt h rfl
 obtain⟨y42,hx43,h⟩:=bind_some h
 refine rn 8 rfl ?_
 refine aops_lend_call (iV y42) [(V.agg [(V.lst 2 ((y39.2.1).map encTIface)),(V.lst 2 ((y39.2.2.1).map encTType)),(V.lst 4 ((y39.2.2.2.1).map encTFunc)),(V.lst 1 ((y39.2.2.2.2).map encS))])] fOk15 (ghost_frzV 5 47 (V.agg [(V.lst 2 ((y39.2.1).map encTIface)),(V.lst 2 ((y39.2.2.1).map encTType)),(V.lst 4 ((y39.2.2.2.1).map encTFunc)),(V.lst 1 ((y39.2.2.2.2).map encS))]) rfl (rows_imm imms_encS) rfl (Sub.agg (.cons Sub.keep (.cons Sub.keep (.cons Sub.keep (.cons (Sub.frzAll (rows:=(y39.2.2.2.2).map encS) (List.length_map ..).symm) .nil)))))) (Flat.con _) wants_none (evm_cons rfl evm_nil) (.cons (Imm.agg (.cons (Imm.lst _ _) (.cons (Imm.lst _ _) (.cons (Imm.lst _ _) (.cons (Imm.lst _ _) .nil))))) .nil) (W15 F (TGraph.mk (y39.2.1) (y39.2.2.1) (y39.2.2.2.1) (y39.2.2.2.2)) y42 hx43) rfl ?_
 refine fo (rn 7 rfl ?_)
 refine spC h rfl (fun hb44 h=>?_) (fun hb44 h=>?_)
 ·refine rn 8 rfl ?_
  exact rt h rfl
 refine rn 11 rfl ?_
 refine awp_ghost (ghost_frzC 5 0 (Ob.arr 27 4 [[(V.lst 2 ((y39.2.1).map encTIface)),(V.lst 2 ((y39.2.2.1).map encTType)),(V.lst 4 ((y39.2.2.2.1).map encTFunc)),(V.lst 1 ((y39.2.2.2.2).map encS))]]) rfl (rows_imm imms_encS) (ObSub.box (.cons Sub.keep (.cons Sub.keep (.cons Sub.keep (.cons (Sub.frzAll (rows:=(y39.2.2.2.2).map encS) (List.length_map ..).symm) .nil)))))) ?_
 refine fa ?_
 exact rt h rfl
theorem W63(F:Nat)(a1:(List (List UInt8)))(a2:(List UInt8))(a3:Bool)(a4:List TIface)(a5:List TType)(a6:List TFunc)(a7:List (List UInt8))(r:(Bool×(List TFunc)))(h:M63 F a1 a2 a3 a4 a5 a6 a7=some r):MutG (gl mx) Tryz.prog 63 [(V.ptr 0 6 0 0),(V.lst 1 (a1.map encS))] 5 [(0,(Ob.arr 48 6 [[(V.own 1 a4.length),(V.own 2 a5.length),(V.own 3 a6.length),(V.own 4 a7.length),(sV a2),(bV a3)]])),(1,(Ob.arr 56 2 (a4.map encTIface))),(2,(Ob.arr 61 2 (a5.map dencTType))),(3,(Ob.arr 71 4 (a6.map dencTFunc))),(4,(Ob.arr 9 1 (a7.map encS)))] (resV [(bV (r.1))]) 5 [(0,(Ob.arr 48 6 [[(V.own 1 a4.length),(V.own 2 a5.length),(V.own 3 (r.2).length),(V.own 4 a7.length),(sV a2),(bV a3)]])),(1,(Ob.arr 56 2 (a4.map encTIface))),(2,(Ob.arr 61 2 (a5.map dencTType))),(3,(Ob.arr 71 4 ((r.2).map dencTFunc))),(4,(Ob.arr 9 1 (a7.map encS)))]:=by
 refine mut_enter Tryz.func63 rfl rfl (l:=[.tmp 4]) rfl rfl [(0,(V.ptr 0 6 0 0)),(1,(V.lst 1 (a1.map encS)))] rfl (fun w0 m0 β0 hg=>en ?_)
 unfold M63 at h
 obtain⟨x60,hx61,h⟩:=bind_some h
 refine rn 5 rfl ?_
 refine dr mixed (vs 12 rfl (oD (a:=a6) hx61 rfl rfl rfl rfl (vs 1 rfl .nil))) (by kernel_rfl) ?_
 refine rn 4 rfl ?_
 refine ixl h rfl rfl (fun x62 hx63 h=>?_)
 refine rn 3 rfl ?_
 refine spC h rfl (fun hb64 h=>?_) (fun hb64 h=>?_)
 ·refine rn 4 rfl ?_
  refine ln rfl rfl ?_
  refine rn 2 rfl ?_
  refine spC h rfl (fun hb65 h=>?_) (fun hb65 h=>?_)
  ·refine rn 4 rfl ?_
   replace h:=Option.some.inj h
   subst h
   exact wR ⟨.inl rfl,[(4,(bV false))],(gr [0,1,2,3,4] rfl (hB rfl rfl rfl (hR rfl rfl (hR rfl rfl (hR rfl rfl (hR rfl rfl .nil))))) rfl),(.cons (.tmp rfl) .nil)⟩
  obtain⟨x66,hx67,h⟩:=bind_some h
  refine rn 2 rfl ?_
  refine ck h (fun hc68 h=>?_)
  refine awp_ghost ghost_res ?_
  refine awp_ghost ghost_res ?_
  refine fa ?_
  refine dr mixed (vs 4 rfl (xD (OD.mk [(31,(V.ptr 3 4 (w64 (((a6.length:Nat):Int) - 1)).toNat 3))] [(3,(Ob.arr 71 4 (a6.map dencTFunc))),(5,Ob.res)] [(32,(V.own 5 x60.Makes.length))] [(3,(Ob.arr 71 4 (setC (a6.map dencTFunc) ((w64 (((a6.length:Nat):Int) - 1)).toNat) (dencTFunc x60) 3 (V.own 5 x60.Makes.length)))),(5,(Ob.arr 9 1 (x60.Makes.map encS)))]) ⟨⟨rfl,trivial⟩,⟨rfl,rfl,trivial⟩⟩ (by exact fun S hn h hh=>aops_load_takeS_at 5 rfl hn hh.2.1 dencTFunc encS rfl tC25 wants_none h.1 hh.1 (idx_some hx61).2 rfl rfl (aops_nil ⟨rfl,rfl⟩)) rfl (vs 1 rfl (iD hx67 rfl rfl rfl (vs 1 rfl (xD (OD.mk [(35,(sV x66))] [] [(36,(V.lst 1 (([x66]:List (List UInt8)).map encS)))] []) ⟨⟨rfl,trivial⟩,trivial⟩ (by exact fun S hn h hh=>aops_buildSlice_imm [(0,(sV x66))] [[(sV x66)]] tEl25 tZ9 wants_none rfl rfl rfl rfl (evp_cons h.1 evp_nil) rfl rfl (by simp) (imms_rows (.cons (.cons (Imm.con _) .nil) .nil)) rfl (aops_nil ⟨rfl,rfl⟩)) rfl (xD (OD.mk [(32,(V.own 5 x60.Makes.length)),(36,(V.lst 1 (([x66]:List (List UInt8)).map encS)))] [(5,(Ob.arr 9 1 (x60.Makes.map encS))),(6,Ob.res)] [(37,(V.own 6 (x60.Makes++([x66]:List (List UInt8))).length))] [(6,(Ob.arr 9 1 ((x60.Makes++([x66]:List (List UInt8))).map encS))),(5,Ob.dead)]) ⟨⟨rfl,rfl,trivial⟩,⟨rfl,rfl,trivial⟩⟩ (by exact fun S hn h hh=>aops_append_at 6 rfl hn hh.2.1 (([x66]:List (List UInt8)).map encS) ((x60.Makes++([x66]:List (List UInt8))).map encS) tEl25 tIsSl25 rfl rfl wants_none h.1 hh.1 (by simp) h.2.1 (.lst (rows_one one_encS)) (map_snoc encS x60.Makes ([x66]:List (List UInt8))) (List.length_map ..) hc68 rfl (aops_nil ⟨rfl,rfl⟩)) rfl (vs 2 rfl (xD (OD.mk [(39,(V.ptr 3 4 (w64 (((a6.length:Nat):Int) - 1)).toNat 3)),(37,(V.own 6 (x60.Makes++([x66]:List (List UInt8))).length))] [(3,(Ob.arr 71 4 (setC (a6.map dencTFunc) ((w64 (((a6.length:Nat):Int) - 1)).toNat) (dencTFunc x60) 3 (V.own 5 x60.Makes.length)))),(6,(Ob.arr 9 1 ((x60.Makes++([x66]:List (List UInt8))).map encS)))] [] [(3,(Ob.arr 71 4 ((a6.set ((w64 (((a6.length:Nat):Int) - 1)).toNat) ({ x60 with Makes:=(x60.Makes++([x66]:List (List UInt8))) }:TFunc)).map dencTFunc))),(6,Ob.dead)]) ⟨⟨rfl,rfl,trivial⟩,⟨rfl,rfl,trivial⟩⟩ (by exact fun S hn h hh=>aops_store_untakeS dencTFunc encS (fun z=>(imms_encS z).keep) (a6.set ((w64 (((a6.length:Nat):Int) - 1)).toNat) ({ x60 with Makes:=(x60.Makes++([x66]:List (List UInt8))) }:TFunc)) tS25 wants_none h.1 h.2.1 hh.1 (Nat.le_of_ble_eq_true rfl) (by simpa using idx_lt hx61) hh.2.1 (by simp) rfl (by rw[List.map_set];rfl) (aops_nil ⟨rfl,rfl⟩)) rfl .nil))))))))) (by kernel_rfl) ?_
  refine rn 4 rfl ?_
  replace h:=Option.some.inj h
  subst h
  exact wR ⟨.inl rfl,[(4,(bV true))],(ghost_ren 5 (fun i=>([0,1,2,3,4]:List Nat).getD i 0) _ _ (by decide) (EnvSub.get (.cons (Sub.imm (Imm.con _)) .nil)) (HpSub.get (.cons rfl (ObSub.box (.cons (Sub.own rfl rfl) (.cons (Sub.own rfl rfl) (.cons (Sub.ownE rfl rfl (by simp)) (.cons (Sub.own rfl rfl) (.cons (Sub.imm (Imm.con _)) (.cons (Sub.imm (Imm.con _)) .nil))))))) (.cons rfl (ObSub.rows (rows_imm imms_encTIface)) (.cons rfl (ObSub.rowsK RK.h) (.cons rfl (ObSub.rowsK RK.h) (.cons rfl (ObSub.rows (rows_imm imms_encS)) .nil)))))) rfl),(.cons (.tmp rfl) .nil)⟩
 refine rn 15 rfl ?_
 refine ixl h rfl rfl (fun x69 hx70 h=>?_)
 refine rn 3 rfl ?_
 refine jK h (fun(p:Int×Int)=>(⟨[(1,(V.lst 1 (a1.map encS))),(5,(V.ptr 3 4 (w64 (((a6.length:Nat):Int) - 1)).toNat 0)),(6,(V.ptr 5 4 0 0)),(7,(iV (p.1)))],[(0,(Ob.arr 48 6 [[(V.own 1 a4.length),(V.own 2 a5.length),(V.own 3 a6.length),(V.own 4 a7.length),(sV a2),(bV a3)]])),(1,(Ob.arr 56 2 (a4.map encTIface))),(2,(Ob.arr 61 2 (a5.map dencTType))),(3,(Ob.arr 71 4 (a6.map dencTFunc))),(4,(Ob.arr 9 1 (a7.map encS))),(5,(Ob.arr 74 4 [[(iV (p.2)),(sV ([]:List UInt8)),(sV ([]:List UInt8)),(sV ([]:List UInt8))]]))],6⟩:St)) (fun k71 p=>k71 p.1 p.2=some r) (fun k71 h=>?_) ?_
 ·refine spC h rfl (fun hb74 h=>?_) (fun hb74 h=>?_)
  ·refine rn 5 rfl ?_
   exact jX (3,2) h (gr [0,1,2,3,4,5] rfl (hB rfl rfl rfl (hR rfl rfl (hR rfl rfl (hR rfl rfl (hR rfl rfl (hB rfl rfl rfl .nil)))))) rfl)
  refine rn 1 rfl ?_
  exact jX (2,1) h (gr [0,1,2,3,4,5] rfl (hB rfl rfl rfl (hR rfl rfl (hR rfl rfl (hR rfl rfl (hR rfl rfl (hB rfl rfl rfl .nil)))))) rfl)
 rintro⟨n72,n73⟩ h
 refine rn 4 rfl ?_
 refine ln rfl rfl ?_
 refine rn 3 rfl ?_
 refine spO 50 h rfl (fun hb75 h=>?_) (fun hb75 h=>?_)
 ·refine rn 1 rfl ?_
  refine ln rfl rfl ?_
  refine rn 4 rfl ?_
  refine spO 56 h rfl (fun hb76 h=>?_) (fun hb76 h=>?_)
  ·refine rn 2 rfl ?_
   refine ixl h rfl rfl (fun x77 hx78 h=>?_)
   refine rn 6 rfl ?_
   refine spC h rfl (fun hb79 h=>?_) (fun hb79 h=>?_)
   ·refine rn 4 rfl ?_
    replace h:=Option.some.inj h
    subst h
    exact wR ⟨.inl rfl,[(4,(bV false))],(gr [0,1,2,3,4] rfl (hB rfl rfl rfl (hR rfl rfl (hR rfl rfl (hR rfl rfl (hR rfl rfl .nil))))) rfl),(.cons (.tmp rfl) .nil)⟩
   refine rn 4 rfl ?_
   refine ixl h rfl rfl (fun x80 hx81 h=>?_)
   refine rn 10 rfl ?_
   refine jK h (fun(p:(List UInt8))=>(⟨[(1,(V.lst 1 (a1.map encS))),(5,(V.ptr 3 4 (w64 (((a6.length:Nat):Int) - 1)).toNat 0)),(6,(V.ptr 5 4 0 0)),(7,(iV n72))],[(0,(Ob.arr 48 6 [[(V.own 1 a4.length),(V.own 2 a5.length),(V.own 3 a6.length),(V.own 4 a7.length),(sV a2),(bV a3)]])),(1,(Ob.arr 56 2 (a4.map encTIface))),(2,(Ob.arr 61 2 (a5.map dencTType))),(3,(Ob.arr 71 4 (a6.map dencTFunc))),(4,(Ob.arr 9 1 (a7.map encS))),(5,(Ob.arr 74 4 [[(iV n73),(sV x80),(sV p),(sV ([]:List UInt8))]]))],6⟩:St)) (fun k82 p=>k82 p=some r) (fun k82 h=>?_) ?_
   ·refine spC h rfl (fun hb84 h=>?_) (fun hb84 h=>?_)
    ·refine rn 2 rfl ?_
     refine ixl h rfl rfl (fun x85 hx86 h=>?_)
     refine rn 4 rfl ?_
     exact jX x85 h (gr [0,1,2,3,4,5] rfl (hB rfl rfl rfl (hR rfl rfl (hR rfl rfl (hR rfl rfl (hR rfl rfl (hB rfl rfl rfl .nil)))))) rfl)
    refine rn 1 rfl ?_
    exact jX ([]:List UInt8) h (gr [0,1,2,3,4,5] rfl (hB rfl rfl rfl (hR rfl rfl (hR rfl rfl (hR rfl rfl (hR rfl rfl (hB rfl rfl rfl .nil)))))) rfl)
   intro s83 h
   refine rn 4 rfl ?_
   refine ln rfl rfl ?_
   refine rn 3 rfl ?_
   refine jK h (fun(p:(List UInt8))=>(⟨[(5,(V.ptr 3 4 (w64 (((a6.length:Nat):Int) - 1)).toNat 0)),(6,(V.ptr 5 4 0 0))],[(0,(Ob.arr 48 6 [[(V.own 1 a4.length),(V.own 2 a5.length),(V.own 3 a6.length),(V.own 4 a7.length),(sV a2),(bV a3)]])),(1,(Ob.arr 56 2 (a4.map encTIface))),(2,(Ob.arr 61 2 (a5.map dencTType))),(3,(Ob.arr 71 4 (a6.map dencTFunc))),(4,(Ob.arr 9 1 (a7.map encS))),(5,(Ob.arr 74 4 [[(iV n73),(sV x80),(sV s83),(sV p)]]))],6⟩:St)) (fun k87 p=>k87 p=some r) (fun k87 h=>?_) ?_
   ·refine spC h rfl (fun hb89 h=>?_) (fun hb89 h=>?_)
    ·refine rn 4 rfl ?_
     refine ixl h rfl rfl (fun x90 hx91 h=>?_)
     refine rn 4 rfl ?_
     exact jX x90 h (gr [0,1,2,3,4,5] rfl (hB rfl rfl rfl (hR rfl rfl (hR rfl rfl (hR rfl rfl (hR rfl rfl (hB rfl rfl rfl .nil)))))) rfl)
    refine rn 1 rfl ?_
    exact jX ([]:List UInt8) h (gr [0,1,2,3,4,5] rfl (hB rfl rfl rfl (hR rfl rfl (hR rfl rfl (hR rfl rfl (hR rfl rfl (hB rfl rfl rfl .nil)))))) rfl)
   intro s88 h
   obtain⟨x92,hx93,h⟩:=bind_some h
   refine rn 1 rfl ?_
   refine ck h (fun hc94 h=>?_)
   refine awp_ghost ghost_res ?_
   refine awp_ghost ghost_res ?_
   refine fa ?_
   refine dr mixed (vs 4 rfl (xD (OD.mk [(88,(V.ptr 3 4 (w64 (((a6.length:Nat):Int) - 1)).toNat 2))] [(3,(Ob.arr 71 4 (a6.map dencTFunc))),(6,Ob.res)] [(89,(V.own 6 x92.Calls.length))] [(3,(Ob.arr 71 4 (setC (a6.map dencTFunc) ((w64 (((a6.length:Nat):Int) - 1)).toNat) (dencTFunc x92) 2 (V.own 6 x92.Calls.length)))),(6,(Ob.arr 74 4 (x92.Calls.map encTCall)))]) ⟨⟨rfl,trivial⟩,⟨rfl,rfl,trivial⟩⟩ (by exact fun S hn h hh=>aops_load_takeS_at 6 rfl hn hh.2.1 dencTFunc encTCall rfl tC69 wants_none h.1 hh.1 (idx_some hx93).2 rfl rfl (aops_nil ⟨rfl,rfl⟩)) rfl (vs 1 rfl (xD (OD.mk [(90,(V.agg [(iV n73),(sV x80),(sV s83),(sV s88)]))] [] [(91,(V.lst 4 (([(TCall.mk n73 x80 s83 s88)]:List TCall).map encTCall)))] []) ⟨⟨rfl,trivial⟩,trivial⟩ (by exact fun S hn h hh=>aops_buildSlice_imm [(0,(V.agg [(iV n73),(sV x80),(sV s83),(sV s88)]))] [[(iV n73),(sV x80),(sV s83),(sV s88)]] tEl69 tZ74 wants_none rfl rfl rfl rfl (evp_cons h.1 evp_nil) rfl rfl (by simp) (imms_rows (.cons (.cons (Imm.con _) (.cons (Imm.con _) (.cons (Imm.con _) (.cons (Imm.con _) .nil)))) .nil)) rfl (aops_nil ⟨rfl,rfl⟩)) rfl (xD (OD.mk [(89,(V.own 6 x92.Calls.length)),(91,(V.lst 4 (([(TCall.mk n73 x80 s83 s88)]:List TCall).map encTCall)))] [(6,(Ob.arr 74 4 (x92.Calls.map encTCall))),(7,Ob.res)] [(92,(V.own 7 (x92.Calls++([(TCall.mk n73 x80 s83 s88)]:List TCall)).length))] [(7,(Ob.arr 74 4 ((x92.Calls++([(TCall.mk n73 x80 s83 s88)]:List TCall)).map encTCall))),(6,Ob.dead)]) ⟨⟨rfl,rfl,trivial⟩,⟨rfl,rfl,trivial⟩⟩ (by exact fun S hn h hh=>aops_append_at 7 rfl hn hh.2.1 (([(TCall.mk n73 x80 s83 s88)]:List TCall).map encTCall) ((x92.Calls++([(TCall.mk n73 x80 s83 s88)]:List TCall)).map encTCall) tEl69 tIsSl69 rfl rfl wants_none h.1 hh.1 (by simp) h.2.1 (.lst (rows_one one_encTCall)) (map_snoc encTCall x92.Calls ([(TCall.mk n73 x80 s83 s88)]:List TCall)) (List.length_map ..) hc94 rfl (aops_nil ⟨rfl,rfl⟩)) rfl (vs 2 rfl (xD (OD.mk [(94,(V.ptr 3 4 (w64 (((a6.length:Nat):Int) - 1)).toNat 2)),(92,(V.own 7 (x92.Calls++([(TCall.mk n73 x80 s83 s88)]:List TCall)).length))] [(3,(Ob.arr 71 4 (setC (a6.map dencTFunc) ((w64 (((a6.length:Nat):Int) - 1)).toNat) (dencTFunc x92) 2 (V.own 6 x92.Calls.length)))),(7,(Ob.arr 74 4 ((x92.Calls++([(TCall.mk n73 x80 s83 s88)]:List TCall)).map encTCall)))] [] [(3,(Ob.arr 71 4 ((a6.set ((w64 (((a6.length:Nat):Int) - 1)).toNat) ({ x92 with Calls:=(x92.Calls++([(TCall.mk n73 x80 s83 s88)]:List TCall)) }:TFunc)).map dencTFunc))),(7,Ob.dead)]) ⟨⟨rfl,rfl,trivial⟩,⟨rfl,rfl,trivial⟩⟩ (by exact fun S hn h hh=>aops_store_untakeS dencTFunc encTCall (fun z=>(imms_encTCall z).keep) (a6.set ((w64 (((a6.length:Nat):Int) - 1)).toNat) ({ x92 with Calls:=(x92.Calls++([(TCall.mk n73 x80 s83 s88)]:List TCall)) }:TFunc)) tS69 wants_none h.1 h.2.1 hh.1 (Nat.le_of_ble_eq_true rfl) (by simpa using idx_lt hx93) hh.2.1 (by simp) rfl (by rw[List.map_set];rfl) (aops_nil ⟨rfl,rfl⟩)) rfl .nil))))))) (by kernel_rfl) ?_
   refine rn 4 rfl ?_
   replace h:=Option.some.inj h
   subst h
   exact wR ⟨.inl rfl,[(4,(bV true))],(ghost_ren 5 (fun i=>([0,1,2,3,4]:List Nat).getD i 0) _ _ (by decide) (EnvSub.get (.cons (Sub.imm (Imm.con _)) .nil)) (HpSub.get (.cons rfl (ObSub.box (.cons (Sub.own rfl rfl) (.cons (Sub.own rfl rfl) (.cons (Sub.ownE rfl rfl (by simp)) (.cons (Sub.own rfl rfl) (.cons (Sub.imm (Imm.con _)) (.cons (Sub.imm (Imm.con _)) .nil))))))) (.cons rfl (ObSub.rows (rows_imm imms_encTIface)) (.cons rfl (ObSub.rowsK RK.h) (.cons rfl (ObSub.rowsK RK.h) (.cons rfl (ObSub.rows (rows_imm imms_encS)) .nil)))))) rfl),(.cons (.tmp rfl) .nil)⟩
  refine rn 14 rfl ?_
  replace h:=Option.some.inj h
  subst h
  exact wR ⟨.inl rfl,[(4,(bV false))],(gr [0,1,2,3,4] rfl (hB rfl rfl rfl (hR rfl rfl (hR rfl rfl (hR rfl rfl (hR rfl rfl .nil))))) rfl),(.cons (.tmp rfl) .nil)⟩
 refine rn 20 rfl ?_
 refine ixl h rfl rfl (fun x95 hx96 h=>?_)
 refine rn 10 rfl ?_
 refine jK h (fun(p:(List UInt8))=>(⟨[(1,(V.lst 1 (a1.map encS))),(5,(V.ptr 3 4 (w64 (((a6.length:Nat):Int) - 1)).toNat 0)),(6,(V.ptr 5 4 0 0)),(7,(iV n72))],[(0,(Ob.arr 48 6 [[(V.own 1 a4.length),(V.own 2 a5.length),(V.own 3 a6.length),(V.own 4 a7.length),(sV a2),(bV a3)]])),(1,(Ob.arr 56 2 (a4.map encTIface))),(2,(Ob.arr 61 2 (a5.map dencTType))),(3,(Ob.arr 71 4 (a6.map dencTFunc))),(4,(Ob.arr 9 1 (a7.map encS))),(5,(Ob.arr 74 4 [[(iV n73),(sV x95),(sV p),(sV ([]:List UInt8))]]))],6⟩:St)) (fun k97 p=>k97 p=some r) (fun k97 h=>?_) ?_
 ·refine spC h rfl (fun hb99 h=>?_) (fun hb99 h=>?_)
  ·refine rn 2 rfl ?_
   refine ixl h rfl rfl (fun x100 hx101 h=>?_)
   refine rn 4 rfl ?_
   exact jX x100 h (gr [0,1,2,3,4,5] rfl (hB rfl rfl rfl (hR rfl rfl (hR rfl rfl (hR rfl rfl (hR rfl rfl (hB rfl rfl rfl .nil)))))) rfl)
  refine rn 1 rfl ?_
  exact jX ([]:List UInt8) h (gr [0,1,2,3,4,5] rfl (hB rfl rfl rfl (hR rfl rfl (hR rfl rfl (hR rfl rfl (hR rfl rfl (hB rfl rfl rfl .nil)))))) rfl)
 intro s98 h
 refine rn 4 rfl ?_
 refine ln rfl rfl ?_
 refine rn 3 rfl ?_
 refine jK h (fun(p:(List UInt8))=>(⟨[(5,(V.ptr 3 4 (w64 (((a6.length:Nat):Int) - 1)).toNat 0)),(6,(V.ptr 5 4 0 0))],[(0,(Ob.arr 48 6 [[(V.own 1 a4.length),(V.own 2 a5.length),(V.own 3 a6.length),(V.own 4 a7.length),(sV a2),(bV a3)]])),(1,(Ob.arr 56 2 (a4.map encTIface))),(2,(Ob.arr 61 2 (a5.map dencTType))),(3,(Ob.arr 71 4 (a6.map dencTFunc))),(4,(Ob.arr 9 1 (a7.map encS))),(5,(Ob.arr 74 4 [[(iV n73),(sV x95),(sV s98),(sV p)]]))],6⟩:St)) (fun k102 p=>k102 p=some r) (fun k102 h=>?_) ?_
 ·refine spC h rfl (fun hb104 h=>?_) (fun hb104 h=>?_)
  ·refine rn 4 rfl ?_
   refine ixl h rfl rfl (fun x105 hx106 h=>?_)
   refine rn 4 rfl ?_
   exact jX x105 h (gr [0,1,2,3,4,5] rfl (hB rfl rfl rfl (hR rfl rfl (hR rfl rfl (hR rfl rfl (hR rfl rfl (hB rfl rfl rfl .nil)))))) rfl)
  refine rn 1 rfl ?_
  exact jX ([]:List UInt8) h (gr [0,1,2,3,4,5] rfl (hB rfl rfl rfl (hR rfl rfl (hR rfl rfl (hR rfl rfl (hR rfl rfl (hB rfl rfl rfl .nil)))))) rfl)
 intro s103 h
 obtain⟨x107,hx108,h⟩:=bind_some h
 refine rn 1 rfl ?_
 refine ck h (fun hc109 h=>?_)
 refine awp_ghost ghost_res ?_
 refine awp_ghost ghost_res ?_
 refine fa ?_
 refine dr mixed (vs 4 rfl (xD (OD.mk [(88,(V.ptr 3 4 (w64 (((a6.length:Nat):Int) - 1)).toNat 2))] [(3,(Ob.arr 71 4 (a6.map dencTFunc))),(6,Ob.res)] [(89,(V.own 6 x107.Calls.length))] [(3,(Ob.arr 71 4 (setC (a6.map dencTFunc) ((w64 (((a6.length:Nat):Int) - 1)).toNat) (dencTFunc x107) 2 (V.own 6 x107.Calls.length)))),(6,(Ob.arr 74 4 (x107.Calls.map encTCall)))]) ⟨⟨rfl,trivial⟩,⟨rfl,rfl,trivial⟩⟩ (by exact fun S hn h hh=>aops_load_takeS_at 6 rfl hn hh.2.1 dencTFunc encTCall rfl tC69 wants_none h.1 hh.1 (idx_some hx108).2 rfl rfl (aops_nil ⟨rfl,rfl⟩)) rfl (vs 1 rfl (xD (OD.mk [(90,(V.agg [(iV n73),(sV x95),(sV s98),(sV s103)]))] [] [(91,(V.lst 4 (([(TCall.mk n73 x95 s98 s103)]:List TCall).map encTCall)))] []) ⟨⟨rfl,trivial⟩,trivial⟩ (by exact fun S hn h hh=>aops_buildSlice_imm [(0,(V.agg [(iV n73),(sV x95),(sV s98),(sV s103)]))] [[(iV n73),(sV x95),(sV s98),(sV s103)]] tEl69 tZ74 wants_none rfl rfl rfl rfl (evp_cons h.1 evp_nil) rfl rfl (by simp) (imms_rows (.cons (.cons (Imm.con _) (.cons (Imm.con _) (.cons (Imm.con _) (.cons (Imm.con _) .nil)))) .nil)) rfl (aops_nil ⟨rfl,rfl⟩)) rfl (xD (OD.mk [(89,(V.own 6 x107.Calls.length)),(91,(V.lst 4 (([(TCall.mk n73 x95 s98 s103)]:List TCall).map encTCall)))] [(6,(Ob.arr 74 4 (x107.Calls.map encTCall))),(7,Ob.res)] [(92,(V.own 7 (x107.Calls++([(TCall.mk n73 x95 s98 s103)]:List TCall)).length))] [(7,(Ob.arr 74 4 ((x107.Calls++([(TCall.mk n73 x95 s98 s103)]:List TCall)).map encTCall))),(6,Ob.dead)]) ⟨⟨rfl,rfl,trivial⟩,⟨rfl,rfl,trivial⟩⟩ (by exact fun S hn h hh=>aops_append_at 7 rfl hn hh.2.1 (([(TCall.mk n73 x95 s98 s103)]:List TCall).map encTCall) ((x107.Calls++([(TCall.mk n73 x95 s98 s103)]:List TCall)).map encTCall) tEl69 tIsSl69 rfl rfl wants_none h.1 hh.1 (by simp) h.2.1 (.lst (rows_one one_encTCall)) (map_snoc encTCall x107.Calls ([(TCall.mk n73 x95 s98 s103)]:List TCall)) (List.length_map ..) hc109 rfl (aops_nil ⟨rfl,rfl⟩)) rfl (vs 2 rfl (xD (OD.mk [(94,(V.ptr 3 4 (w64 (((a6.length:Nat):Int) - 1)).toNat 2)),(92,(V.own 7 (x107.Calls++([(TCall.mk n73 x95 s98 s103)]:List TCall)).length))] [(3,(Ob.arr 71 4 (setC (a6.map dencTFunc) ((w64 (((a6.length:Nat):Int) - 1)).toNat) (dencTFunc x107) 2 (V.own 6 x107.Calls.length)))),(7,(Ob.arr 74 4 ((x107.Calls++([(TCall.mk n73 x95 s98 s103)]:List TCall)).map encTCall)))] [] [(3,(Ob.arr 71 4 ((a6.set ((w64 (((a6.length:Nat):Int) - 1)).toNat) ({ x107 with Calls:=(x107.Calls++([(TCall.mk n73 x95 s98 s103)]:List TCall)) }:TFunc)).map dencTFunc))),(7,Ob.dead)]) ⟨⟨rfl,rfl,trivial⟩,⟨rfl,rfl,trivial⟩⟩ (by exact fun S hn h hh=>aops_store_untakeS dencTFunc encTCall (fun z=>(imms_encTCall z).keep) (a6.set ((w64 (((a6.length:Nat):Int) - 1)).toNat) ({ x107 with Calls:=(x107.Calls++([(TCall.mk n73 x95 s98 s103)]:List TCall)) }:TFunc)) tS69 wants_none h.1 h.2.1 hh.1 (Nat.le_of_ble_eq_true rfl) (by simpa using idx_lt hx108) hh.2.1 (by simp) rfl (by rw[List.map_set];rfl) (aops_nil ⟨rfl,rfl⟩)) rfl .nil))))))) (by kernel_rfl) ?_
 refine rn 4 rfl ?_
 replace h:=Option.some.inj h
 subst h
 exact wR ⟨.inl rfl,[(4,(bV true))],(ghost_ren 5 (fun i=>([0,1,2,3,4]:List Nat).getD i 0) _ _ (by decide) (EnvSub.get (.cons (Sub.imm (Imm.con _)) .nil)) (HpSub.get (.cons rfl (ObSub.box (.cons (Sub.own rfl rfl) (.cons (Sub.own rfl rfl) (.cons (Sub.ownE rfl rfl (by simp)) (.cons (Sub.own rfl rfl) (.cons (Sub.imm (Imm.con _)) (.cons (Sub.imm (Imm.con _)) .nil))))))) (.cons rfl (ObSub.rows (rows_imm imms_encTIface)) (.cons rfl (ObSub.rowsK RK.h) (.cons rfl (ObSub.rowsK RK.h) (.cons rfl (ObSub.rows (rows_imm imms_encS)) .nil)))))) rfl),(.cons (.tmp rfl) .nil)⟩
end Go.Proofs.YtjofofmllnpkpaaGreatDoor
