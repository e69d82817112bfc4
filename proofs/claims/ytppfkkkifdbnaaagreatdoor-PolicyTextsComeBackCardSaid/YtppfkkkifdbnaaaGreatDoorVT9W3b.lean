/- Part of the proof. -/
import Derived.Test.YtppfkkkifdbnaaaGreatDoorVT9W3a
set_option linter.unusedSimpArgs false
set_option linter.unusedVariables false
namespace Go.Proofs.YtppfkkkifdbnaaaGreatDoor
open Go Go.Pv
set_option maxRecDepth 100000
theorem W52(F:Nat)(a1:Tpolicy_reader)(r:((List UInt8)×Int×Int×(List UInt8)×Int×Int×Int))(h:M52 F a1=some r):MutG gl Tryz.prog 52 [(V.ptr 0 7 0 0)] 1 [(0,(Ob.arr 73 7 [(encTpolicy_reader a1)]))] (resV [(sV (r.1))]) 1 [(0,(Ob.arr 73 7 [[(sV a1.s),(iV (r.2.1)),(iV (r.2.2.1)),(sV (r.2.2.2.1)),(iV (r.2.2.2.2.1)),(iV (r.2.2.2.2.2.1)),(iV (r.2.2.2.2.2.2))]]))]:=by
 refine mut_enter Tryz.func52 rfl rfl (l:=[.tmp 2]) rfl rfl [(0,(V.ptr 0 7 0 0))] rfl (fun w0 m0 β0 hg=>en ?_)
 unfold M52 at h
 refine rn 23 rfl ?_
 refine spO 15 h rfl (fun hb19 h=>?_) (fun hb19 h=>?_)
 ·obtain⟨y20,hx21,h⟩:=bind_some h
  refine rn 14 rfl ?_
  refine aops_mcallS (V.tup []) [(V.ptr 0 7 0 0),(iV a1.now.at_),(iV 6)] (fun i=>([0]:List Nat).getD i 0) (fun i=>([0]:List Nat).getD i 0) 1 1 [(0,(Ob.arr 73 7 [[(sV a1.s),(iV a1.end_),(iV a1.now.kind),(sV a1.now.text),(iV a1.now.at_),(iV (y20.1)),(iV (y20.2))]]))] fOk26 wants_none rfl (evm_cons rfl (evm_cons rfl (evm_cons rfl evm_nil))) (.cons (Sub.ptr rfl rfl) (.cons (Sub.imm (Imm.con _)) (.cons (Sub.imm (Imm.con _)) .nil))) (.cons rfl (ObSub.box (.cons (Sub.imm (Imm.con _)) (.cons (Sub.imm (Imm.con _)) (.cons (Sub.imm (Imm.con _)) (.cons (Sub.imm (Imm.con _)) (.cons (Sub.imm (Imm.con _)) (.cons (Sub.imm (Imm.con _)) (.cons (Sub.imm (Imm.con _)) .nil)))))))) .nil) (W26 F a1.now.at_ 6 a1 y20 hx21) rfl rfl rfl rfl (Sub.immT (Imm.tup .nil)) (.cons rfl (ObSub.box (.cons (Sub.immT (Imm.con _)) (.cons (Sub.immT (Imm.con _)) (.cons (Sub.immT (Imm.con _)) (.cons (Sub.immT (Imm.con _)) (.cons (Sub.immT (Imm.con _)) (.cons (Sub.immT (Imm.con _)) (.cons (Sub.immT (Imm.con _)) .nil)))))))) .nil) _ rfl ?_
  refine fo (rn 5 rfl ?_)
  replace h:=ae8 h
  subst h
  exact wR ⟨.inl rfl,[(2,(sV ([]:List UInt8)))],(gr [0] rfl (hB rfl rfl rfl .nil) rfl),(.cons (.tmp rfl) .nil)⟩
 refine rn 1 rfl ?_
 refine cl h rfl rfl rfl (W30 _ _) rfl (fun y22 hx23 h=>?_)
 refine rn 3 rfl ?_
 refine spC h rfl (fun hb24 h=>?_) (fun hb24 h=>?_)
 ·obtain⟨y25,hx26,h⟩:=bind_some h
  refine rn 8 rfl ?_
  refine aops_mcallS (V.tup []) [(V.ptr 0 7 0 0),(iV a1.now.at_),(iV 6)] (fun i=>([0]:List Nat).getD i 0) (fun i=>([0]:List Nat).getD i 0) 1 1 [(0,(Ob.arr 73 7 [[(sV a1.s),(iV a1.end_),(iV a1.now.kind),(sV a1.now.text),(iV a1.now.at_),(iV (y25.1)),(iV (y25.2))]]))] fOk26 wants_none rfl (evm_cons rfl (evm_cons rfl (evm_cons rfl evm_nil))) (.cons (Sub.ptr rfl rfl) (.cons (Sub.imm (Imm.con _)) (.cons (Sub.imm (Imm.con _)) .nil))) (.cons rfl (ObSub.box (.cons (Sub.imm (Imm.con _)) (.cons (Sub.imm (Imm.con _)) (.cons (Sub.imm (Imm.con _)) (.cons (Sub.imm (Imm.con _)) (.cons (Sub.imm (Imm.con _)) (.cons (Sub.imm (Imm.con _)) (.cons (Sub.imm (Imm.con _)) .nil)))))))) .nil) (W26 F a1.now.at_ 6 a1 y25 hx26) rfl rfl rfl rfl (Sub.immT (Imm.tup .nil)) (.cons rfl (ObSub.box (.cons (Sub.immT (Imm.con _)) (.cons (Sub.immT (Imm.con _)) (.cons (Sub.immT (Imm.con _)) (.cons (Sub.immT (Imm.con _)) (.cons (Sub.immT (Imm.con _)) (.cons (Sub.immT (Imm.con _)) (.cons (Sub.immT (Imm.con _)) .nil)))))))) .nil) _ rfl ?_
  refine fo (rn 5 rfl ?_)
  replace h:=ae8 h
  subst h
  exact wR ⟨.inl rfl,[(2,(sV ([]:List UInt8)))],(gr [0] rfl (hB rfl rfl rfl .nil) rfl),(.cons (.tmp rfl) .nil)⟩
 obtain⟨y27,hx28,h⟩:=bind_some h
 refine rn 4 rfl ?_
 refine aops_mcallS (V.tup []) [(V.ptr 0 7 0 0)] (fun i=>([0]:List Nat).getD i 0) (fun i=>([0]:List Nat).getD i 0) 1 1 [(0,(Ob.arr 73 7 [[(sV a1.s),(iV (y27.1)),(iV (y27.2.1)),(sV (y27.2.2.1)),(iV (y27.2.2.2.1)),(iV (y27.2.2.2.2.1)),(iV (y27.2.2.2.2.2))]]))] fOk22 wants_none rfl (evm_cons rfl evm_nil) (.cons (Sub.ptr rfl rfl) .nil) (.cons rfl (ObSub.box (.cons (Sub.imm (Imm.con _)) (.cons (Sub.imm (Imm.con _)) (.cons (Sub.imm (Imm.con _)) (.cons (Sub.imm (Imm.con _)) (.cons (Sub.imm (Imm.con _)) (.cons (Sub.imm (Imm.con _)) (.cons (Sub.imm (Imm.con _)) .nil)))))))) .nil) (W22 F a1 y27 hx28) rfl rfl rfl rfl (Sub.immT (Imm.tup .nil)) (.cons rfl (ObSub.box (.cons (Sub.immT (Imm.con _)) (.cons (Sub.immT (Imm.con _)) (.cons (Sub.immT (Imm.con _)) (.cons (Sub.immT (Imm.con _)) (.cons (Sub.immT (Imm.con _)) (.cons (Sub.immT (Imm.con _)) (.cons (Sub.immT (Imm.con _)) .nil)))))))) .nil) _ rfl ?_
 refine fo (rn 6 rfl ?_)
 replace h:=ae8 h
 subst h
 exact wR ⟨.inl rfl,[(2,(sV a1.now.text))],(gr [0] rfl (hB rfl rfl rfl .nil) rfl),(.cons (.tmp rfl) .nil)⟩
theorem W53(F:Nat)(a1:(List UInt8))(a2:Tpolicy_reader)(r:(Int×Int×(List UInt8)×Int×Int×Int))(h:M53 F a1 a2=some r):MutG gl Tryz.prog 53 [(V.ptr 0 7 0 0),(sV a1)] 1 [(0,(Ob.arr 73 7 [(encTpolicy_reader a2)]))] (resV []) 1 [(0,(Ob.arr 73 7 [[(sV a2.s),(iV (r.1)),(iV (r.2.1)),(sV (r.2.2.1)),(iV (r.2.2.2.1)),(iV (r.2.2.2.2.1)),(iV (r.2.2.2.2.2))]]))]:=by
 refine mut_enter Tryz.func53 rfl rfl (l:=[]) rfl rfl [(0,(V.ptr 0 7 0 0)),(1,(sV a1))] rfl (fun w0 m0 β0 hg=>en ?_)
 unfold M53 at h
 obtain⟨y14,hx15,h⟩:=bind_some h
 refine rn 4 rfl ?_
 refine aops_mcallS (bV (y14.1)) [(V.ptr 0 7 0 0),(iV 1),(sV a1)] (fun i=>([0]:List Nat).getD i 0) (fun i=>([0]:List Nat).getD i 0) 1 1 [(0,(Ob.arr 73 7 [[(sV a2.s),(iV (y14.2.1)),(iV (y14.2.2.1)),(sV (y14.2.2.2.1)),(iV (y14.2.2.2.2.1)),(iV (y14.2.2.2.2.2.1)),(iV (y14.2.2.2.2.2.2))]]))] fOk23 wants_none rfl (evm_cons rfl (evm_cons rfl (evm_cons rfl evm_nil))) (.cons (Sub.ptr rfl rfl) (.cons (Sub.imm (Imm.con _)) (.cons (Sub.imm (Imm.con _)) .nil))) (.cons rfl (ObSub.box (.cons (Sub.imm (Imm.con _)) (.cons (Sub.imm (Imm.con _)) (.cons (Sub.imm (Imm.con _)) (.cons (Sub.imm (Imm.con _)) (.cons (Sub.imm (Imm.con _)) (.cons (Sub.imm (Imm.con _)) (.cons (Sub.imm (Imm.con _)) .nil)))))))) .nil) (W23 F 1 a1 a2 y14 hx15) rfl rfl rfl rfl (Sub.immT (Imm.con _)) (.cons rfl (ObSub.box (.cons (Sub.immT (Imm.con _)) (.cons (Sub.immT (Imm.con _)) (.cons (Sub.immT (Imm.con _)) (.cons (Sub.immT (Imm.con _)) (.cons (Sub.immT (Imm.con _)) (.cons (Sub.immT (Imm.con _)) (.cons (Sub.immT (Imm.con _)) .nil)))))))) .nil) _ rfl ?_
 refine fo (rn 2 rfl ?_)
 refine spC h rfl (fun hb16 h=>?_) (fun hb16 h=>?_)
 ·obtain⟨y17,hx18,h⟩:=bind_some h
  refine rn 7 rfl ?_
  refine aops_mcallS (V.tup []) [(V.ptr 0 7 0 0),(iV (y14.2.2.2.2.1)),(iV 6)] (fun i=>([0]:List Nat).getD i 0) (fun i=>([0]:List Nat).getD i 0) 1 1 [(0,(Ob.arr 73 7 [[(sV a2.s),(iV (y14.2.1)),(iV (y14.2.2.1)),(sV (y14.2.2.2.1)),(iV (y14.2.2.2.2.1)),(iV (y17.1)),(iV (y17.2))]]))] fOk26 wants_none rfl (evm_cons rfl (evm_cons rfl (evm_cons rfl evm_nil))) (.cons (Sub.ptr rfl rfl) (.cons (Sub.imm (Imm.con _)) (.cons (Sub.imm (Imm.con _)) .nil))) (.cons rfl (ObSub.box (.cons (Sub.imm (Imm.con _)) (.cons (Sub.imm (Imm.con _)) (.cons (Sub.imm (Imm.con _)) (.cons (Sub.imm (Imm.con _)) (.cons (Sub.imm (Imm.con _)) (.cons (Sub.imm (Imm.con _)) (.cons (Sub.imm (Imm.con _)) .nil)))))))) .nil) (W26 F (y14.2.2.2.2.1) 6 (Tpolicy_reader.mk a2.s (y14.2.1) (Tpolicy_token.mk (y14.2.2.1) (y14.2.2.2.1) (y14.2.2.2.2.1)) (y14.2.2.2.2.2.1) (y14.2.2.2.2.2.2)) y17 hx18) rfl rfl rfl rfl (Sub.immT (Imm.tup .nil)) (.cons rfl (ObSub.box (.cons (Sub.immT (Imm.con _)) (.cons (Sub.immT (Imm.con _)) (.cons (Sub.immT (Imm.con _)) (.cons (Sub.immT (Imm.con _)) (.cons (Sub.immT (Imm.con _)) (.cons (Sub.immT (Imm.con _)) (.cons (Sub.immT (Imm.con _)) .nil)))))))) .nil) _ rfl ?_
  refine fo (rn 1 rfl ?_)
  replace h:=ae8 h
  subst h
  exact wE ⟨.inr rfl,[],(gr [0] rfl (hB rfl rfl rfl .nil) rfl),.nil⟩
 refine rn 1 rfl ?_
 replace h:=ae8 h
 subst h
 exact wE ⟨.inr rfl,[],(gr [0] rfl (hB rfl rfl rfl .nil) rfl),.nil⟩
theorem W80(F:Nat)(a1:(List (List UInt8)))(a2:(List UInt8))(r:Int)(h:M80 F a1 a2=some r):PureG gl Tryz.prog 80 [(V.lst 1 (a1.map encS)),(sV a2)] (iV r):=by
 refine pin (fun r=>(iV r)) r rfl Tryz.func80 rfl rfl rfl rfl rfl (fun w0 m0 hg=>?_)
 unfold M80 at h
 refine rn 8 rfl ?_
 refine ln rfl rfl ?_
 refine rn 2 rfl ?_
 refine jK h (fun _:Unit=>(⟨[],[],0⟩:St)) (fun k3 (_:Unit)=>k3=some r) (fun k3 h=>?_) ?_
 ·refine rn 1 rfl ?_
  refine wl (A:=a1) 0 rfl (fun hA10=>?_)
  refine lC (fun(p:Int)=>(⟨[(0,(V.lst 1 (a1.map encS))),(1,(sV a2)),(7,(iV ((a1.length:Nat):Int))),(8,(iV p))],[],0⟩:St)) (fun n p=>RG a1 (fun tl nn=>M80_L1 F a2 k3 tl nn=some r) n p) (fun p h=>RG.zero h) (a1.length+1) 0 (RG.start h) (g0 rfl rfl) (fun n n5 h=>?_)
  refine rn 5 rfl ?_
  refine spL rfl (fun hb6=>?_) (fun hb6=>?_)
  ·obtain⟨x7,tl,hx8,h,hk1⟩:=RG.t hA10 h hb6
   unfold M80_L1 at h
   refine rn 13 rfl ?_
   refine ixh hx8 rfl rfl ?_
   refine rn 3 rfl ?_
   refine spC h rfl (fun hb9 h=>?_) (fun hb9 h=>?_)
   ·refine rn 5 rfl ?_
    exact rt h rfl
   refine rn 6 rfl ?_
   exact jX (w64 (n5+1)) (hk1 _ h) (g0 rfl rfl)
  replace h:=RG.f h hb6
  unfold M80_L1 at h
  refine rn 1 rfl ?_
  exact jX () h (g0 rfl rfl)
 intro _ h
 refine rn 4 rfl ?_
 exact rt h rfl
theorem W54(F:Nat)(a1:Tpolicy_reader)(r:(Int×Int×Int×(List UInt8)×Int×Int×Int))(h:M54 F a1=some r):MutG gl Tryz.prog 54 [(V.ptr 0 7 0 0)] 1 [(0,(Ob.arr 73 7 [(encTpolicy_reader a1)]))] (resV [(iV (r.1))]) 1 [(0,(Ob.arr 73 7 [[(sV a1.s),(iV (r.2.1)),(iV (r.2.2.1)),(sV (r.2.2.2.1)),(iV (r.2.2.2.2.1)),(iV (r.2.2.2.2.2.1)),(iV (r.2.2.2.2.2.2))]]))]:=by
 refine mut_enter Tryz.func54 rfl rfl (l:=[.tmp 2]) rfl rfl [(0,(V.ptr 0 7 0 0))] rfl (fun w0 m0 β0 hg=>en ?_)
 unfold M54 at h
 obtain⟨y21,hx22,h⟩:=bind_some h
 obtain⟨y23,hx24,h⟩:=bind_some h
 refine rn 5 rfl ?_
 refine dr mixed (cD rfl rfl rfl rfl (W11 _ _ hx22) rfl (vs 5 rfl (cD rfl rfl rfl rfl (W80 _ _ _ _ hx24) rfl (vs 1 rfl .nil)))) (by kernel_rfl) ?_
 refine rn 10 rfl ?_
 refine spO 17 h rfl (fun hb25 h=>?_) (fun hb25 h=>?_)
 ·obtain⟨y26,hx27,h⟩:=bind_some h
  refine rn 13 rfl ?_
  refine aops_mcallS (V.tup []) [(V.ptr 0 7 0 0),(iV a1.now.at_),(iV 6)] (fun i=>([0]:List Nat).getD i 0) (fun i=>([0]:List Nat).getD i 0) 1 1 [(0,(Ob.arr 73 7 [[(sV a1.s),(iV a1.end_),(iV a1.now.kind),(sV a1.now.text),(iV a1.now.at_),(iV (y26.1)),(iV (y26.2))]]))] fOk26 wants_none rfl (evm_cons rfl (evm_cons rfl (evm_cons rfl evm_nil))) (.cons (Sub.ptr rfl rfl) (.cons (Sub.imm (Imm.con _)) (.cons (Sub.imm (Imm.con _)) .nil))) (.cons rfl (ObSub.box (.cons (Sub.imm (Imm.con _)) (.cons (Sub.imm (Imm.con _)) (.cons (Sub.imm (Imm.con _)) (.cons (Sub.imm (Imm.con _)) (.cons (Sub.imm (Imm.con _)) (.cons (Sub.imm (Imm.con _)) (.cons (Sub.imm (Imm.con _)) .nil)))))))) .nil) (W26 F a1.now.at_ 6 a1 y26 hx27) rfl rfl rfl rfl (Sub.immT (Imm.tup .nil)) (.cons rfl (ObSub.box (.cons (Sub.immT (Imm.con _)) (.cons (Sub.immT (Imm.con _)) (.cons (Sub.immT (Imm.con _)) (.cons (Sub.immT (Imm.con _)) (.cons (Sub.immT (Imm.con _)) (.cons (Sub.immT (Imm.con _)) (.cons (Sub.immT (Imm.con _)) .nil)))))))) .nil) _ rfl ?_
  refine fo (rn 5 rfl ?_)
  replace h:=ae8 h
  subst h
  exact wR ⟨.inl rfl,[(2,(iV 0))],(gr [0] rfl (hB rfl rfl rfl .nil) rfl),(.cons (.tmp rfl) .nil)⟩
 refine rn 4 rfl ?_
 refine spC h rfl (fun hb28 h=>?_) (fun hb28 h=>?_)
 ·obtain⟨y29,hx30,h⟩:=bind_some h
  refine rn 8 rfl ?_
  refine aops_mcallS (V.tup []) [(V.ptr 0 7 0 0),(iV a1.now.at_),(iV 6)] (fun i=>([0]:List Nat).getD i 0) (fun i=>([0]:List Nat).getD i 0) 1 1 [(0,(Ob.arr 73 7 [[(sV a1.s),(iV a1.end_),(iV a1.now.kind),(sV a1.now.text),(iV a1.now.at_),(iV (y29.1)),(iV (y29.2))]]))] fOk26 wants_none rfl (evm_cons rfl (evm_cons rfl (evm_cons rfl evm_nil))) (.cons (Sub.ptr rfl rfl) (.cons (Sub.imm (Imm.con _)) (.cons (Sub.imm (Imm.con _)) .nil))) (.cons rfl (ObSub.box (.cons (Sub.imm (Imm.con _)) (.cons (Sub.imm (Imm.con _)) (.cons (Sub.imm (Imm.con _)) (.cons (Sub.imm (Imm.con _)) (.cons (Sub.imm (Imm.con _)) (.cons (Sub.imm (Imm.con _)) (.cons (Sub.imm (Imm.con _)) .nil)))))))) .nil) (W26 F a1.now.at_ 6 a1 y29 hx30) rfl rfl rfl rfl (Sub.immT (Imm.tup .nil)) (.cons rfl (ObSub.box (.cons (Sub.immT (Imm.con _)) (.cons (Sub.immT (Imm.con _)) (.cons (Sub.immT (Imm.con _)) (.cons (Sub.immT (Imm.con _)) (.cons (Sub.immT (Imm.con _)) (.cons (Sub.immT (Imm.con _)) (.cons (Sub.immT (Imm.con _)) .nil)))))))) .nil) _ rfl ?_
  refine fo (rn 5 rfl ?_)
  replace h:=ae8 h
  subst h
  exact wR ⟨.inl rfl,[(2,(iV 0))],(gr [0] rfl (hB rfl rfl rfl .nil) rfl),(.cons (.tmp rfl) .nil)⟩
 obtain⟨y31,hx32,h⟩:=bind_some h
 refine rn 4 rfl ?_
 refine aops_mcallS (V.tup []) [(V.ptr 0 7 0 0)] (fun i=>([0]:List Nat).getD i 0) (fun i=>([0]:List Nat).getD i 0) 1 1 [(0,(Ob.arr 73 7 [[(sV a1.s),(iV (y31.1)),(iV (y31.2.1)),(sV (y31.2.2.1)),(iV (y31.2.2.2.1)),(iV (y31.2.2.2.2.1)),(iV (y31.2.2.2.2.2))]]))] fOk22 wants_none rfl (evm_cons rfl evm_nil) (.cons (Sub.ptr rfl rfl) .nil) (.cons rfl (ObSub.box (.cons (Sub.imm (Imm.con _)) (.cons (Sub.imm (Imm.con _)) (.cons (Sub.imm (Imm.con _)) (.cons (Sub.imm (Imm.con _)) (.cons (Sub.imm (Imm.con _)) (.cons (Sub.imm (Imm.con _)) (.cons (Sub.imm (Imm.con _)) .nil)))))))) .nil) (W22 F a1 y31 hx32) rfl rfl rfl rfl (Sub.immT (Imm.tup .nil)) (.cons rfl (ObSub.box (.cons (Sub.immT (Imm.con _)) (.cons (Sub.immT (Imm.con _)) (.cons (Sub.immT (Imm.con _)) (.cons (Sub.immT (Imm.con _)) (.cons (Sub.immT (Imm.con _)) (.cons (Sub.immT (Imm.con _)) (.cons (Sub.immT (Imm.con _)) .nil)))))))) .nil) _ rfl ?_
 refine fo (rn 6 rfl ?_)
 replace h:=ae8 h
 subst h
 exact wR ⟨.inl rfl,[(2,(iV y23))],(gr [0] rfl (hB rfl rfl rfl .nil) rfl),(.cons (.tmp rfl) .nil)⟩
theorem W56(F:Nat)(a1:Tpolicy_reader)(r:((List UInt8)×Int×Int×(List UInt8)×Int×Int×Int))(h:M56 F a1=some r):MutG gl Tryz.prog 56 [(V.ptr 0 7 0 0)] 1 [(0,(Ob.arr 73 7 [(encTpolicy_reader a1)]))] (resV [(sV (r.1))]) 1 [(0,(Ob.arr 73 7 [[(sV a1.s),(iV (r.2.1)),(iV (r.2.2.1)),(sV (r.2.2.2.1)),(iV (r.2.2.2.2.1)),(iV (r.2.2.2.2.2.1)),(iV (r.2.2.2.2.2.2))]]))]:=by
 refine mut_enter Tryz.func56 rfl rfl (l:=[.tmp 2]) rfl rfl [(0,(V.ptr 0 7 0 0))] rfl (fun w0 m0 β0 hg=>en ?_)
 unfold M56 at h
 refine rn 23 rfl ?_
 refine spC h rfl (fun hb14 h=>?_) (fun hb14 h=>?_)
 ·obtain⟨y15,hx16,h⟩:=bind_some h
  refine rn 8 rfl ?_
  refine aops_mcallS (V.tup []) [(V.ptr 0 7 0 0),(iV a1.now.at_),(iV 6)] (fun i=>([0]:List Nat).getD i 0) (fun i=>([0]:List Nat).getD i 0) 1 1 [(0,(Ob.arr 73 7 [[(sV a1.s),(iV a1.end_),(iV a1.now.kind),(sV a1.now.text),(iV a1.now.at_),(iV (y15.1)),(iV (y15.2))]]))] fOk26 wants_none rfl (evm_cons rfl (evm_cons rfl (evm_cons rfl evm_nil))) (.cons (Sub.ptr rfl rfl) (.cons (Sub.imm (Imm.con _)) (.cons (Sub.imm (Imm.con _)) .nil))) (.cons rfl (ObSub.box (.cons (Sub.imm (Imm.con _)) (.cons (Sub.imm (Imm.con _)) (.cons (Sub.imm (Imm.con _)) (.cons (Sub.imm (Imm.con _)) (.cons (Sub.imm (Imm.con _)) (.cons (Sub.imm (Imm.con _)) (.cons (Sub.imm (Imm.con _)) .nil)))))))) .nil) (W26 F a1.now.at_ 6 a1 y15 hx16) rfl rfl rfl rfl (Sub.immT (Imm.tup .nil)) (.cons rfl (ObSub.box (.cons (Sub.immT (Imm.con _)) (.cons (Sub.immT (Imm.con _)) (.cons (Sub.immT (Imm.con _)) (.cons (Sub.immT (Imm.con _)) (.cons (Sub.immT (Imm.con _)) (.cons (Sub.immT (Imm.con _)) (.cons (Sub.immT (Imm.con _)) .nil)))))))) .nil) _ rfl ?_
  refine fo (rn 5 rfl ?_)
  replace h:=ae8 h
  subst h
  exact wR ⟨.inl rfl,[(2,(sV ([]:List UInt8)))],(gr [0] rfl (hB rfl rfl rfl .nil) rfl),(.cons (.tmp rfl) .nil)⟩
 obtain⟨y17,hx18,h⟩:=bind_some h
 refine rn 4 rfl ?_
 refine aops_mcallS (V.tup []) [(V.ptr 0 7 0 0)] (fun i=>([0]:List Nat).getD i 0) (fun i=>([0]:List Nat).getD i 0) 1 1 [(0,(Ob.arr 73 7 [[(sV a1.s),(iV (y17.1)),(iV (y17.2.1)),(sV (y17.2.2.1)),(iV (y17.2.2.2.1)),(iV (y17.2.2.2.2.1)),(iV (y17.2.2.2.2.2))]]))] fOk22 wants_none rfl (evm_cons rfl evm_nil) (.cons (Sub.ptr rfl rfl) .nil) (.cons rfl (ObSub.box (.cons (Sub.imm (Imm.con _)) (.cons (Sub.imm (Imm.con _)) (.cons (Sub.imm (Imm.con _)) (.cons (Sub.imm (Imm.con _)) (.cons (Sub.imm (Imm.con _)) (.cons (Sub.imm (Imm.con _)) (.cons (Sub.imm (Imm.con _)) .nil)))))))) .nil) (W22 F a1 y17 hx18) rfl rfl rfl rfl (Sub.immT (Imm.tup .nil)) (.cons rfl (ObSub.box (.cons (Sub.immT (Imm.con _)) (.cons (Sub.immT (Imm.con _)) (.cons (Sub.immT (Imm.con _)) (.cons (Sub.immT (Imm.con _)) (.cons (Sub.immT (Imm.con _)) (.cons (Sub.immT (Imm.con _)) (.cons (Sub.immT (Imm.con _)) .nil)))))))) .nil) _ rfl ?_
 refine fo (rn 6 rfl ?_)
 replace h:=ae8 h
 subst h
 exact wR ⟨.inl rfl,[(2,(sV a1.now.text))],(gr [0] rfl (hB rfl rfl rfl .nil) rfl),(.cons (.tmp rfl) .nil)⟩
theorem W132(F:Nat)(a1:Tpolicy_reader)(r:((List (List UInt8))×Int×Int×(List UInt8)×Int×Int×Int))(h:M132 F a1=some r):MutG gl Tryz.prog 132 [(V.ptr 0 7 0 0)] 1 [(0,(Ob.arr 73 7 [(encTpolicy_reader a1)]))] (resV [(V.lst 1 ((r.1).map encS))]) 1 [(0,(Ob.arr 73 7 [[(sV a1.s),(iV (r.2.1)),(iV (r.2.2.1)),(sV (r.2.2.2.1)),(iV (r.2.2.2.2.1)),(iV (r.2.2.2.2.2.1)),(iV (r.2.2.2.2.2.2))]]))]:=by
 refine mut_enter Tryz.func132 rfl rfl (l:=[.tmp 2]) rfl rfl [(0,(V.ptr 0 7 0 0))] rfl (fun w0 m0 β0 hg=>en ?_)
 unfold M132 at h
 obtain⟨y39,hx40,h⟩:=bind_some h
 refine rn 7 rfl ?_
 refine aops_mcallS (sV (y39.1)) [(V.ptr 0 7 0 0)] (fun i=>([0]:List Nat).getD i 0) (fun i=>([0]:List Nat).getD i 0) 1 1 [(0,(Ob.arr 73 7 [[(sV a1.s),(iV (y39.2.1)),(iV (y39.2.2.1)),(sV (y39.2.2.2.1)),(iV (y39.2.2.2.2.1)),(iV (y39.2.2.2.2.2.1)),(iV (y39.2.2.2.2.2.2))]]))] fOk56 wants_none rfl (evm_cons rfl evm_nil) (.cons (Sub.ptr rfl rfl) .nil) (.cons rfl (ObSub.box (.cons (Sub.imm (Imm.con _)) (.cons (Sub.imm (Imm.con _)) (.cons (Sub.imm (Imm.con _)) (.cons (Sub.imm (Imm.con _)) (.cons (Sub.imm (Imm.con _)) (.cons (Sub.imm (Imm.con _)) (.cons (Sub.imm (Imm.con _)) .nil)))))))) .nil) (W56 F a1 y39 hx40) rfl rfl rfl rfl (Sub.immT (Imm.con _)) (.cons rfl (ObSub.box (.cons (Sub.immT (Imm.con _)) (.cons (Sub.immT (Imm.con _)) (.cons (Sub.immT (Imm.con _)) (.cons (Sub.immT (Imm.con _)) (.cons (Sub.immT (Imm.con _)) (.cons (Sub.immT (Imm.con _)) (.cons (Sub.immT (Imm.con _)) .nil)))))))) .nil) _ rfl ?_
 refine aops_buildSlice [(0,(sV (y39.1)))] [[(sV (y39.1))]] tEl39 tZ9 rfl rfl rfl rfl wants_none (evp_cons rfl evp_nil) rfl rfl (by simp) rfl ?_
 refine fo (rn 3 rfl ?_)
 refine jK h (fun(p:Int×Int×(List UInt8)×Int×Int×Int×(List (List UInt8)))=>(⟨[(3,(V.own 1 (p.2.2.2.2.2.2).length))],[(0,(Ob.arr 73 7 [[(sV a1.s),(iV (p.1)),(iV (p.2.1)),(sV (p.2.2.1)),(iV (p.2.2.2.1)),(iV (p.2.2.2.2.1)),(iV (p.2.2.2.2.2.1))]])),(1,(Ob.arr 9 1 ((p.2.2.2.2.2.2).map encS)))],2⟩:St)) (fun k41 p=>k41 p.1 p.2.1 p.2.2.1 p.2.2.2.1 p.2.2.2.2.1 p.2.2.2.2.2.1 p.2.2.2.2.2.2=some r) (fun k41 h=>?_) ?_
 ·refine rn 1 rfl ?_
  refine lC (fun(p:Int×Int×(List UInt8)×Int×Int×Int×(List (List UInt8)))=>(⟨[(0,(V.ptr 0 7 0 0)),(3,(V.own 1 (p.2.2.2.2.2.2).length))],[(0,(Ob.arr 73 7 [[(sV a1.s),(iV (p.1)),(iV (p.2.1)),(sV (p.2.2.1)),(iV (p.2.2.2.1)),(iV (p.2.2.2.2.1)),(iV (p.2.2.2.2.2.1))]])),(1,(Ob.arr 9 1 ((p.2.2.2.2.2.2).map encS)))],2⟩:St)) (fun n p=>M132_L1 F a1 k41 n p.1 p.2.1 p.2.2.1 p.2.2.2.1 p.2.2.2.2.1 p.2.2.2.2.2.1 p.2.2.2.2.2.2=some r) (fun p h=>by simp[M132_L1] at h) F ((y39.2.1),(y39.2.2.1),(y39.2.2.2.1),(y39.2.2.2.2.1),(y39.2.2.2.2.2.1),(y39.2.2.2.2.2.2),([(y39.1)]:List (List UInt8))) h (ghost_ren 2 (fun i=>([0,1]:List Nat).getD i 0) _ _ (by decide) (EnvSub.get (.cons (Sub.ptr rfl rfl) (.cons (Sub.ownE rfl rfl (by simp)) .nil))) (HpSub.get (.cons rfl (ObSub.box (.cons (Sub.imm (Imm.con _)) (.cons (Sub.imm (Imm.con _)) (.cons (Sub.imm (Imm.con _)) (.cons (Sub.imm (Imm.con _)) (.cons (Sub.imm (Imm.con _)) (.cons (Sub.imm (Imm.con _)) (.cons (Sub.imm (Imm.con _)) .nil)))))))) (.cons rfl (ObSub.rows (rows_imm imms_encS)) .nil))) rfl) (fun n p h=>?_)
  obtain⟨n56,n57,s58,n59,n60,n61,l62⟩:=p
  unfold M132_L1 at h
  obtain⟨y63,hx64,h⟩:=bind_some h
  refine rn 4 rfl ?_
  refine aops_mcallS (bV (y63.1)) [(V.ptr 0 7 0 0),(iV 3),(sV ([44]:List UInt8))] (fun i=>([0]:List Nat).getD i 0) (fun i=>([0]:List Nat).getD i 0) 2 2 [(0,(Ob.arr 73 7 [[(sV a1.s),(iV (y63.2.1)),(iV (y63.2.2.1)),(sV (y63.2.2.2.1)),(iV (y63.2.2.2.2.1)),(iV (y63.2.2.2.2.2.1)),(iV (y63.2.2.2.2.2.2))]]))] fOk23 wants_none rfl (evm_cons rfl (evm_cons rfl (evm_cons rfl evm_nil))) (.cons (Sub.ptr rfl rfl) (.cons (Sub.imm (Imm.con _)) (.cons (Sub.imm (Imm.con _)) .nil))) (.cons rfl (ObSub.box (.cons (Sub.imm (Imm.con _)) (.cons (Sub.imm (Imm.con _)) (.cons (Sub.imm (Imm.con _)) (.cons (Sub.imm (Imm.con _)) (.cons (Sub.imm (Imm.con _)) (.cons (Sub.imm (Imm.con _)) (.cons (Sub.imm (Imm.con _)) .nil)))))))) .nil) (W23 F 3 ([44]:List UInt8) (Tpolicy_reader.mk a1.s n56 (Tpolicy_token.mk n57 s58 n59) n60 n61) y63 hx64) rfl rfl rfl rfl (Sub.immT (Imm.con _)) (.cons rfl (ObSub.box (.cons (Sub.immT (Imm.con _)) (.cons (Sub.immT (Imm.con _)) (.cons (Sub.immT (Imm.con _)) (.cons (Sub.immT (Imm.con _)) (.cons (Sub.immT (Imm.con _)) (.cons (Sub.immT (Imm.con _)) (.cons (Sub.immT (Imm.con _)) .nil)))))))) .nil) _ rfl ?_
  refine fo (rn 1 rfl ?_)
  refine spC h rfl (fun hb65 h=>?_) (fun hb65 h=>?_)
  ·obtain⟨y66,hx67,h⟩:=bind_some h
   refine rn 5 rfl ?_
   refine aops_mcallS (sV (y66.1)) [(V.ptr 0 7 0 0)] (fun i=>([0]:List Nat).getD i 0) (fun i=>([0]:List Nat).getD i 0) 2 2 [(0,(Ob.arr 73 7 [[(sV a1.s),(iV (y66.2.1)),(iV (y66.2.2.1)),(sV (y66.2.2.2.1)),(iV (y66.2.2.2.2.1)),(iV (y66.2.2.2.2.2.1)),(iV (y66.2.2.2.2.2.2))]]))] fOk56 wants_none rfl (evm_cons rfl evm_nil) (.cons (Sub.ptr rfl rfl) .nil) (.cons rfl (ObSub.box (.cons (Sub.imm (Imm.con _)) (.cons (Sub.imm (Imm.con _)) (.cons (Sub.imm (Imm.con _)) (.cons (Sub.imm (Imm.con _)) (.cons (Sub.imm (Imm.con _)) (.cons (Sub.imm (Imm.con _)) (.cons (Sub.imm (Imm.con _)) .nil)))))))) .nil) (W56 F (Tpolicy_reader.mk a1.s (y63.2.1) (Tpolicy_token.mk (y63.2.2.1) (y63.2.2.2.1) (y63.2.2.2.2.1)) (y63.2.2.2.2.2.1) (y63.2.2.2.2.2.2)) y66 hx67) rfl rfl rfl rfl (Sub.immT (Imm.con _)) (.cons rfl (ObSub.box (.cons (Sub.immT (Imm.con _)) (.cons (Sub.immT (Imm.con _)) (.cons (Sub.immT (Imm.con _)) (.cons (Sub.immT (Imm.con _)) (.cons (Sub.immT (Imm.con _)) (.cons (Sub.immT (Imm.con _)) (.cons (Sub.immT (Imm.con _)) .nil)))))))) .nil) _ rfl ?_
   refine aops_buildSlice [(0,(sV (y66.1)))] [[(sV (y66.1))]] tEl39 tZ9 rfl rfl rfl rfl wants_none (evp_cons rfl evp_nil) rfl rfl (by simp) rfl ?_
   refine fo ?_
   refine apO encS h rfl rfl rfl rfl rfl rfl rfl rfl (fun h=>?_)
   refine rn 3 rfl ?_
   exact jX ((y66.2.1),(y66.2.2.1),(y66.2.2.2.1),(y66.2.2.2.2.1),(y66.2.2.2.2.2.1),(y66.2.2.2.2.2.2),(l62++([(y66.1)]:List (List UInt8)))) h (gr [0,3] rfl (hB rfl rfl rfl (hR rfl rfl .nil)) rfl)
  refine rn 1 rfl ?_
  exact jX ((y63.2.1),(y63.2.2.1),(y63.2.2.2.1),(y63.2.2.2.2.1),(y63.2.2.2.2.2.1),(y63.2.2.2.2.2.2),l62) h (gr [0,1] rfl (hB rfl rfl rfl (hR rfl rfl .nil)) rfl)
 rintro⟨n42,n43,s44,n45,n46,n47,l48⟩ h
 refine rn 5 rfl ?_
 replace h:=ae8 h
 subst h
 exact wR ⟨.inl rfl,[(2,(V.lst 1 (l48.map encS)))],(Ghost.trans (ghost_frzEs 1 [2,3,14] rfl (rows_imm imms_encS) (by8.2 ⟨rfl,(by8.2 ⟨rfl,(by8.2 ⟨rfl,(fun _ hx=>nomatch hx)⟩)⟩)⟩) (bb8 ..).symm) (gr [0] rfl (hB rfl rfl rfl .nil) rfl)),(.cons (.tmp rfl) .nil)⟩
theorem W114(F:Nat)(a1:(List UInt8))(a2:(List UInt8))(r:((List UInt8)×Bool))(h:M114 F a1 a2=some r):PureG gl Tryz.prog 114 [(sV a1),(sV a2)] (V.tup [(sV (r.1)),(bV (r.2))]):=by
 refine pin (fun r=>(V.tup [(sV (r.1)),(bV (r.2))])) r rfl Tryz.func114 rfl rfl rfl rfl rfl (fun w0 m0 hg=>?_)
 unfold M114 at h
 refine rn 10 rfl ?_
 refine cl h rfl rfl rfl (W79 _ _ _) rfl (fun y3 hx4 h=>?_)
 refine rn 2 rfl ?_
 refine spC h rfl (fun hb5 h=>?_) (fun hb5 h=>?_)
 ·refine rn 6 rfl ?_
  exact rt h rfl
 refine rn 6 rfl ?_
 refine ck h (fun hc6 h=>?_)
 refine aops_sliceT ((a2.length:Int).toNat) (a1.length) (a1.drop (a2.length:Int).toNat) tStr9 wants_none rfl ⟨_,(by rw[Int.toNat_of_nonneg hc6.1];exact rfl)⟩ rfl hc6.2 (ab8 _) slT_hi rfl ?_
 refine fo (rn 3 rfl ?_)
 exact rt h rfl
theorem W85(F:Nat)(a1:(List UInt8))(a2:(List UInt8))(r:((List UInt8)×Bool))(h:M85 F a1 a2=some r):PureG gl Tryz.prog 85 [(sV a1),(sV a2)] (V.tup [(sV (r.1)),(bV (r.2))]):=by
 refine pin (fun r=>(V.tup [(sV (r.1)),(bV (r.2))])) r rfl Tryz.func85 rfl rfl rfl rfl rfl (fun w0 m0 hg=>?_)
 unfold M85 at h
 refine rn 9 rfl ?_
 refine cl h rfl rfl rfl (W114 _ _ _) rfl (fun y3 hx4 h=>?_)
 refine rn 5 rfl ?_
 exact rt h rfl
theorem W86(F:Nat)(a1:(List UInt8))(r:Int×Unit)(h:M86 F a1=some r):PureG gl Tryz.prog 86 [(sV a1)] (V.tup [(iV r.1),V.con .nilIface]):=by
 unfold M86 at h
 cases hn:Lib.atoi a1 with
 |none=>rw[hn] at h;cases h
 |some n=>
  rw[hn] at h
  obtain⟨hc,h⟩:=chk_some h
  replace h:=ae8 h
  subst h
  exact pure_atoi hc (fun w h1=>Go.Proofs.Tryz.strconv_Atoi _ n h1 hn w)
theorem W57(F:Nat)(a1:Bool)(a2:Tpolicy_reader)(r:(Int×Int×Int×(List UInt8)×Int×Int×Int))(h:M57 F a1 a2=some r):MutG gl Tryz.prog 57 [(V.ptr 0 7 0 0),(bV a1)] 1 [(0,(Ob.arr 73 7 [(encTpolicy_reader a2)]))] (resV [(iV (r.1))]) 1 [(0,(Ob.arr 73 7 [[(sV a2.s),(iV (r.2.1)),(iV (r.2.2.1)),(sV (r.2.2.2.1)),(iV (r.2.2.2.2.1)),(iV (r.2.2.2.2.2.1)),(iV (r.2.2.2.2.2.2))]]))]:=by
 refine mut_enter Tryz.func57 rfl rfl (l:=[.tmp 4]) rfl rfl [(0,(V.ptr 0 7 0 0)),(1,(bV a1))] rfl (fun w0 m0 β0 hg=>en ?_)
 unfold M57 at h
 refine rn 11 rfl ?_
 refine cl h rfl rfl rfl (W85 _ _ _) rfl (fun y139 hx140 h=>?_)
 refine rn 15 rfl ?_
 refine spO 26 h rfl (fun hb141 h=>?_) (fun hb141 h=>?_)
 ·refine rn 2 rfl ?_
  refine spO 28 h rfl (fun hb142 h=>?_) (fun hb142 h=>?_)
  ·refine rn 9 rfl ?_
   refine spO 37 h rfl (fun hb143 h=>?_) (fun hb143 h=>?_)
   ·refine rn 13 rfl ?_
    refine jK h (fun(p:Bool)=>(⟨[(0,(V.ptr 0 7 0 0)),(5,(sV (y139.1))),(6,(bV (y139.2))),(7,(bV p))],[(0,(Ob.arr 73 7 [(encTpolicy_reader a2)]))],1⟩:St)) (fun k144 p=>k144 p=some r) (fun k144 h=>?_) ?_
    ·refine rn 1 rfl ?_
     refine ck h (fun hA159 h=>?_)
     refine lC (fun(p:Bool×Int)=>(⟨[(0,(V.ptr 0 7 0 0)),(5,(sV (y139.1))),(6,(bV (y139.2))),(7,(bV (p.1))),(43,(iV ((y139.1).length:Int))),(44,(iV (p.2)))],[(0,(Ob.arr 73 7 [(encTpolicy_reader a2)]))],1⟩:St)) (fun n p=>RC ((y139.1).length:Int) (fun tl nn=>M57_L1 F y139 k144 tl nn p.1=some r) n p.2) (fun p h=>RC.zero h) (Int.toNat ((y139.1).length:Int)+1) ((decide (((y139.1).length:Int)<=13)),0) (RC.start h) (gr [0] rfl (hB rfl rfl rfl .nil) rfl) (fun n p h=>?_)
     obtain⟨b148,n149⟩:=p
     refine rn 5 rfl ?_
     refine spL rfl (fun hb150=>?_) (fun hb150=>?_)
     ·obtain⟨tl,h,hk1⟩:=RC.t hA159 h hb150
      unfold M57_L1 at h
      refine rn 2 rfl ?_
      refine jK h (fun(p:Bool)=>(⟨[(0,(V.ptr 0 7 0 0)),(5,(sV (y139.1))),(6,(bV (y139.2))),(7,(bV p)),(43,(iV ((y139.1).length:Int))),(44,(iV n149))],[(0,(Ob.arr 73 7 [(encTpolicy_reader a2)]))],1⟩:St)) (fun k151 p=>k151 p=some r) (fun k151 h=>?_) ?_
      ·refine rn 9 rfl ?_
       refine spO 48 h rfl (fun hb153 h=>?_) (fun hb153 h=>?_)
       ·refine rn 2 rfl ?_
        refine ixs h rfl rfl (fun c154 hx155 h=>?_)
        refine rn 3 rfl ?_
        refine spO 54 h rfl (fun hb156 h=>?_) (fun hb156 h=>?_)
        ·refine rn 2 rfl ?_
         refine ixs h rfl rfl (fun c157 hx158 h=>?_)
         refine rn 5 rfl ?_
         exact jX (decide ((c157.toNat:Int)<=57)) h (gr [0] rfl (hB rfl rfl rfl .nil) rfl)
        refine rn 8 rfl ?_
        exact jX false h (gr [0] rfl (hB rfl rfl rfl .nil) rfl)
       refine rn 14 rfl ?_
       exact jX false h (gr [0] rfl (hB rfl rfl rfl .nil) rfl)
      intro b152 h
      refine rn 4 rfl ?_
      exact jX (b152,(w64 (n149+1))) (hk1 _ h) (gr [0] rfl (hB rfl rfl rfl .nil) rfl)
     replace h:=RC.f h hb150
     unfold M57_L1 at h
     refine rn 1 rfl ?_
     exact jX b148 h (gr [0] rfl (hB rfl rfl rfl .nil) rfl)
    intro b145 h
    refine rn 5 rfl ?_
    refine spO 62 h rfl (fun hb160 h=>?_) (fun hb160 h=>?_)
    ·refine rn 1 rfl ?_
     refine ixs h rfl rfl (fun c161 hx162 h=>?_)
     refine rn 3 rfl ?_
     refine spO 67 h rfl (fun hb163 h=>?_) (fun hb163 h=>?_)
     ·refine rn 4 rfl ?_
      refine spO 71 h rfl (fun hb164 h=>?_) (fun hb164 h=>?_)
      ·obtain⟨y165,hx166,h⟩:=bind_some h
       refine rn 23 rfl ?_
       refine aops_mcallS (V.tup []) [(V.ptr 0 7 0 0),(iV a2.now.at_),(iV 6)] (fun i=>([0]:List Nat).getD i 0) (fun i=>([0]:List Nat).getD i 0) 1 1 [(0,(Ob.arr 73 7 [[(sV a2.s),(iV a2.end_),(iV a2.now.kind),(sV a2.now.text),(iV a2.now.at_),(iV (y165.1)),(iV (y165.2))]]))] fOk26 wants_none rfl (evm_cons rfl (evm_cons rfl (evm_cons rfl evm_nil))) (.cons (Sub.ptr rfl rfl) (.cons (Sub.imm (Imm.con _)) (.cons (Sub.imm (Imm.con _)) .nil))) (.cons rfl (ObSub.box (.cons (Sub.imm (Imm.con _)) (.cons (Sub.imm (Imm.con _)) (.cons (Sub.imm (Imm.con _)) (.cons (Sub.imm (Imm.con _)) (.cons (Sub.imm (Imm.con _)) (.cons (Sub.imm (Imm.con _)) (.cons (Sub.imm (Imm.con _)) .nil)))))))) .nil) (W26 F a2.now.at_ 6 a2 y165 hx166) rfl rfl rfl rfl (Sub.immT (Imm.tup .nil)) (.cons rfl (ObSub.box (.cons (Sub.immT (Imm.con _)) (.cons (Sub.immT (Imm.con _)) (.cons (Sub.immT (Imm.con _)) (.cons (Sub.immT (Imm.con _)) (.cons (Sub.immT (Imm.con _)) (.cons (Sub.immT (Imm.con _)) (.cons (Sub.immT (Imm.con _)) .nil)))))))) .nil) _ rfl ?_
       refine fo (rn 5 rfl ?_)
       replace h:=ae8 h
       subst h
       exact wR ⟨.inl rfl,[(4,(iV 0))],(gr [0] rfl (hB rfl rfl rfl .nil) rfl),(.cons (.tmp rfl) .nil)⟩
      refine rn 4 rfl ?_
      refine jK h (fun(p:Bool)=>(⟨[(0,(V.ptr 0 7 0 0)),(7,(bV p))],[(0,(Ob.arr 73 7 [(encTpolicy_reader a2)]))],1⟩:St)) (fun k167 p=>k167 p=some r) (fun k167 h=>?_) ?_
      ·refine spC h rfl (fun hb169 h=>?_) (fun hb169 h=>?_)
       ·refine rn 3 rfl ?_
        exact jX false h (gr [0] rfl (hB rfl rfl rfl .nil) rfl)
       refine rn 1 rfl ?_
       exact jX b145 h (gr [0] rfl (hB rfl rfl rfl .nil) rfl)
      intro b168 h
      refine rn 6 rfl ?_
      refine spC h rfl (fun hb170 h=>?_) (fun hb170 h=>?_)
      ·obtain⟨y171,hx172,h⟩:=bind_some h
       refine rn 8 rfl ?_
       refine aops_mcallS (V.tup []) [(V.ptr 0 7 0 0),(iV a2.now.at_),(iV 6)] (fun i=>([0]:List Nat).getD i 0) (fun i=>([0]:List Nat).getD i 0) 1 1 [(0,(Ob.arr 73 7 [[(sV a2.s),(iV a2.end_),(iV a2.now.kind),(sV a2.now.text),(iV a2.now.at_),(iV (y171.1)),(iV (y171.2))]]))] fOk26 wants_none rfl (evm_cons rfl (evm_cons rfl (evm_cons rfl evm_nil))) (.cons (Sub.ptr rfl rfl) (.cons (Sub.imm (Imm.con _)) (.cons (Sub.imm (Imm.con _)) .nil))) (.cons rfl (ObSub.box (.cons (Sub.imm (Imm.con _)) (.cons (Sub.imm (Imm.con _)) (.cons (Sub.imm (Imm.con _)) (.cons (Sub.imm (Imm.con _)) (.cons (Sub.imm (Imm.con _)) (.cons (Sub.imm (Imm.con _)) (.cons (Sub.imm (Imm.con _)) .nil)))))))) .nil) (W26 F a2.now.at_ 6 a2 y171 hx172) rfl rfl rfl rfl (Sub.immT (Imm.tup .nil)) (.cons rfl (ObSub.box (.cons (Sub.immT (Imm.con _)) (.cons (Sub.immT (Imm.con _)) (.cons (Sub.immT (Imm.con _)) (.cons (Sub.immT (Imm.con _)) (.cons (Sub.immT (Imm.con _)) (.cons (Sub.immT (Imm.con _)) (.cons (Sub.immT (Imm.con _)) .nil)))))))) .nil) _ rfl ?_
       refine fo (rn 5 rfl ?_)
       replace h:=ae8 h
       subst h
       exact wR ⟨.inl rfl,[(4,(iV 0))],(gr [0] rfl (hB rfl rfl rfl .nil) rfl),(.cons (.tmp rfl) .nil)⟩
      refine rn 8 rfl ?_
      refine cl h rfl rfl rfl (W86 _ _) rfl (fun y173 hx174 h=>?_)
      obtain⟨y175,hx176,h⟩:=bind_some h
      refine rn 9 rfl ?_
      refine aops_mcallS (V.tup []) [(V.ptr 0 7 0 0)] (fun i=>([0]:List Nat).getD i 0) (fun i=>([0]:List Nat).getD i 0) 1 1 [(0,(Ob.arr 73 7 [[(sV a2.s),(iV (y175.1)),(iV (y175.2.1)),(sV (y175.2.2.1)),(iV (y175.2.2.2.1)),(iV (y175.2.2.2.2.1)),(iV (y175.2.2.2.2.2))]]))] fOk22 wants_none rfl (evm_cons rfl evm_nil) (.cons (Sub.ptr rfl rfl) .nil) (.cons rfl (ObSub.box (.cons (Sub.imm (Imm.con _)) (.cons (Sub.imm (Imm.con _)) (.cons (Sub.imm (Imm.con _)) (.cons (Sub.imm (Imm.con _)) (.cons (Sub.imm (Imm.con _)) (.cons (Sub.imm (Imm.con _)) (.cons (Sub.imm (Imm.con _)) .nil)))))))) .nil) (W22 F a2 y175 hx176) rfl rfl rfl rfl (Sub.immT (Imm.tup .nil)) (.cons rfl (ObSub.box (.cons (Sub.immT (Imm.con _)) (.cons (Sub.immT (Imm.con _)) (.cons (Sub.immT (Imm.con _)) (.cons (Sub.immT (Imm.con _)) (.cons (Sub.immT (Imm.con _)) (.cons (Sub.immT (Imm.con _)) (.cons (Sub.immT (Imm.con _)) .nil)))))))) .nil) _ rfl ?_
      refine fo (rn 6 rfl ?_)
      replace h:=ae8 h
      subst h
      exact wR ⟨.inl rfl,[(4,(iV (y173.1)))],(gr [0] rfl (hB rfl rfl rfl .nil) rfl),(.cons (.tmp rfl) .nil)⟩
     refine rn 16 rfl ?_
     refine spC h rfl (fun hb177 h=>?_) (fun hb177 h=>?_)
     ·obtain⟨y178,hx179,h⟩:=bind_some h
      refine rn 8 rfl ?_
      refine aops_mcallS (V.tup []) [(V.ptr 0 7 0 0),(iV a2.now.at_),(iV 6)] (fun i=>([0]:List Nat).getD i 0) (fun i=>([0]:List Nat).getD i 0) 1 1 [(0,(Ob.arr 73 7 [[(sV a2.s),(iV a2.end_),(iV a2.now.kind),(sV a2.now.text),(iV a2.now.at_),(iV (y178.1)),(iV (y178.2))]]))] fOk26 wants_none rfl (evm_cons rfl (evm_cons rfl (evm_cons rfl evm_nil))) (.cons (Sub.ptr rfl rfl) (.cons (Sub.imm (Imm.con _)) (.cons (Sub.imm (Imm.con _)) .nil))) (.cons rfl (ObSub.box (.cons (Sub.imm (Imm.con _)) (.cons (Sub.imm (Imm.con _)) (.cons (Sub.imm (Imm.con _)) (.cons (Sub.imm (Imm.con _)) (.cons (Sub.imm (Imm.con _)) (.cons (Sub.imm (Imm.con _)) (.cons (Sub.imm (Imm.con _)) .nil)))))))) .nil) (W26 F a2.now.at_ 6 a2 y178 hx179) rfl rfl rfl rfl (Sub.immT (Imm.tup .nil)) (.cons rfl (ObSub.box (.cons (Sub.immT (Imm.con _)) (.cons (Sub.immT (Imm.con _)) (.cons (Sub.immT (Imm.con _)) (.cons (Sub.immT (Imm.con _)) (.cons (Sub.immT (Imm.con _)) (.cons (Sub.immT (Imm.con _)) (.cons (Sub.immT (Imm.con _)) .nil)))))))) .nil) _ rfl ?_
      refine fo (rn 5 rfl ?_)
      replace h:=ae8 h
      subst h
      exact wR ⟨.inl rfl,[(4,(iV 0))],(gr [0] rfl (hB rfl rfl rfl .nil) rfl),(.cons (.tmp rfl) .nil)⟩
     refine rn 8 rfl ?_
     refine cl h rfl rfl rfl (W86 _ _) rfl (fun y180 hx181 h=>?_)
     obtain⟨y182,hx183,h⟩:=bind_some h
     refine rn 9 rfl ?_
     refine aops_mcallS (V.tup []) [(V.ptr 0 7 0 0)] (fun i=>([0]:List Nat).getD i 0) (fun i=>([0]:List Nat).getD i 0) 1 1 [(0,(Ob.arr 73 7 [[(sV a2.s),(iV (y182.1)),(iV (y182.2.1)),(sV (y182.2.2.1)),(iV (y182.2.2.2.1)),(iV (y182.2.2.2.2.1)),(iV (y182.2.2.2.2.2))]]))] fOk22 wants_none rfl (evm_cons rfl evm_nil) (.cons (Sub.ptr rfl rfl) .nil) (.cons rfl (ObSub.box (.cons (Sub.imm (Imm.con _)) (.cons (Sub.imm (Imm.con _)) (.cons (Sub.imm (Imm.con _)) (.cons (Sub.imm (Imm.con _)) (.cons (Sub.imm (Imm.con _)) (.cons (Sub.imm (Imm.con _)) (.cons (Sub.imm (Imm.con _)) .nil)))))))) .nil) (W22 F a2 y182 hx183) rfl rfl rfl rfl (Sub.immT (Imm.tup .nil)) (.cons rfl (ObSub.box (.cons (Sub.immT (Imm.con _)) (.cons (Sub.immT (Imm.con _)) (.cons (Sub.immT (Imm.con _)) (.cons (Sub.immT (Imm.con _)) (.cons (Sub.immT (Imm.con _)) (.cons (Sub.immT (Imm.con _)) (.cons (Sub.immT (Imm.con _)) .nil)))))))) .nil) _ rfl ?_
     refine fo (rn 6 rfl ?_)
     replace h:=ae8 h
     subst h
     exact wR ⟨.inl rfl,[(4,(iV (y180.1)))],(gr [0] rfl (hB rfl rfl rfl .nil) rfl),(.cons (.tmp rfl) .nil)⟩
    refine rn 21 rfl ?_
    refine spC h rfl (fun hb184 h=>?_) (fun hb184 h=>?_)
    ·obtain⟨y185,hx186,h⟩:=bind_some h
     refine rn 8 rfl ?_
     refine aops_mcallS (V.tup []) [(V.ptr 0 7 0 0),(iV a2.now.at_),(iV 6)] (fun i=>([0]:List Nat).getD i 0) (fun i=>([0]:List Nat).getD i 0) 1 1 [(0,(Ob.arr 73 7 [[(sV a2.s),(iV a2.end_),(iV a2.now.kind),(sV a2.now.text),(iV a2.now.at_),(iV (y185.1)),(iV (y185.2))]]))] fOk26 wants_none rfl (evm_cons rfl (evm_cons rfl (evm_cons rfl evm_nil))) (.cons (Sub.ptr rfl rfl) (.cons (Sub.imm (Imm.con _)) (.cons (Sub.imm (Imm.con _)) .nil))) (.cons rfl (ObSub.box (.cons (Sub.imm (Imm.con _)) (.cons (Sub.imm (Imm.con _)) (.cons (Sub.imm (Imm.con _)) (.cons (Sub.imm (Imm.con _)) (.cons (Sub.imm (Imm.con _)) (.cons (Sub.imm (Imm.con _)) (.cons (Sub.imm (Imm.con _)) .nil)))))))) .nil) (W26 F a2.now.at_ 6 a2 y185 hx186) rfl rfl rfl rfl (Sub.immT (Imm.tup .nil)) (.cons rfl (ObSub.box (.cons (Sub.immT (Imm.con _)) (.cons (Sub.immT (Imm.con _)) (.cons (Sub.immT (Imm.con _)) (.cons (Sub.immT (Imm.con _)) (.cons (Sub.immT (Imm.con _)) (.cons (Sub.immT (Imm.con _)) (.cons (Sub.immT (Imm.con _)) .nil)))))))) .nil) _ rfl ?_
     refine fo (rn 5 rfl ?_)
     replace h:=ae8 h
     subst h
     exact wR ⟨.inl rfl,[(4,(iV 0))],(gr [0] rfl (hB rfl rfl rfl .nil) rfl),(.cons (.tmp rfl) .nil)⟩
    refine rn 8 rfl ?_
    refine cl h rfl rfl rfl (W86 _ _) rfl (fun y187 hx188 h=>?_)
    obtain⟨y189,hx190,h⟩:=bind_some h
    refine rn 9 rfl ?_
    refine aops_mcallS (V.tup []) [(V.ptr 0 7 0 0)] (fun i=>([0]:List Nat).getD i 0) (fun i=>([0]:List Nat).getD i 0) 1 1 [(0,(Ob.arr 73 7 [[(sV a2.s),(iV (y189.1)),(iV (y189.2.1)),(sV (y189.2.2.1)),(iV (y189.2.2.2.1)),(iV (y189.2.2.2.2.1)),(iV (y189.2.2.2.2.2))]]))] fOk22 wants_none rfl (evm_cons rfl evm_nil) (.cons (Sub.ptr rfl rfl) .nil) (.cons rfl (ObSub.box (.cons (Sub.imm (Imm.con _)) (.cons (Sub.imm (Imm.con _)) (.cons (Sub.imm (Imm.con _)) (.cons (Sub.imm (Imm.con _)) (.cons (Sub.imm (Imm.con _)) (.cons (Sub.imm (Imm.con _)) (.cons (Sub.imm (Imm.con _)) .nil)))))))) .nil) (W22 F a2 y189 hx190) rfl rfl rfl rfl (Sub.immT (Imm.tup .nil)) (.cons rfl (ObSub.box (.cons (Sub.immT (Imm.con _)) (.cons (Sub.immT (Imm.con _)) (.cons (Sub.immT (Imm.con _)) (.cons (Sub.immT (Imm.con _)) (.cons (Sub.immT (Imm.con _)) (.cons (Sub.immT (Imm.con _)) (.cons (Sub.immT (Imm.con _)) .nil)))))))) .nil) _ rfl ?_
    refine fo (rn 6 rfl ?_)
    replace h:=ae8 h
    subst h
    exact wR ⟨.inl rfl,[(4,(iV (y187.1)))],(gr [0] rfl (hB rfl rfl rfl .nil) rfl),(.cons (.tmp rfl) .nil)⟩
   refine rn 13 rfl ?_
   refine jK h (fun _:Unit=>(⟨[(0,(V.ptr 0 7 0 0)),(5,(sV (y139.1))),(6,(bV (y139.2))),(7,(bV false))],[(0,(Ob.arr 73 7 [(encTpolicy_reader a2)]))],1⟩:St)) (fun k191 (_:Unit)=>k191=some r) (fun k191 h=>?_) ?_
   ·refine rn 1 rfl ?_
    refine ck h (fun hA195 h=>?_)
    refine lC (fun(p:Int)=>(⟨[(0,(V.ptr 0 7 0 0)),(5,(sV (y139.1))),(6,(bV (y139.2))),(7,(bV false)),(43,(iV ((y139.1).length:Int))),(44,(iV p))],[(0,(Ob.arr 73 7 [(encTpolicy_reader a2)]))],1⟩:St)) (fun n p=>RC ((y139.1).length:Int) (fun tl nn=>M57_L2 F k191 tl=some r) n p) (fun p h=>RC.zero h) (Int.toNat ((y139.1).length:Int)+1) 0 (RC.start h) (gr [0] rfl (hB rfl rfl rfl .nil) rfl) (fun n n193 h=>?_)
    refine rn 5 rfl ?_
    refine spL rfl (fun hb194=>?_) (fun hb194=>?_)
    ·obtain⟨tl,h,hk2⟩:=RC.t hA195 h hb194
     unfold M57_L2 at h
     refine rn 29 rfl ?_
     exact jX (w64 (n193+1)) (hk2 _ h) (gr [0] rfl (hB rfl rfl rfl .nil) rfl)
    replace h:=RC.f h hb194
    unfold M57_L2 at h
    refine rn 1 rfl ?_
    exact jX () h (gr [0] rfl (hB rfl rfl rfl .nil) rfl)
   intro _ h
   obtain⟨y196,hx197,h⟩:=bind_some h
   refine rn 35 rfl ?_
   refine aops_mcallS (V.tup []) [(V.ptr 0 7 0 0),(iV a2.now.at_),(iV 6)] (fun i=>([0]:List Nat).getD i 0) (fun i=>([0]:List Nat).getD i 0) 1 1 [(0,(Ob.arr 73 7 [[(sV a2.s),(iV a2.end_),(iV a2.now.kind),(sV a2.now.text),(iV a2.now.at_),(iV (y196.1)),(iV (y196.2))]]))] fOk26 wants_none rfl (evm_cons rfl (evm_cons rfl (evm_cons rfl evm_nil))) (.cons (Sub.ptr rfl rfl) (.cons (Sub.imm (Imm.con _)) (.cons (Sub.imm (Imm.con _)) .nil))) (.cons rfl (ObSub.box (.cons (Sub.imm (Imm.con _)) (.cons (Sub.imm (Imm.con _)) (.cons (Sub.imm (Imm.con _)) (.cons (Sub.imm (Imm.con _)) (.cons (Sub.imm (Imm.con _)) (.cons (Sub.imm (Imm.con _)) (.cons (Sub.imm (Imm.con _)) .nil)))))))) .nil) (W26 F a2.now.at_ 6 a2 y196 hx197) rfl rfl rfl rfl (Sub.immT (Imm.tup .nil)) (.cons rfl (ObSub.box (.cons (Sub.immT (Imm.con _)) (.cons (Sub.immT (Imm.con _)) (.cons (Sub.immT (Imm.con _)) (.cons (Sub.immT (Imm.con _)) (.cons (Sub.immT (Imm.con _)) (.cons (Sub.immT (Imm.con _)) (.cons (Sub.immT (Imm.con _)) .nil)))))))) .nil) _ rfl ?_
   refine fo (rn 5 rfl ?_)
   replace h:=ae8 h
   subst h
   exact wR ⟨.inl rfl,[(4,(iV 0))],(gr [0] rfl (hB rfl rfl rfl .nil) rfl),(.cons (.tmp rfl) .nil)⟩
  refine rn 5 rfl ?_
  refine spO 33 h rfl (fun hb198 h=>?_) (fun hb198 h=>?_)
  ·refine rn 4 rfl ?_
   refine spO 37 h rfl (fun hb199 h=>?_) (fun hb199 h=>?_)
   ·refine rn 13 rfl ?_
    refine jK h (fun(p:Bool)=>(⟨[(0,(V.ptr 0 7 0 0)),(5,(sV (y139.1))),(6,(bV (y139.2))),(7,(bV p))],[(0,(Ob.arr 73 7 [(encTpolicy_reader a2)]))],1⟩:St)) (fun k200 p=>k200 p=some r) (fun k200 h=>?_) ?_
    ·refine rn 1 rfl ?_
     refine ck h (fun hA215 h=>?_)
     refine lC (fun(p:Bool×Int)=>(⟨[(0,(V.ptr 0 7 0 0)),(5,(sV (y139.1))),(6,(bV (y139.2))),(7,(bV (p.1))),(43,(iV ((y139.1).length:Int))),(44,(iV (p.2)))],[(0,(Ob.arr 73 7 [(encTpolicy_reader a2)]))],1⟩:St)) (fun n p=>RC ((y139.1).length:Int) (fun tl nn=>M57_L3 F y139 k200 tl nn p.1=some r) n p.2) (fun p h=>RC.zero h) (Int.toNat ((y139.1).length:Int)+1) ((decide (((y139.1).length:Int)<=13)),0) (RC.start h) (gr [0] rfl (hB rfl rfl rfl .nil) rfl) (fun n p h=>?_)
     obtain⟨b204,n205⟩:=p
     refine rn 5 rfl ?_
     refine spL rfl (fun hb206=>?_) (fun hb206=>?_)
     ·obtain⟨tl,h,hk3⟩:=RC.t hA215 h hb206
      unfold M57_L3 at h
      refine rn 2 rfl ?_
      refine jK h (fun(p:Bool)=>(⟨[(0,(V.ptr 0 7 0 0)),(5,(sV (y139.1))),(6,(bV (y139.2))),(7,(bV p)),(43,(iV ((y139.1).length:Int))),(44,(iV n205))],[(0,(Ob.arr 73 7 [(encTpolicy_reader a2)]))],1⟩:St)) (fun k207 p=>k207 p=some r) (fun k207 h=>?_) ?_
      ·refine rn 9 rfl ?_
       refine spO 48 h rfl (fun hb209 h=>?_) (fun hb209 h=>?_)
       ·refine rn 2 rfl ?_
        refine ixs h rfl rfl (fun c210 hx211 h=>?_)
        refine rn 3 rfl ?_
        refine spO 54 h rfl (fun hb212 h=>?_) (fun hb212 h=>?_)
        ·refine rn 2 rfl ?_
         refine ixs h rfl rfl (fun c213 hx214 h=>?_)
         refine rn 5 rfl ?_
         exact jX (decide ((c213.toNat:Int)<=57)) h (gr [0] rfl (hB rfl rfl rfl .nil) rfl)
        refine rn 8 rfl ?_
        exact jX false h (gr [0] rfl (hB rfl rfl rfl .nil) rfl)
       refine rn 14 rfl ?_
       exact jX false h (gr [0] rfl (hB rfl rfl rfl .nil) rfl)
      intro b208 h
      refine rn 4 rfl ?_
      exact jX (b208,(w64 (n205+1))) (hk3 _ h) (gr [0] rfl (hB rfl rfl rfl .nil) rfl)
     replace h:=RC.f h hb206
     unfold M57_L3 at h
     refine rn 1 rfl ?_
     exact jX b204 h (gr [0] rfl (hB rfl rfl rfl .nil) rfl)
    intro b201 h
    refine rn 5 rfl ?_
    refine spO 62 h rfl (fun hb216 h=>?_) (fun hb216 h=>?_)
    ·refine rn 1 rfl ?_
     refine ixs h rfl rfl (fun c217 hx218 h=>?_)
     refine rn 3 rfl ?_
     refine spO 67 h rfl (fun hb219 h=>?_) (fun hb219 h=>?_)
     ·refine rn 4 rfl ?_
      refine spO 71 h rfl (fun hb220 h=>?_) (fun hb220 h=>?_)
      ·obtain⟨y221,hx222,h⟩:=bind_some h
       refine rn 23 rfl ?_
       refine aops_mcallS (V.tup []) [(V.ptr 0 7 0 0),(iV a2.now.at_),(iV 6)] (fun i=>([0]:List Nat).getD i 0) (fun i=>([0]:List Nat).getD i 0) 1 1 [(0,(Ob.arr 73 7 [[(sV a2.s),(iV a2.end_),(iV a2.now.kind),(sV a2.now.text),(iV a2.now.at_),(iV (y221.1)),(iV (y221.2))]]))] fOk26 wants_none rfl (evm_cons rfl (evm_cons rfl (evm_cons rfl evm_nil))) (.cons (Sub.ptr rfl rfl) (.cons (Sub.imm (Imm.con _)) (.cons (Sub.imm (Imm.con _)) .nil))) (.cons rfl (ObSub.box (.cons (Sub.imm (Imm.con _)) (.cons (Sub.imm (Imm.con _)) (.cons (Sub.imm (Imm.con _)) (.cons (Sub.imm (Imm.con _)) (.cons (Sub.imm (Imm.con _)) (.cons (Sub.imm (Imm.con _)) (.cons (Sub.imm (Imm.con _)) .nil)))))))) .nil) (W26 F a2.now.at_ 6 a2 y221 hx222) rfl rfl rfl rfl (Sub.immT (Imm.tup .nil)) (.cons rfl (ObSub.box (.cons (Sub.immT (Imm.con _)) (.cons (Sub.immT (Imm.con _)) (.cons (Sub.immT (Imm.con _)) (.cons (Sub.immT (Imm.con _)) (.cons (Sub.immT (Imm.con _)) (.cons (Sub.immT (Imm.con _)) (.cons (Sub.immT (Imm.con _)) .nil)))))))) .nil) _ rfl ?_
       refine fo (rn 5 rfl ?_)
       replace h:=ae8 h
       subst h
       exact wR ⟨.inl rfl,[(4,(iV 0))],(gr [0] rfl (hB rfl rfl rfl .nil) rfl),(.cons (.tmp rfl) .nil)⟩
      refine rn 4 rfl ?_
      refine jK h (fun(p:Bool)=>(⟨[(0,(V.ptr 0 7 0 0)),(7,(bV p))],[(0,(Ob.arr 73 7 [(encTpolicy_reader a2)]))],1⟩:St)) (fun k223 p=>k223 p=some r) (fun k223 h=>?_) ?_
      ·refine spC h rfl (fun hb225 h=>?_) (fun hb225 h=>?_)
       ·refine rn 3 rfl ?_
        exact jX false h (gr [0] rfl (hB rfl rfl rfl .nil) rfl)
       refine rn 1 rfl ?_
       exact jX b201 h (gr [0] rfl (hB rfl rfl rfl .nil) rfl)
      intro b224 h
      refine rn 6 rfl ?_
      refine spC h rfl (fun hb226 h=>?_) (fun hb226 h=>?_)
      ·obtain⟨y227,hx228,h⟩:=bind_some h
       refine rn 8 rfl ?_
       refine aops_mcallS (V.tup []) [(V.ptr 0 7 0 0),(iV a2.now.at_),(iV 6)] (fun i=>([0]:List Nat).getD i 0) (fun i=>([0]:List Nat).getD i 0) 1 1 [(0,(Ob.arr 73 7 [[(sV a2.s),(iV a2.end_),(iV a2.now.kind),(sV a2.now.text),(iV a2.now.at_),(iV (y227.1)),(iV (y227.2))]]))] fOk26 wants_none rfl (evm_cons rfl (evm_cons rfl (evm_cons rfl evm_nil))) (.cons (Sub.ptr rfl rfl) (.cons (Sub.imm (Imm.con _)) (.cons (Sub.imm (Imm.con _)) .nil))) (.cons rfl (ObSub.box (.cons (Sub.imm (Imm.con _)) (.cons (Sub.imm (Imm.con _)) (.cons (Sub.imm (Imm.con _)) (.cons (Sub.imm (Imm.con _)) (.cons (Sub.imm (Imm.con _)) (.cons (Sub.imm (Imm.con _)) (.cons (Sub.imm (Imm.con _)) .nil)))))))) .nil) (W26 F a2.now.at_ 6 a2 y227 hx228) rfl rfl rfl rfl (Sub.immT (Imm.tup .nil)) (.cons rfl (ObSub.box (.cons (Sub.immT (Imm.con _)) (.cons (Sub.immT (Imm.con _)) (.cons (Sub.immT (Imm.con _)) (.cons (Sub.immT (Imm.con _)) (.cons (Sub.immT (Imm.con _)) (.cons (Sub.immT (Imm.con _)) (.cons (Sub.immT (Imm.con _)) .nil)))))))) .nil) _ rfl ?_
       refine fo (rn 5 rfl ?_)
       replace h:=ae8 h
       subst h
       exact wR ⟨.inl rfl,[(4,(iV 0))],(gr [0] rfl (hB rfl rfl rfl .nil) rfl),(.cons (.tmp rfl) .nil)⟩
      refine rn 8 rfl ?_
      refine cl h rfl rfl rfl (W86 _ _) rfl (fun y229 hx230 h=>?_)
      obtain⟨y231,hx232,h⟩:=bind_some h
      refine rn 9 rfl ?_
      refine aops_mcallS (V.tup []) [(V.ptr 0 7 0 0)] (fun i=>([0]:List Nat).getD i 0) (fun i=>([0]:List Nat).getD i 0) 1 1 [(0,(Ob.arr 73 7 [[(sV a2.s),(iV (y231.1)),(iV (y231.2.1)),(sV (y231.2.2.1)),(iV (y231.2.2.2.1)),(iV (y231.2.2.2.2.1)),(iV (y231.2.2.2.2.2))]]))] fOk22 wants_none rfl (evm_cons rfl evm_nil) (.cons (Sub.ptr rfl rfl) .nil) (.cons rfl (ObSub.box (.cons (Sub.imm (Imm.con _)) (.cons (Sub.imm (Imm.con _)) (.cons (Sub.imm (Imm.con _)) (.cons (Sub.imm (Imm.con _)) (.cons (Sub.imm (Imm.con _)) (.cons (Sub.imm (Imm.con _)) (.cons (Sub.imm (Imm.con _)) .nil)))))))) .nil) (W22 F a2 y231 hx232) rfl rfl rfl rfl (Sub.immT (Imm.tup .nil)) (.cons rfl (ObSub.box (.cons (Sub.immT (Imm.con _)) (.cons (Sub.immT (Imm.con _)) (.cons (Sub.immT (Imm.con _)) (.cons (Sub.immT (Imm.con _)) (.cons (Sub.immT (Imm.con _)) (.cons (Sub.immT (Imm.con _)) (.cons (Sub.immT (Imm.con _)) .nil)))))))) .nil) _ rfl ?_
      refine fo (rn 6 rfl ?_)
      replace h:=ae8 h
      subst h
      exact wR ⟨.inl rfl,[(4,(iV (y229.1)))],(gr [0] rfl (hB rfl rfl rfl .nil) rfl),(.cons (.tmp rfl) .nil)⟩
     refine rn 16 rfl ?_
     refine spC h rfl (fun hb233 h=>?_) (fun hb233 h=>?_)
     ·obtain⟨y234,hx235,h⟩:=bind_some h
      refine rn 8 rfl ?_
      refine aops_mcallS (V.tup []) [(V.ptr 0 7 0 0),(iV a2.now.at_),(iV 6)] (fun i=>([0]:List Nat).getD i 0) (fun i=>([0]:List Nat).getD i 0) 1 1 [(0,(Ob.arr 73 7 [[(sV a2.s),(iV a2.end_),(iV a2.now.kind),(sV a2.now.text),(iV a2.now.at_),(iV (y234.1)),(iV (y234.2))]]))] fOk26 wants_none rfl (evm_cons rfl (evm_cons rfl (evm_cons rfl evm_nil))) (.cons (Sub.ptr rfl rfl) (.cons (Sub.imm (Imm.con _)) (.cons (Sub.imm (Imm.con _)) .nil))) (.cons rfl (ObSub.box (.cons (Sub.imm (Imm.con _)) (.cons (Sub.imm (Imm.con _)) (.cons (Sub.imm (Imm.con _)) (.cons (Sub.imm (Imm.con _)) (.cons (Sub.imm (Imm.con _)) (.cons (Sub.imm (Imm.con _)) (.cons (Sub.imm (Imm.con _)) .nil)))))))) .nil) (W26 F a2.now.at_ 6 a2 y234 hx235) rfl rfl rfl rfl (Sub.immT (Imm.tup .nil)) (.cons rfl (ObSub.box (.cons (Sub.immT (Imm.con _)) (.cons (Sub.immT (Imm.con _)) (.cons (Sub.immT (Imm.con _)) (.cons (Sub.immT (Imm.con _)) (.cons (Sub.immT (Imm.con _)) (.cons (Sub.immT (Imm.con _)) (.cons (Sub.immT (Imm.con _)) .nil)))))))) .nil) _ rfl ?_
      refine fo (rn 5 rfl ?_)
      replace h:=ae8 h
      subst h
      exact wR ⟨.inl rfl,[(4,(iV 0))],(gr [0] rfl (hB rfl rfl rfl .nil) rfl),(.cons (.tmp rfl) .nil)⟩
     refine rn 8 rfl ?_
     refine cl h rfl rfl rfl (W86 _ _) rfl (fun y236 hx237 h=>?_)
     obtain⟨y238,hx239,h⟩:=bind_some h
     refine rn 9 rfl ?_
     refine aops_mcallS (V.tup []) [(V.ptr 0 7 0 0)] (fun i=>([0]:List Nat).getD i 0) (fun i=>([0]:List Nat).getD i 0) 1 1 [(0,(Ob.arr 73 7 [[(sV a2.s),(iV (y238.1)),(iV (y238.2.1)),(sV (y238.2.2.1)),(iV (y238.2.2.2.1)),(iV (y238.2.2.2.2.1)),(iV (y238.2.2.2.2.2))]]))] fOk22 wants_none rfl (evm_cons rfl evm_nil) (.cons (Sub.ptr rfl rfl) .nil) (.cons rfl (ObSub.box (.cons (Sub.imm (Imm.con _)) (.cons (Sub.imm (Imm.con _)) (.cons (Sub.imm (Imm.con _)) (.cons (Sub.imm (Imm.con _)) (.cons (Sub.imm (Imm.con _)) (.cons (Sub.imm (Imm.con _)) (.cons (Sub.imm (Imm.con _)) .nil)))))))) .nil) (W22 F a2 y238 hx239) rfl rfl rfl rfl (Sub.immT (Imm.tup .nil)) (.cons rfl (ObSub.box (.cons (Sub.immT (Imm.con _)) (.cons (Sub.immT (Imm.con _)) (.cons (Sub.immT (Imm.con _)) (.cons (Sub.immT (Imm.con _)) (.cons (Sub.immT (Imm.con _)) (.cons (Sub.immT (Imm.con _)) (.cons (Sub.immT (Imm.con _)) .nil)))))))) .nil) _ rfl ?_
     refine fo (rn 6 rfl ?_)
     replace h:=ae8 h
     subst h
     exact wR ⟨.inl rfl,[(4,(iV (y236.1)))],(gr [0] rfl (hB rfl rfl rfl .nil) rfl),(.cons (.tmp rfl) .nil)⟩
    refine rn 21 rfl ?_
    refine spC h rfl (fun hb240 h=>?_) (fun hb240 h=>?_)
    ·obtain⟨y241,hx242,h⟩:=bind_some h
     refine rn 8 rfl ?_
     refine aops_mcallS (V.tup []) [(V.ptr 0 7 0 0),(iV a2.now.at_),(iV 6)] (fun i=>([0]:List Nat).getD i 0) (fun i=>([0]:List Nat).getD i 0) 1 1 [(0,(Ob.arr 73 7 [[(sV a2.s),(iV a2.end_),(iV a2.now.kind),(sV a2.now.text),(iV a2.now.at_),(iV (y241.1)),(iV (y241.2))]]))] fOk26 wants_none rfl (evm_cons rfl (evm_cons rfl (evm_cons rfl evm_nil))) (.cons (Sub.ptr rfl rfl) (.cons (Sub.imm (Imm.con _)) (.cons (Sub.imm (Imm.con _)) .nil))) (.cons rfl (ObSub.box (.cons (Sub.imm (Imm.con _)) (.cons (Sub.imm (Imm.con _)) (.cons (Sub.imm (Imm.con _)) (.cons (Sub.imm (Imm.con _)) (.cons (Sub.imm (Imm.con _)) (.cons (Sub.imm (Imm.con _)) (.cons (Sub.imm (Imm.con _)) .nil)))))))) .nil) (W26 F a2.now.at_ 6 a2 y241 hx242) rfl rfl rfl rfl (Sub.immT (Imm.tup .nil)) (.cons rfl (ObSub.box (.cons (Sub.immT (Imm.con _)) (.cons (Sub.immT (Imm.con _)) (.cons (Sub.immT (Imm.con _)) (.cons (Sub.immT (Imm.con _)) (.cons (Sub.immT (Imm.con _)) (.cons (Sub.immT (Imm.con _)) (.cons (Sub.immT (Imm.con _)) .nil)))))))) .nil) _ rfl ?_
     refine fo (rn 5 rfl ?_)
     replace h:=ae8 h
     subst h
     exact wR ⟨.inl rfl,[(4,(iV 0))],(gr [0] rfl (hB rfl rfl rfl .nil) rfl),(.cons (.tmp rfl) .nil)⟩
    refine rn 8 rfl ?_
    refine cl h rfl rfl rfl (W86 _ _) rfl (fun y243 hx244 h=>?_)
    obtain⟨y245,hx246,h⟩:=bind_some h
    refine rn 9 rfl ?_
    refine aops_mcallS (V.tup []) [(V.ptr 0 7 0 0)] (fun i=>([0]:List Nat).getD i 0) (fun i=>([0]:List Nat).getD i 0) 1 1 [(0,(Ob.arr 73 7 [[(sV a2.s),(iV (y245.1)),(iV (y245.2.1)),(sV (y245.2.2.1)),(iV (y245.2.2.2.1)),(iV (y245.2.2.2.2.1)),(iV (y245.2.2.2.2.2))]]))] fOk22 wants_none rfl (evm_cons rfl evm_nil) (.cons (Sub.ptr rfl rfl) .nil) (.cons rfl (ObSub.box (.cons (Sub.imm (Imm.con _)) (.cons (Sub.imm (Imm.con _)) (.cons (Sub.imm (Imm.con _)) (.cons (Sub.imm (Imm.con _)) (.cons (Sub.imm (Imm.con _)) (.cons (Sub.imm (Imm.con _)) (.cons (Sub.imm (Imm.con _)) .nil)))))))) .nil) (W22 F a2 y245 hx246) rfl rfl rfl rfl (Sub.immT (Imm.tup .nil)) (.cons rfl (ObSub.box (.cons (Sub.immT (Imm.con _)) (.cons (Sub.immT (Imm.con _)) (.cons (Sub.immT (Imm.con _)) (.cons (Sub.immT (Imm.con _)) (.cons (Sub.immT (Imm.con _)) (.cons (Sub.immT (Imm.con _)) (.cons (Sub.immT (Imm.con _)) .nil)))))))) .nil) _ rfl ?_
    refine fo (rn 6 rfl ?_)
    replace h:=ae8 h
    subst h
    exact wR ⟨.inl rfl,[(4,(iV (y243.1)))],(gr [0] rfl (hB rfl rfl rfl .nil) rfl),(.cons (.tmp rfl) .nil)⟩
   refine rn 13 rfl ?_
   refine jK h (fun _:Unit=>(⟨[(0,(V.ptr 0 7 0 0)),(5,(sV (y139.1))),(6,(bV (y139.2))),(7,(bV false))],[(0,(Ob.arr 73 7 [(encTpolicy_reader a2)]))],1⟩:St)) (fun k247 (_:Unit)=>k247=some r) (fun k247 h=>?_) ?_
   ·refine rn 1 rfl ?_
    refine ck h (fun hA251 h=>?_)
    refine lC (fun(p:Int)=>(⟨[(0,(V.ptr 0 7 0 0)),(5,(sV (y139.1))),(6,(bV (y139.2))),(7,(bV false)),(43,(iV ((y139.1).length:Int))),(44,(iV p))],[(0,(Ob.arr 73 7 [(encTpolicy_reader a2)]))],1⟩:St)) (fun n p=>RC ((y139.1).length:Int) (fun tl nn=>M57_L4 F k247 tl=some r) n p) (fun p h=>RC.zero h) (Int.toNat ((y139.1).length:Int)+1) 0 (RC.start h) (gr [0] rfl (hB rfl rfl rfl .nil) rfl) (fun n n249 h=>?_)
    refine rn 5 rfl ?_
    refine spL rfl (fun hb250=>?_) (fun hb250=>?_)
    ·obtain⟨tl,h,hk4⟩:=RC.t hA251 h hb250
     unfold M57_L4 at h
     refine rn 29 rfl ?_
     exact jX (w64 (n249+1)) (hk4 _ h) (gr [0] rfl (hB rfl rfl rfl .nil) rfl)
    replace h:=RC.f h hb250
    unfold M57_L4 at h
    refine rn 1 rfl ?_
    exact jX () h (gr [0] rfl (hB rfl rfl rfl .nil) rfl)
   intro _ h
   obtain⟨y252,hx253,h⟩:=bind_some h
   refine rn 35 rfl ?_
   refine aops_mcallS (V.tup []) [(V.ptr 0 7 0 0),(iV a2.now.at_),(iV 6)] (fun i=>([0]:List Nat).getD i 0) (fun i=>([0]:List Nat).getD i 0) 1 1 [(0,(Ob.arr 73 7 [[(sV a2.s),(iV a2.end_),(iV a2.now.kind),(sV a2.now.text),(iV a2.now.at_),(iV (y252.1)),(iV (y252.2))]]))] fOk26 wants_none rfl (evm_cons rfl (evm_cons rfl (evm_cons rfl evm_nil))) (.cons (Sub.ptr rfl rfl) (.cons (Sub.imm (Imm.con _)) (.cons (Sub.imm (Imm.con _)) .nil))) (.cons rfl (ObSub.box (.cons (Sub.imm (Imm.con _)) (.cons (Sub.imm (Imm.con _)) (.cons (Sub.imm (Imm.con _)) (.cons (Sub.imm (Imm.con _)) (.cons (Sub.imm (Imm.con _)) (.cons (Sub.imm (Imm.con _)) (.cons (Sub.imm (Imm.con _)) .nil)))))))) .nil) (W26 F a2.now.at_ 6 a2 y252 hx253) rfl rfl rfl rfl (Sub.immT (Imm.tup .nil)) (.cons rfl (ObSub.box (.cons (Sub.immT (Imm.con _)) (.cons (Sub.immT (Imm.con _)) (.cons (Sub.immT (Imm.con _)) (.cons (Sub.immT (Imm.con _)) (.cons (Sub.immT (Imm.con _)) (.cons (Sub.immT (Imm.con _)) (.cons (Sub.immT (Imm.con _)) .nil)))))))) .nil) _ rfl ?_
   refine fo (rn 5 rfl ?_)
   replace h:=ae8 h
   subst h
   exact wR ⟨.inl rfl,[(4,(iV 0))],(gr [0] rfl (hB rfl rfl rfl .nil) rfl),(.cons (.tmp rfl) .nil)⟩
  refine rn 17 rfl ?_
  refine jK h (fun _:Unit=>(⟨[(0,(V.ptr 0 7 0 0)),(5,(sV (y139.1))),(6,(bV (y139.2))),(7,(bV false))],[(0,(Ob.arr 73 7 [(encTpolicy_reader a2)]))],1⟩:St)) (fun k254 (_:Unit)=>k254=some r) (fun k254 h=>?_) ?_
  ·refine rn 1 rfl ?_
   refine ck h (fun hA258 h=>?_)
   refine lC (fun(p:Int)=>(⟨[(0,(V.ptr 0 7 0 0)),(5,(sV (y139.1))),(6,(bV (y139.2))),(7,(bV false)),(43,(iV ((y139.1).length:Int))),(44,(iV p))],[(0,(Ob.arr 73 7 [(encTpolicy_reader a2)]))],1⟩:St)) (fun n p=>RC ((y139.1).length:Int) (fun tl nn=>M57_L5 F k254 tl=some r) n p) (fun p h=>RC.zero h) (Int.toNat ((y139.1).length:Int)+1) 0 (RC.start h) (gr [0] rfl (hB rfl rfl rfl .nil) rfl) (fun n n256 h=>?_)
   refine rn 5 rfl ?_
   refine spL rfl (fun hb257=>?_) (fun hb257=>?_)
   ·obtain⟨tl,h,hk5⟩:=RC.t hA258 h hb257
    unfold M57_L5 at h
    refine rn 29 rfl ?_
    exact jX (w64 (n256+1)) (hk5 _ h) (gr [0] rfl (hB rfl rfl rfl .nil) rfl)
   replace h:=RC.f h hb257
   unfold M57_L5 at h
   refine rn 1 rfl ?_
   exact jX () h (gr [0] rfl (hB rfl rfl rfl .nil) rfl)
  intro _ h
  obtain⟨y259,hx260,h⟩:=bind_some h
  refine rn 35 rfl ?_
  refine aops_mcallS (V.tup []) [(V.ptr 0 7 0 0),(iV a2.now.at_),(iV 6)] (fun i=>([0]:List Nat).getD i 0) (fun i=>([0]:List Nat).getD i 0) 1 1 [(0,(Ob.arr 73 7 [[(sV a2.s),(iV a2.end_),(iV a2.now.kind),(sV a2.now.text),(iV a2.now.at_),(iV (y259.1)),(iV (y259.2))]]))] fOk26 wants_none rfl (evm_cons rfl (evm_cons rfl (evm_cons rfl evm_nil))) (.cons (Sub.ptr rfl rfl) (.cons (Sub.imm (Imm.con _)) (.cons (Sub.imm (Imm.con _)) .nil))) (.cons rfl (ObSub.box (.cons (Sub.imm (Imm.con _)) (.cons (Sub.imm (Imm.con _)) (.cons (Sub.imm (Imm.con _)) (.cons (Sub.imm (Imm.con _)) (.cons (Sub.imm (Imm.con _)) (.cons (Sub.imm (Imm.con _)) (.cons (Sub.imm (Imm.con _)) .nil)))))))) .nil) (W26 F a2.now.at_ 6 a2 y259 hx260) rfl rfl rfl rfl (Sub.immT (Imm.tup .nil)) (.cons rfl (ObSub.box (.cons (Sub.immT (Imm.con _)) (.cons (Sub.immT (Imm.con _)) (.cons (Sub.immT (Imm.con _)) (.cons (Sub.immT (Imm.con _)) (.cons (Sub.immT (Imm.con _)) (.cons (Sub.immT (Imm.con _)) (.cons (Sub.immT (Imm.con _)) .nil)))))))) .nil) _ rfl ?_
  refine fo (rn 5 rfl ?_)
  replace h:=ae8 h
  subst h
  exact wR ⟨.inl rfl,[(4,(iV 0))],(gr [0] rfl (hB rfl rfl rfl .nil) rfl),(.cons (.tmp rfl) .nil)⟩
 refine rn 24 rfl ?_
 refine jK h (fun _:Unit=>(⟨[(0,(V.ptr 0 7 0 0)),(5,(sV (y139.1))),(6,(bV (y139.2))),(7,(bV false))],[(0,(Ob.arr 73 7 [(encTpolicy_reader a2)]))],1⟩:St)) (fun k261 (_:Unit)=>k261=some r) (fun k261 h=>?_) ?_
 ·refine rn 1 rfl ?_
  refine ck h (fun hA265 h=>?_)
  refine lC (fun(p:Int)=>(⟨[(0,(V.ptr 0 7 0 0)),(5,(sV (y139.1))),(6,(bV (y139.2))),(7,(bV false)),(43,(iV ((y139.1).length:Int))),(44,(iV p))],[(0,(Ob.arr 73 7 [(encTpolicy_reader a2)]))],1⟩:St)) (fun n p=>RC ((y139.1).length:Int) (fun tl nn=>M57_L6 F k261 tl=some r) n p) (fun p h=>RC.zero h) (Int.toNat ((y139.1).length:Int)+1) 0 (RC.start h) (gr [0] rfl (hB rfl rfl rfl .nil) rfl) (fun n n263 h=>?_)
  refine rn 5 rfl ?_
  refine spL rfl (fun hb264=>?_) (fun hb264=>?_)
  ·obtain⟨tl,h,hk6⟩:=RC.t hA265 h hb264
   unfold M57_L6 at h
   refine rn 29 rfl ?_
   exact jX (w64 (n263+1)) (hk6 _ h) (gr [0] rfl (hB rfl rfl rfl .nil) rfl)
  replace h:=RC.f h hb264
  unfold M57_L6 at h
  refine rn 1 rfl ?_
  exact jX () h (gr [0] rfl (hB rfl rfl rfl .nil) rfl)
 intro _ h
 obtain⟨y266,hx267,h⟩:=bind_some h
 refine rn 35 rfl ?_
 refine aops_mcallS (V.tup []) [(V.ptr 0 7 0 0),(iV a2.now.at_),(iV 6)] (fun i=>([0]:List Nat).getD i 0) (fun i=>([0]:List Nat).getD i 0) 1 1 [(0,(Ob.arr 73 7 [[(sV a2.s),(iV a2.end_),(iV a2.now.kind),(sV a2.now.text),(iV a2.now.at_),(iV (y266.1)),(iV (y266.2))]]))] fOk26 wants_none rfl (evm_cons rfl (evm_cons rfl (evm_cons rfl evm_nil))) (.cons (Sub.ptr rfl rfl) (.cons (Sub.imm (Imm.con _)) (.cons (Sub.imm (Imm.con _)) .nil))) (.cons rfl (ObSub.box (.cons (Sub.imm (Imm.con _)) (.cons (Sub.imm (Imm.con _)) (.cons (Sub.imm (Imm.con _)) (.cons (Sub.imm (Imm.con _)) (.cons (Sub.imm (Imm.con _)) (.cons (Sub.imm (Imm.con _)) (.cons (Sub.imm (Imm.con _)) .nil)))))))) .nil) (W26 F a2.now.at_ 6 a2 y266 hx267) rfl rfl rfl rfl (Sub.immT (Imm.tup .nil)) (.cons rfl (ObSub.box (.cons (Sub.immT (Imm.con _)) (.cons (Sub.immT (Imm.con _)) (.cons (Sub.immT (Imm.con _)) (.cons (Sub.immT (Imm.con _)) (.cons (Sub.immT (Imm.con _)) (.cons (Sub.immT (Imm.con _)) (.cons (Sub.immT (Imm.con _)) .nil)))))))) .nil) _ rfl ?_
 refine fo (rn 5 rfl ?_)
 replace h:=ae8 h
 subst h
 exact wR ⟨.inl rfl,[(4,(iV 0))],(gr [0] rfl (hB rfl rfl rfl .nil) rfl),(.cons (.tmp rfl) .nil)⟩
theorem W113(F:Nat)(a1:Tpolicy_reader)(r:(Int×Int×(List UInt8)×Int×Int×Int×Int×(List UInt8)×(List (List UInt8))×Int×Int))(h:M113 F a1=some r):MutG gl Tryz.prog 113 [(V.ptr 0 7 0 0)] 1 [(0,(Ob.arr 73 7 [(encTpolicy_reader a1)]))] (resV [(V.agg [(iV (r.2.2.2.2.2.2.1)),(sV (r.2.2.2.2.2.2.2.1)),(V.lst 1 ((r.2.2.2.2.2.2.2.2.1).map encS)),(iV (r.2.2.2.2.2.2.2.2.2.1)),(iV (r.2.2.2.2.2.2.2.2.2.2)),nV])]) 2 [(0,(Ob.arr 73 7 [[(sV a1.s),(iV (r.1)),(iV (r.2.1)),(sV (r.2.2.1)),(iV (r.2.2.2.1)),(iV (r.2.2.2.2.1)),(iV (r.2.2.2.2.2.1))]])),(1,(Ob.arr 42 6 [[(iV (r.2.2.2.2.2.2.1)),(sV (r.2.2.2.2.2.2.2.1)),(V.lst 1 ((r.2.2.2.2.2.2.2.2.1).map encS)),(iV (r.2.2.2.2.2.2.2.2.2.1)),(iV (r.2.2.2.2.2.2.2.2.2.2)),nV]]))]:=by
 refine mut_enter Tryz.func113 rfl rfl (l:=[.cell 2 42]) rfl rfl [(0,(V.ptr 0 7 0 0))] rfl (fun w0 m0 β0 hg=>en ?_)
 unfold M113 at h
 obtain⟨y85,hx86,h⟩:=bind_some h
 refine rn 7 rfl ?_
 refine aops_mcallS (sV (y85.1)) [(V.ptr 0 7 0 0)] (fun i=>([0]:List Nat).getD i 0) (fun i=>([0]:List Nat).getD i 0) 2 2 [(0,(Ob.arr 73 7 [[(sV a1.s),(iV (y85.2.1)),(iV (y85.2.2.1)),(sV (y85.2.2.2.1)),(iV (y85.2.2.2.2.1)),(iV (y85.2.2.2.2.2.1)),(iV (y85.2.2.2.2.2.2))]]))] fOk52 wants_none rfl (evm_cons rfl evm_nil) (.cons (Sub.ptr rfl rfl) .nil) (.cons rfl (ObSub.box (.cons (Sub.imm (Imm.con _)) (.cons (Sub.imm (Imm.con _)) (.cons (Sub.imm (Imm.con _)) (.cons (Sub.imm (Imm.con _)) (.cons (Sub.imm (Imm.con _)) (.cons (Sub.imm (Imm.con _)) (.cons (Sub.imm (Imm.con _)) .nil)))))))) .nil) (W52 F a1 y85 hx86) rfl rfl rfl rfl (Sub.immT (Imm.con _)) (.cons rfl (ObSub.box (.cons (Sub.immT (Imm.con _)) (.cons (Sub.immT (Imm.con _)) (.cons (Sub.immT (Imm.con _)) (.cons (Sub.immT (Imm.con _)) (.cons (Sub.immT (Imm.con _)) (.cons (Sub.immT (Imm.con _)) (.cons (Sub.immT (Imm.con _)) .nil)))))))) .nil) _ rfl ?_
 refine fo (rn 5 rfl ?_)
 refine jK h (fun(p:Int×Int×(List UInt8)×Int×Int×Int×Int×(List (List UInt8)))=>(⟨[(2,(V.ptr 1 6 0 0)),(3,(V.ptr 2 6 0 0))],[(0,(Ob.arr 73 7 [[(sV a1.s),(iV (p.1)),(iV (p.2.1)),(sV (p.2.2.1)),(iV (p.2.2.2.1)),(iV (p.2.2.2.2.1)),(iV (p.2.2.2.2.2.1))]])),(1,(Ob.arr 42 6 [[(iV 0),(sV ([]:List UInt8)),nV,(iV 0),(iV 0),nV]])),(2,(Ob.arr 42 6 [[(iV (p.2.2.2.2.2.2.1)),(sV (y85.1)),(V.lst 1 ((p.2.2.2.2.2.2.2).map encS)),(iV 0),(iV 0),nV]]))],3⟩:St)) (fun k87 p=>k87 p.1 p.2.1 p.2.2.1 p.2.2.2.1 p.2.2.2.2.1 p.2.2.2.2.2.1 p.2.2.2.2.2.2.1 p.2.2.2.2.2.2.2=some r) (fun k87 h=>?_) ?_
 ·refine rn 10 rfl ?_
  refine jK h (fun(p:Int×Int×(List UInt8)×Int×Int×Int×Int×(List (List UInt8)))=>(⟨[(2,(V.ptr 1 6 0 0)),(3,(V.ptr 2 6 0 0))],[(0,(Ob.arr 73 7 [[(sV a1.s),(iV (p.1)),(iV (p.2.1)),(sV (p.2.2.1)),(iV (p.2.2.2.1)),(iV (p.2.2.2.2.1)),(iV (p.2.2.2.2.2.1))]])),(1,(Ob.arr 42 6 [[(iV 0),(sV ([]:List UInt8)),nV,(iV 0),(iV 0),nV]])),(2,(Ob.arr 42 6 [[(iV (p.2.2.2.2.2.2.1)),(sV (y85.1)),(V.lst 1 ((p.2.2.2.2.2.2.2).map encS)),(iV 0),(iV 0),nV]]))],3⟩:St)) (fun k96 p=>k96 p.1 p.2.1 p.2.2.1 p.2.2.2.1 p.2.2.2.2.1 p.2.2.2.2.2.1 p.2.2.2.2.2.2.1 p.2.2.2.2.2.2.2=some r) (fun k96 h=>?_) ?_
  ·refine spC h rfl (fun hb105 h=>?_) (fun hb105 h=>?_)
   ·refine rn 1 rfl ?_
    exact jX ((y85.2.1),(y85.2.2.1),(y85.2.2.2.1),(y85.2.2.2.2.1),(y85.2.2.2.2.2.1),(y85.2.2.2.2.2.2),0,([]:List (List UInt8))) h (gr [0,1,2] rfl (hB rfl rfl rfl (hB rfl rfl rfl (hB rfl rfl rfl .nil))) rfl)
   obtain⟨y106,hx107,h⟩:=bind_some h
   refine rn 3 rfl ?_
   refine aops_mcallS (bV (y106.1)) [(V.ptr 0 7 0 0),(iV 1),(sV ([105,115]:List UInt8))] (fun i=>([0]:List Nat).getD i 0) (fun i=>([0]:List Nat).getD i 0) 3 3 [(0,(Ob.arr 73 7 [[(sV a1.s),(iV (y106.2.1)),(iV (y106.2.2.1)),(sV (y106.2.2.2.1)),(iV (y106.2.2.2.2.1)),(iV (y106.2.2.2.2.2.1)),(iV (y106.2.2.2.2.2.2))]]))] fOk23 wants_none rfl (evm_cons rfl (evm_cons rfl (evm_cons rfl evm_nil))) (.cons (Sub.ptr rfl rfl) (.cons (Sub.imm (Imm.con _)) (.cons (Sub.imm (Imm.con _)) .nil))) (.cons rfl (ObSub.box (.cons (Sub.imm (Imm.con _)) (.cons (Sub.imm (Imm.con _)) (.cons (Sub.imm (Imm.con _)) (.cons (Sub.imm (Imm.con _)) (.cons (Sub.imm (Imm.con _)) (.cons (Sub.imm (Imm.con _)) (.cons (Sub.imm (Imm.con _)) .nil)))))))) .nil) (W23 F 1 ([105,115]:List UInt8) (Tpolicy_reader.mk a1.s (y85.2.1) (Tpolicy_token.mk (y85.2.2.1) (y85.2.2.2.1) (y85.2.2.2.2.1)) (y85.2.2.2.2.2.1) (y85.2.2.2.2.2.2)) y106 hx107) rfl rfl rfl rfl (Sub.immT (Imm.con _)) (.cons rfl (ObSub.box (.cons (Sub.immT (Imm.con _)) (.cons (Sub.immT (Imm.con _)) (.cons (Sub.immT (Imm.con _)) (.cons (Sub.immT (Imm.con _)) (.cons (Sub.immT (Imm.con _)) (.cons (Sub.immT (Imm.con _)) (.cons (Sub.immT (Imm.con _)) .nil)))))))) .nil) _ rfl ?_
   refine fo (rn 2 rfl ?_)
   refine spC h rfl (fun hb108 h=>?_) (fun hb108 h=>?_)
   ·obtain⟨y109,hx110,h⟩:=bind_some h
    refine rn 2 rfl ?_
    refine aops_mcallS (V.lst 1 ((y109.1).map encS)) [(V.ptr 0 7 0 0)] (fun i=>([0]:List Nat).getD i 0) (fun i=>([0]:List Nat).getD i 0) 3 3 [(0,(Ob.arr 73 7 [[(sV a1.s),(iV (y109.2.1)),(iV (y109.2.2.1)),(sV (y109.2.2.2.1)),(iV (y109.2.2.2.2.1)),(iV (y109.2.2.2.2.2.1)),(iV (y109.2.2.2.2.2.2))]]))] fOk132 wants_none rfl (evm_cons rfl evm_nil) (.cons (Sub.ptr rfl rfl) .nil) (.cons rfl (ObSub.box (.cons (Sub.imm (Imm.con _)) (.cons (Sub.imm (Imm.con _)) (.cons (Sub.imm (Imm.con _)) (.cons (Sub.imm (Imm.con _)) (.cons (Sub.imm (Imm.con _)) (.cons (Sub.imm (Imm.con _)) (.cons (Sub.imm (Imm.con _)) .nil)))))))) .nil) (W132 F (Tpolicy_reader.mk a1.s (y106.2.1) (Tpolicy_token.mk (y106.2.2.1) (y106.2.2.2.1) (y106.2.2.2.2.1)) (y106.2.2.2.2.2.1) (y106.2.2.2.2.2.2)) y109 hx110) rfl rfl rfl rfl (Sub.immT (Imm.lst _ _)) (.cons rfl (ObSub.box (.cons (Sub.immT (Imm.con _)) (.cons (Sub.immT (Imm.con _)) (.cons (Sub.immT (Imm.con _)) (.cons (Sub.immT (Imm.con _)) (.cons (Sub.immT (Imm.con _)) (.cons (Sub.immT (Imm.con _)) (.cons (Sub.immT (Imm.con _)) .nil)))))))) .nil) _ rfl ?_
    refine fo (rn 5 rfl ?_)
    exact jX ((y109.2.1),(y109.2.2.1),(y109.2.2.2.1),(y109.2.2.2.2.1),(y109.2.2.2.2.2.1),(y109.2.2.2.2.2.2),2,(y109.1)) h (gr [0,1,2] rfl (hB rfl rfl rfl (hB rfl rfl rfl (hB rfl rfl rfl .nil))) rfl)
   obtain⟨y111,hx112,h⟩:=bind_some h
   refine rn 3 rfl ?_
   refine aops_mcallS (bV (y111.1)) [(V.ptr 0 7 0 0),(iV 1),(sV ([98,101,103,105,110,115]:List UInt8))] (fun i=>([0]:List Nat).getD i 0) (fun i=>([0]:List Nat).getD i 0) 3 3 [(0,(Ob.arr 73 7 [[(sV a1.s),(iV (y111.2.1)),(iV (y111.2.2.1)),(sV (y111.2.2.2.1)),(iV (y111.2.2.2.2.1)),(iV (y111.2.2.2.2.2.1)),(iV (y111.2.2.2.2.2.2))]]))] fOk23 wants_none rfl (evm_cons rfl (evm_cons rfl (evm_cons rfl evm_nil))) (.cons (Sub.ptr rfl rfl) (.cons (Sub.imm (Imm.con _)) (.cons (Sub.imm (Imm.con _)) .nil))) (.cons rfl (ObSub.box (.cons (Sub.imm (Imm.con _)) (.cons (Sub.imm (Imm.con _)) (.cons (Sub.imm (Imm.con _)) (.cons (Sub.imm (Imm.con _)) (.cons (Sub.imm (Imm.con _)) (.cons (Sub.imm (Imm.con _)) (.cons (Sub.imm (Imm.con _)) .nil)))))))) .nil) (W23 F 1 ([98,101,103,105,110,115]:List UInt8) (Tpolicy_reader.mk a1.s (y106.2.1) (Tpolicy_token.mk (y106.2.2.1) (y106.2.2.2.1) (y106.2.2.2.2.1)) (y106.2.2.2.2.2.1) (y106.2.2.2.2.2.2)) y111 hx112) rfl rfl rfl rfl (Sub.immT (Imm.con _)) (.cons rfl (ObSub.box (.cons (Sub.immT (Imm.con _)) (.cons (Sub.immT (Imm.con _)) (.cons (Sub.immT (Imm.con _)) (.cons (Sub.immT (Imm.con _)) (.cons (Sub.immT (Imm.con _)) (.cons (Sub.immT (Imm.con _)) (.cons (Sub.immT (Imm.con _)) .nil)))))))) .nil) _ rfl ?_
   refine fo (rn 2 rfl ?_)
   refine spC h rfl (fun hb113 h=>?_) (fun hb113 h=>?_)
   ·obtain⟨y114,hx115,h⟩:=bind_some h
    refine rn 2 rfl ?_
    refine aops_mcallS (V.lst 1 ((y114.1).map encS)) [(V.ptr 0 7 0 0)] (fun i=>([0]:List Nat).getD i 0) (fun i=>([0]:List Nat).getD i 0) 3 3 [(0,(Ob.arr 73 7 [[(sV a1.s),(iV (y114.2.1)),(iV (y114.2.2.1)),(sV (y114.2.2.2.1)),(iV (y114.2.2.2.2.1)),(iV (y114.2.2.2.2.2.1)),(iV (y114.2.2.2.2.2.2))]]))] fOk132 wants_none rfl (evm_cons rfl evm_nil) (.cons (Sub.ptr rfl rfl) .nil) (.cons rfl (ObSub.box (.cons (Sub.imm (Imm.con _)) (.cons (Sub.imm (Imm.con _)) (.cons (Sub.imm (Imm.con _)) (.cons (Sub.imm (Imm.con _)) (.cons (Sub.imm (Imm.con _)) (.cons (Sub.imm (Imm.con _)) (.cons (Sub.imm (Imm.con _)) .nil)))))))) .nil) (W132 F (Tpolicy_reader.mk a1.s (y111.2.1) (Tpolicy_token.mk (y111.2.2.1) (y111.2.2.2.1) (y111.2.2.2.2.1)) (y111.2.2.2.2.2.1) (y111.2.2.2.2.2.2)) y114 hx115) rfl rfl rfl rfl (Sub.immT (Imm.lst _ _)) (.cons rfl (ObSub.box (.cons (Sub.immT (Imm.con _)) (.cons (Sub.immT (Imm.con _)) (.cons (Sub.immT (Imm.con _)) (.cons (Sub.immT (Imm.con _)) (.cons (Sub.immT (Imm.con _)) (.cons (Sub.immT (Imm.con _)) (.cons (Sub.immT (Imm.con _)) .nil)))))))) .nil) _ rfl ?_
    refine fo (rn 5 rfl ?_)
    exact jX ((y114.2.1),(y114.2.2.1),(y114.2.2.2.1),(y114.2.2.2.2.1),(y114.2.2.2.2.2.1),(y114.2.2.2.2.2.2),3,(y114.1)) h (gr [0,1,2] rfl (hB rfl rfl rfl (hB rfl rfl rfl (hB rfl rfl rfl .nil))) rfl)
   refine rn 3 rfl ?_
   refine cl h rfl rfl rfl (W35 _) rfl (fun y116 hx117 h=>?_)
   refine rn 2 rfl ?_
   refine jK h (fun(p:Int×Int×(List UInt8)×Int×Int×Int)=>(⟨[(0,(V.ptr 0 7 0 0)),(2,(V.ptr 1 6 0 0)),(3,(V.ptr 2 6 0 0))],[(0,(Ob.arr 73 7 [[(sV a1.s),(iV (p.1)),(iV (p.2.1)),(sV (p.2.2.1)),(iV (p.2.2.2.1)),(iV (p.2.2.2.2.1)),(iV (p.2.2.2.2.2))]])),(1,(Ob.arr 42 6 [[(iV 0),(sV ([]:List UInt8)),nV,(iV 0),(iV 0),nV]])),(2,(Ob.arr 42 6 [[(iV 0),(sV (y85.1)),nV,(iV 0),(iV 0),nV]]))],3⟩:St)) (fun k118 p=>k118 p.1 p.2.1 p.2.2.1 p.2.2.2.1 p.2.2.2.2.1 p.2.2.2.2.2=some r) (fun k118 h=>?_) ?_
   ·refine rn 1 rfl ?_
    refine ck h (fun hA154 h=>?_)
    refine lC (fun(p:Int×Int×Int×(List UInt8)×Int×Int×Int)=>(⟨[(0,(V.ptr 0 7 0 0)),(2,(V.ptr 1 6 0 0)),(3,(V.ptr 2 6 0 0)),(9,(V.agg [(sV (y116 0)),(sV (y116 1)),(sV (y116 2)),(sV (y116 3)),(sV (y116 4)),(sV (y116 5))])),(10,(iV (p.1)))],[(0,(Ob.arr 73 7 [[(sV a1.s),(iV (p.2.1)),(iV (p.2.2.1)),(sV (p.2.2.2.1)),(iV (p.2.2.2.2.1)),(iV (p.2.2.2.2.2.1)),(iV (p.2.2.2.2.2.2))]])),(1,(Ob.arr 42 6 [[(iV 0),(sV ([]:List UInt8)),nV,(iV 0),(iV 0),nV]])),(2,(Ob.arr 42 6 [[(iV 0),(sV (y85.1)),nV,(iV 0),(iV 0),nV]]))],3⟩:St)) (fun n p=>RC 6 (fun tl nn=>M113_L1 F a1 y85 y116 k118 tl nn p.2.1 p.2.2.1 p.2.2.2.1 p.2.2.2.2.1 p.2.2.2.2.2.1 p.2.2.2.2.2.2=some r) n p.1) (fun p h=>RC.zero h) (Int.toNat 6+1) (0,(y111.2.1),(y111.2.2.1),(y111.2.2.2.1),(y111.2.2.2.2.1),(y111.2.2.2.2.2.1),(y111.2.2.2.2.2.2)) (RC.start h) (gr [0,1,2] rfl (hB rfl rfl rfl (hB rfl rfl rfl (hB rfl rfl rfl .nil))) rfl) (fun n p h=>?_)
    obtain⟨n132,n133,n134,s135,n136,n137,n138⟩:=p
    refine rn 5 rfl ?_
    refine spL rfl (fun hb139=>?_) (fun hb139=>?_)
    ·obtain⟨tl,h,hk1⟩:=RC.t hA154 h hb139
     unfold M113_L1 at h
     refine rn 2 rfl ?_
     refine jK h (fun(p:Int×Int×(List UInt8)×Int×Int×Int)=>(⟨[(0,(V.ptr 0 7 0 0)),(2,(V.ptr 1 6 0 0)),(3,(V.ptr 2 6 0 0)),(9,(V.agg [(sV (y116 0)),(sV (y116 1)),(sV (y116 2)),(sV (y116 3)),(sV (y116 4)),(sV (y116 5))])),(10,(iV n132))],[(0,(Ob.arr 73 7 [[(sV a1.s),(iV (p.1)),(iV (p.2.1)),(sV (p.2.2.1)),(iV (p.2.2.2.1)),(iV (p.2.2.2.2.1)),(iV (p.2.2.2.2.2))]])),(1,(Ob.arr 42 6 [[(iV 0),(sV ([]:List UInt8)),nV,(iV 0),(iV 0),nV]])),(2,(Ob.arr 42 6 [[(iV 0),(sV (y85.1)),nV,(iV 0),(iV 0),nV]]))],3⟩:St)) (fun k140 p=>k140 p.1 p.2.1 p.2.2.1 p.2.2.2.1 p.2.2.2.2.1 p.2.2.2.2.2=some r) (fun k140 h=>?_) ?_
     ·refine rn 4 rfl ?_
      refine ck h (fun hc147 h=>?_)
      refine aops_indexAC (sV (y116 n132.toNat)) tAC86 wants_none rfl rfl hc147 (arr_cell (f:=y116) (c:=sV) rfl hc147.2) rfl ?_
      refine fo (rn 8 rfl ?_)
      refine spO 16 h rfl (fun hb148 h=>?_) (fun hb148 h=>?_)
      ·obtain⟨y149,hx150,h⟩:=bind_some h
       refine rn 2 rfl ?_
       refine aops_mcallS (bV (y149.1)) [(V.ptr 0 7 0 0),(iV 3),(sV (y116 n132.toNat))] (fun i=>([0]:List Nat).getD i 0) (fun i=>([0]:List Nat).getD i 0) 3 3 [(0,(Ob.arr 73 7 [[(sV a1.s),(iV (y149.2.1)),(iV (y149.2.2.1)),(sV (y149.2.2.2.1)),(iV (y149.2.2.2.2.1)),(iV (y149.2.2.2.2.2.1)),(iV (y149.2.2.2.2.2.2))]]))] fOk23 (wants_some (c:=true) (b:=true) 16 rfl rfl rfl) rfl (evm_cons rfl (evm_cons rfl (evm_cons rfl evm_nil))) (.cons (Sub.ptr rfl rfl) (.cons (Sub.imm (Imm.con _)) (.cons (Sub.imm (Imm.con _)) .nil))) (.cons rfl (ObSub.box (.cons (Sub.imm (Imm.con _)) (.cons (Sub.imm (Imm.con _)) (.cons (Sub.imm (Imm.con _)) (.cons (Sub.imm (Imm.con _)) (.cons (Sub.imm (Imm.con _)) (.cons (Sub.imm (Imm.con _)) (.cons (Sub.imm (Imm.con _)) .nil)))))))) .nil) (W23 F 3 (y116 n132.toNat) (Tpolicy_reader.mk a1.s n133 (Tpolicy_token.mk n134 s135 n136) n137 n138) y149 hx150) rfl rfl rfl rfl (Sub.immT (Imm.con _)) (.cons rfl (ObSub.box (.cons (Sub.immT (Imm.con _)) (.cons (Sub.immT (Imm.con _)) (.cons (Sub.immT (Imm.con _)) (.cons (Sub.immT (Imm.con _)) (.cons (Sub.immT (Imm.con _)) (.cons (Sub.immT (Imm.con _)) (.cons (Sub.immT (Imm.con _)) .nil)))))))) .nil) _ rfl ?_
       refine fo (rn 2 rfl ?_)
       refine spC h rfl (fun hb151 h=>?_) (fun hb151 h=>?_)
       ·obtain⟨y152,hx153,h⟩:=bind_some h
        refine rn 4 rfl ?_
        refine aops_mcallS (iV (y152.1)) [(V.ptr 0 7 0 0),(bV true)] (fun i=>([0]:List Nat).getD i 0) (fun i=>([0]:List Nat).getD i 0) 3 3 [(0,(Ob.arr 73 7 [[(sV a1.s),(iV (y152.2.1)),(iV (y152.2.2.1)),(sV (y152.2.2.2.1)),(iV (y152.2.2.2.2.1)),(iV (y152.2.2.2.2.2.1)),(iV (y152.2.2.2.2.2.2))]]))] fOk57 wants_none rfl (evm_cons rfl (evm_cons rfl evm_nil)) (.cons (Sub.ptr rfl rfl) (.cons (Sub.imm (Imm.con _)) .nil)) (.cons rfl (ObSub.box (.cons (Sub.imm (Imm.con _)) (.cons (Sub.imm (Imm.con _)) (.cons (Sub.imm (Imm.con _)) (.cons (Sub.imm (Imm.con _)) (.cons (Sub.imm (Imm.con _)) (.cons (Sub.imm (Imm.con _)) (.cons (Sub.imm (Imm.con _)) .nil)))))))) .nil) (W57 F true (Tpolicy_reader.mk a1.s (y149.2.1) (Tpolicy_token.mk (y149.2.2.1) (y149.2.2.2.1) (y149.2.2.2.2.1)) (y149.2.2.2.2.2.1) (y149.2.2.2.2.2.2)) y152 hx153) rfl rfl rfl rfl (Sub.immT (Imm.con _)) (.cons rfl (ObSub.box (.cons (Sub.immT (Imm.con _)) (.cons (Sub.immT (Imm.con _)) (.cons (Sub.immT (Imm.con _)) (.cons (Sub.immT (Imm.con _)) (.cons (Sub.immT (Imm.con _)) (.cons (Sub.immT (Imm.con _)) (.cons (Sub.immT (Imm.con _)) .nil)))))))) .nil) _ rfl ?_
        refine fo (rn 12 rfl ?_)
        replace h:=ae8 h
        subst h
        exact wR ⟨.inl rfl,[(2,(V.ptr 1 6 0 0))],(gr [0,1] rfl (hB rfl rfl rfl (hB rfl rfl rfl .nil)) rfl),(.cons (.agg tA42 rfl rfl rfl rfl rfl) .nil)⟩
       refine rn 2 rfl ?_
       exact jX ((y149.2.1),(y149.2.2.1),(y149.2.2.2.1),(y149.2.2.2.2.1),(y149.2.2.2.2.2.1),(y149.2.2.2.2.2.2)) h (gr [0,1,2] rfl (hB rfl rfl rfl (hB rfl rfl rfl (hB rfl rfl rfl .nil))) rfl)
      refine rn 8 rfl ?_
      exact jX (n133,n134,s135,n136,n137,n138) h (gr [0,1,2] rfl (hB rfl rfl rfl (hB rfl rfl rfl (hB rfl rfl rfl .nil))) rfl)
     rintro⟨n141,n142,s143,n144,n145,n146⟩ h
     refine rn 4 rfl ?_
     exact jX ((w64 (n132+1)),n141,n142,s143,n144,n145,n146) (hk1 _ h) (gr [0,1,2] rfl (hB rfl rfl rfl (hB rfl rfl rfl (hB rfl rfl rfl .nil))) rfl)
    replace h:=RC.f h hb139
    unfold M113_L1 at h
    refine rn 1 rfl ?_
    exact jX (n133,n134,s135,n136,n137,n138) h (gr [0,1,2] rfl (hB rfl rfl rfl (hB rfl rfl rfl (hB rfl rfl rfl .nil))) rfl)
   rintro⟨n119,n120,s121,n122,n123,n124⟩ h
   obtain⟨y155,hx156,h⟩:=bind_some h
   refine rn 7 rfl ?_
   refine aops_mcallS (V.tup []) [(V.ptr 0 7 0 0),(iV n122),(iV 6)] (fun i=>([0]:List Nat).getD i 0) (fun i=>([0]:List Nat).getD i 0) 3 3 [(0,(Ob.arr 73 7 [[(sV a1.s),(iV n119),(iV n120),(sV s121),(iV n122),(iV (y155.1)),(iV (y155.2))]]))] fOk26 wants_none rfl (evm_cons rfl (evm_cons rfl (evm_cons rfl evm_nil))) (.cons (Sub.ptr rfl rfl) (.cons (Sub.imm (Imm.con _)) (.cons (Sub.imm (Imm.con _)) .nil))) (.cons rfl (ObSub.box (.cons (Sub.imm (Imm.con _)) (.cons (Sub.imm (Imm.con _)) (.cons (Sub.imm (Imm.con _)) (.cons (Sub.imm (Imm.con _)) (.cons (Sub.imm (Imm.con _)) (.cons (Sub.imm (Imm.con _)) (.cons (Sub.imm (Imm.con _)) .nil)))))))) .nil) (W26 F n122 6 (Tpolicy_reader.mk a1.s n119 (Tpolicy_token.mk n120 s121 n122) n123 n124) y155 hx156) rfl rfl rfl rfl (Sub.immT (Imm.tup .nil)) (.cons rfl (ObSub.box (.cons (Sub.immT (Imm.con _)) (.cons (Sub.immT (Imm.con _)) (.cons (Sub.immT (Imm.con _)) (.cons (Sub.immT (Imm.con _)) (.cons (Sub.immT (Imm.con _)) (.cons (Sub.immT (Imm.con _)) (.cons (Sub.immT (Imm.con _)) .nil)))))))) .nil) _ rfl ?_
   refine fo (rn 1 rfl ?_)
   exact jX (n119,n120,s121,n122,(y155.1),(y155.2),0,([]:List (List UInt8))) h (gr [0,1,2] rfl (hB rfl rfl rfl (hB rfl rfl rfl (hB rfl rfl rfl .nil))) rfl)
  rintro⟨n97,n98,s99,n100,n101,n102,n103,l104⟩ h
  refine rn 1 rfl ?_
  exact jX (n97,n98,s99,n100,n101,n102,n103,l104) h (gr [0,1,2] rfl (hB rfl rfl rfl (hB rfl rfl rfl (hB rfl rfl rfl .nil))) rfl)
 rintro⟨n88,n89,s90,n91,n92,n93,n94,l95⟩ h
 refine rn 5 rfl ?_
 replace h:=ae8 h
 subst h
 exact wR ⟨.inl rfl,[(2,(V.ptr 1 6 0 0))],(gr [0,1] rfl (hB rfl rfl rfl (hB rfl rfl rfl .nil)) rfl),(.cons (.agg tA42 rfl rfl rfl rfl rfl) .nil)⟩
theorem W83(R84:Int->Tpolicy_reader->Option (Int×Int×(List UInt8)×Int×Int×Int×Int×(List UInt8)×(List (List UInt8))×Int×Int×(List KRow)))(hR84:∀(a1:Int) (a2:Tpolicy_reader) (r:(Int×Int×(List UInt8)×Int×Int×Int×Int×(List UInt8)×(List (List UInt8))×Int×Int×(List KRow))),R84 a1 a2=some r->MutG gl Tryz.prog 84 [(V.ptr 0 7 0 0),(iV a1)] 1 [(0,(Ob.arr 73 7 [(encTpolicy_reader a2)]))] (resV [(V.agg [(iV (r.2.2.2.2.2.2.1)),(sV (r.2.2.2.2.2.2.2.1)),(V.lst 1 ((r.2.2.2.2.2.2.2.2.1).map encS)),(iV (r.2.2.2.2.2.2.2.2.2.1)),(iV (r.2.2.2.2.2.2.2.2.2.2.1)),(V.lst 6 ((r.2.2.2.2.2.2.2.2.2.2.2).map KRow.row))])]) 2 [(0,(Ob.arr 73 7 [[(sV a2.s),(iV (r.1)),(iV (r.2.1)),(sV (r.2.2.1)),(iV (r.2.2.2.1)),(iV (r.2.2.2.2.1)),(iV (r.2.2.2.2.2.1))]])),(1,(Ob.arr 42 6 [[(iV (r.2.2.2.2.2.2.1)),(sV (r.2.2.2.2.2.2.2.1)),(V.lst 1 ((r.2.2.2.2.2.2.2.2.1).map encS)),(iV (r.2.2.2.2.2.2.2.2.2.1)),(iV (r.2.2.2.2.2.2.2.2.2.2.1)),(V.lst 6 ((r.2.2.2.2.2.2.2.2.2.2.2).map KRow.row))]]))])(F:Nat)(a1:Int)(a2:Tpolicy_reader)(r:(Int×Int×(List UInt8)×Int×Int×Int×Int×(List UInt8)×(List (List UInt8))×Int×Int×(List KRow)))(h:M83 R84 F a1 a2=some r):MutG gl Tryz.prog 83 [(V.ptr 0 1 0 0),(V.ptr 1 1 0 0)] 3 [(0,(Ob.arr 69 1 [[(V.ptr 2 7 0 0)]])),(1,(Ob.arr 3 1 [[(iV a1)]])),(2,(Ob.arr 73 7 [(encTpolicy_reader a2)]))] (resV [(V.agg [(iV (r.2.2.2.2.2.2.1)),(sV (r.2.2.2.2.2.2.2.1)),(V.lst 1 ((r.2.2.2.2.2.2.2.2.1).map encS)),(iV (r.2.2.2.2.2.2.2.2.2.1)),(iV (r.2.2.2.2.2.2.2.2.2.2.1)),(V.lst 6 ((r.2.2.2.2.2.2.2.2.2.2.2).map KRow.row))])]) 4 [(0,(Ob.arr 69 1 [[(V.ptr 2 7 0 0)]])),(1,(Ob.arr 3 1 [[(iV a1)]])),(2,(Ob.arr 73 7 [[(sV a2.s),(iV (r.1)),(iV (r.2.1)),(sV (r.2.2.1)),(iV (r.2.2.2.1)),(iV (r.2.2.2.2.1)),(iV (r.2.2.2.2.2.1))]])),(3,(Ob.arr 42 6 [[(iV (r.2.2.2.2.2.2.1)),(sV (r.2.2.2.2.2.2.2.1)),(V.lst 1 ((r.2.2.2.2.2.2.2.2.1).map encS)),(iV (r.2.2.2.2.2.2.2.2.2.1)),(iV (r.2.2.2.2.2.2.2.2.2.2.1)),(V.lst 6 ((r.2.2.2.2.2.2.2.2.2.2.2).map KRow.row))]]))]:=by
 refine mut_enter Tryz.func83 rfl rfl (l:=[.cell 2 42]) rfl rfl [(0,(V.ptr 0 1 0 0)),(1,(V.ptr 1 1 0 0))] rfl (fun w0 m0 β0 hg=>en ?_)
 unfold M83 at h
 obtain⟨y17,hx18,h⟩:=bind_some h
 refine rn 8 rfl ?_
 refine aops_mcallS (V.agg [(iV (y17.2.2.2.2.2.2.1)),(sV (y17.2.2.2.2.2.2.2.1)),(V.lst 1 ((y17.2.2.2.2.2.2.2.2.1).map encS)),(iV (y17.2.2.2.2.2.2.2.2.2.1)),(iV (y17.2.2.2.2.2.2.2.2.2.2.1)),(V.lst 6 ((y17.2.2.2.2.2.2.2.2.2.2.2).map KRow.row))]) [(V.ptr 2 7 0 0),(iV a1)] (fun i=>([2]:List Nat).getD i 0) (fun i=>([2,4]:List Nat).getD i 0) 4 5 [(2,(Ob.arr 73 7 [[(sV a2.s),(iV (y17.1)),(iV (y17.2.1)),(sV (y17.2.2.1)),(iV (y17.2.2.2.1)),(iV (y17.2.2.2.2.1)),(iV (y17.2.2.2.2.2.1))]])),(4,Ob.dead)] fOk84 wants_none rfl (evm_cons rfl (evm_cons rfl evm_nil)) (.cons (Sub.ptr rfl rfl) (.cons (Sub.imm (Imm.con _)) .nil)) (.cons rfl (ObSub.box (.cons (Sub.imm (Imm.con _)) (.cons (Sub.imm (Imm.con _)) (.cons (Sub.imm (Imm.con _)) (.cons (Sub.imm (Imm.con _)) (.cons (Sub.imm (Imm.con _)) (.cons (Sub.imm (Imm.con _)) (.cons (Sub.imm (Imm.con _)) .nil)))))))) .nil) (hR84 a1 a2 _ hx18) rfl rfl rfl rfl (Sub.immT (Imm.agg (.cons (Imm.con _) (.cons (Imm.con _) (.cons (Imm.lst _ _) (.cons (Imm.con _) (.cons (Imm.con _) (.cons (Imm.lst _ _) .nil)))))))) (.cons rfl (ObSub.box (.cons (Sub.immT (Imm.con _)) (.cons (Sub.immT (Imm.con _)) (.cons (Sub.immT (Imm.con _)) (.cons (Sub.immT (Imm.con _)) (.cons (Sub.immT (Imm.con _)) (.cons (Sub.immT (Imm.con _)) (.cons (Sub.immT (Imm.con _)) .nil)))))))) (.cons rfl ObSub.deadT .nil)) _ rfl ?_
 refine fo (rn 2 rfl ?_)
 replace h:=ae8 h
 subst h
 exact wR ⟨.inl rfl,[(2,(V.ptr 3 6 0 0))],(gr [0,1,2,3] rfl (hB rfl rfl rfl (hB rfl rfl rfl (hB rfl rfl rfl (hB rfl rfl rfl .nil)))) rfl),(.cons (.agg tA42 rfl rfl rfl rfl rfl) .nil)⟩
theorem W81_1(R84:Int->Tpolicy_reader->Option (Int×Int×(List UInt8)×Int×Int×Int×Int×(List UInt8)×(List (List UInt8))×Int×Int×(List KRow)))(hR84:∀(a1:Int) (a2:Tpolicy_reader) (r:(Int×Int×(List UInt8)×Int×Int×Int×Int×(List UInt8)×(List (List UInt8))×Int×Int×(List KRow))),R84 a1 a2=some r->MutG gl Tryz.prog 84 [(V.ptr 0 7 0 0),(iV a1)] 1 [(0,(Ob.arr 73 7 [(encTpolicy_reader a2)]))] (resV [(V.agg [(iV (r.2.2.2.2.2.2.1)),(sV (r.2.2.2.2.2.2.2.1)),(V.lst 1 ((r.2.2.2.2.2.2.2.2.1).map encS)),(iV (r.2.2.2.2.2.2.2.2.2.1)),(iV (r.2.2.2.2.2.2.2.2.2.2.1)),(V.lst 6 ((r.2.2.2.2.2.2.2.2.2.2.2).map KRow.row))])]) 2 [(0,(Ob.arr 73 7 [[(sV a2.s),(iV (r.1)),(iV (r.2.1)),(sV (r.2.2.1)),(iV (r.2.2.2.1)),(iV (r.2.2.2.2.1)),(iV (r.2.2.2.2.2.1))]])),(1,(Ob.arr 42 6 [[(iV (r.2.2.2.2.2.2.1)),(sV (r.2.2.2.2.2.2.2.1)),(V.lst 1 ((r.2.2.2.2.2.2.2.2.1).map encS)),(iV (r.2.2.2.2.2.2.2.2.2.1)),(iV (r.2.2.2.2.2.2.2.2.2.2.1)),(V.lst 6 ((r.2.2.2.2.2.2.2.2.2.2.2).map KRow.row))]]))])(F:Nat)(a1:Int)(a2:(List UInt8))(a3:Tpolicy_reader)(a4:Int)(r:(Int×Int×(List UInt8)×Int×Int×Int×Int×(List UInt8)×(List (List UInt8))×Int×Int×(List KRow)))(h:M81_1 R84 F a1 a2 a3 a4=some r):MutG gl Tryz.prog 81 [(V.ptr 0 7 0 0),(iV a1),(sV a2),(V.fn (.func 83) [] [(V.ptr 1 1 0 0),(V.ptr 2 1 0 0)])] 3 [(0,(Ob.arr 73 7 [(encTpolicy_reader a3)])),(1,(Ob.arr 69 1 [[(V.ptr 0 7 0 0)]])),(2,(Ob.arr 3 1 [[(iV a4)]]))] (resV [(V.agg [(iV (r.2.2.2.2.2.2.1)),(sV (r.2.2.2.2.2.2.2.1)),(V.lst 1 ((r.2.2.2.2.2.2.2.2.1).map encS)),(iV (r.2.2.2.2.2.2.2.2.2.1)),(iV (r.2.2.2.2.2.2.2.2.2.2.1)),(V.lst 6 ((r.2.2.2.2.2.2.2.2.2.2.2).map KRow.row))])]) 4 [(0,(Ob.arr 73 7 [[(sV a3.s),(iV (r.1)),(iV (r.2.1)),(sV (r.2.2.1)),(iV (r.2.2.2.1)),(iV (r.2.2.2.2.1)),(iV (r.2.2.2.2.2.1))]])),(1,(Ob.arr 69 1 [[(V.ptr 0 7 0 0)]])),(2,(Ob.arr 3 1 [[(iV a4)]])),(3,(Ob.arr 42 6 [[(iV (r.2.2.2.2.2.2.1)),(sV (r.2.2.2.2.2.2.2.1)),(V.lst 1 ((r.2.2.2.2.2.2.2.2.1).map encS)),(iV (r.2.2.2.2.2.2.2.2.2.1)),(iV (r.2.2.2.2.2.2.2.2.2.2.1)),(V.lst 6 ((r.2.2.2.2.2.2.2.2.2.2.2).map KRow.row))]]))]:=by
 refine mut_enter Tryz.func81 rfl rfl (l:=[.cell 8 42]) rfl rfl [(0,(V.ptr 0 7 0 0)),(1,(iV a1)),(2,(sV a2)),(3,(V.fn (.func 83) [] [(V.ptr 1 1 0 0),(V.ptr 2 1 0 0)]))] rfl (fun w0 m0 β0 hg=>en ?_)
 unfold M81_1 at h
 obtain⟨y50,hx51,h⟩:=bind_some h
 refine rn 7 rfl ?_
 refine aops_mcallvS (V.agg [(iV (y50.2.2.2.2.2.2.1)),(sV (y50.2.2.2.2.2.2.2.1)),(V.lst 1 ((y50.2.2.2.2.2.2.2.2.1).map encS)),(iV (y50.2.2.2.2.2.2.2.2.2.1)),(iV (y50.2.2.2.2.2.2.2.2.2.2.1)),(V.lst 6 ((y50.2.2.2.2.2.2.2.2.2.2.2).map KRow.row))]) [(V.ptr 1 1 0 0),(V.ptr 2 1 0 0)] (fun i=>([1,2,0]:List Nat).getD i 0) (fun i=>([1,2,0,4]:List Nat).getD i 0) 4 5 [(1,(Ob.arr 69 1 [[(V.ptr 0 7 0 0)]])),(2,(Ob.arr 3 1 [[(iV a4)]])),(0,(Ob.arr 73 7 [[(sV a3.s),(iV (y50.1)),(iV (y50.2.1)),(sV (y50.2.2.1)),(iV (y50.2.2.2.1)),(iV (y50.2.2.2.2.1)),(iV (y50.2.2.2.2.2.1))]])),(4,Ob.dead)] fOk83 wants_none rfl rfl rfl (.cons (Sub.ptr rfl rfl) (.cons (Sub.ptr rfl rfl) .nil)) (.cons rfl (ObSub.box (.cons (Sub.ptr rfl rfl) .nil)) (.cons rfl (ObSub.box (.cons (Sub.imm (Imm.con _)) .nil)) (.cons rfl (ObSub.box (.cons (Sub.imm (Imm.con _)) (.cons (Sub.imm (Imm.con _)) (.cons (Sub.imm (Imm.con _)) (.cons (Sub.imm (Imm.con _)) (.cons (Sub.imm (Imm.con _)) (.cons (Sub.imm (Imm.con _)) (.cons (Sub.imm (Imm.con _)) .nil)))))))) .nil))) (W83 R84 hR84 F a4 a3 y50 hx51) rfl rfl rfl rfl (Sub.immT (Imm.agg (.cons (Imm.con _) (.cons (Imm.con _) (.cons (Imm.lst _ _) (.cons (Imm.con _) (.cons (Imm.con _) (.cons (Imm.lst _ _) .nil)))))))) (.cons rfl (ObSub.box (.cons (Sub.ptrT rfl rfl) .nil)) (.cons rfl (ObSub.box (.cons (Sub.immT (Imm.con _)) .nil)) (.cons rfl (ObSub.box (.cons (Sub.immT (Imm.con _)) (.cons (Sub.immT (Imm.con _)) (.cons (Sub.immT (Imm.con _)) (.cons (Sub.immT (Imm.con _)) (.cons (Sub.immT (Imm.con _)) (.cons (Sub.immT (Imm.con _)) (.cons (Sub.immT (Imm.con _)) .nil)))))))) (.cons rfl ObSub.deadT .nil)))) _ rfl ?_
 refine fo (rn 12 rfl ?_)
 refine spO 18 h rfl (fun hb52 h=>?_) (fun hb52 h=>?_)
 ·refine rn 23 rfl ?_
  replace h:=ae8 h
  subst h
  exact wR ⟨.inl rfl,[(8,(V.ptr 3 6 0 0))],(gr [0,1,2,3] rfl (hB rfl rfl rfl (hB rfl rfl rfl (hB rfl rfl rfl (hB rfl rfl rfl .nil)))) rfl),(.cons (.agg tA42 rfl rfl rfl rfl rfl) .nil)⟩
 refine rn 8 rfl ?_
 refine spO 26 h rfl (fun hb53 h=>?_) (fun hb53 h=>?_)
 ·refine rn 15 rfl ?_
  replace h:=ae8 h
  subst h
  exact wR ⟨.inl rfl,[(8,(V.ptr 3 6 0 0))],(gr [0,1,2,3] rfl (hB rfl rfl rfl (hB rfl rfl rfl (hB rfl rfl rfl (hB rfl rfl rfl .nil)))) rfl),(.cons (.agg tA42 rfl rfl rfl rfl rfl) .nil)⟩
 refine rn 9 rfl ?_
 refine spC h rfl (fun hb54 h=>?_) (fun hb54 h=>?_)
 ·refine rn 5 rfl ?_
  replace h:=ae8 h
  subst h
  exact wR ⟨.inl rfl,[(8,(V.ptr 3 6 0 0))],(gr [0,1,2,3] rfl (hB rfl rfl rfl (hB rfl rfl rfl (hB rfl rfl rfl (hB rfl rfl rfl .nil)))) rfl),(.cons (.agg tA42 rfl rfl rfl rfl rfl) .nil)⟩
 refine rn 5 rfl ?_
 refine aops_buildSlice [(0,(V.agg [(iV (y50.2.2.2.2.2.2.1)),(sV (y50.2.2.2.2.2.2.2.1)),(V.lst 1 ((y50.2.2.2.2.2.2.2.2.1).map encS)),(iV (y50.2.2.2.2.2.2.2.2.2.1)),(iV (y50.2.2.2.2.2.2.2.2.2.2.1)),(V.lst 6 ((y50.2.2.2.2.2.2.2.2.2.2.2).map KRow.row))]))] [[(iV (y50.2.2.2.2.2.2.1)),(sV (y50.2.2.2.2.2.2.2.1)),(V.lst 1 ((y50.2.2.2.2.2.2.2.2.1).map encS)),(iV (y50.2.2.2.2.2.2.2.2.2.1)),(iV (y50.2.2.2.2.2.2.2.2.2.2.1)),(V.lst 6 ((y50.2.2.2.2.2.2.2.2.2.2.2).map KRow.row))]] tEl40 tZ42 rfl rfl rfl rfl wants_none (evp_cons rfl evp_nil) rfl rfl (by simp) rfl ?_
 refine fo (rn 5 rfl ?_)
 refine jK h (fun(p:Int×Int×(List UInt8)×Int×Int×Int×(List KRow))=>(⟨[(8,(V.ptr 3 6 0 0)),(10,(V.ptr 4 6 0 0))],[(0,(Ob.arr 73 7 [[(sV a3.s),(iV (p.1)),(iV (p.2.1)),(sV (p.2.2.1)),(iV (p.2.2.2.1)),(iV (p.2.2.2.2.1)),(iV (p.2.2.2.2.2.1))]])),(1,(Ob.arr 69 1 [[(V.ptr 0 7 0 0)]])),(2,(Ob.arr 3 1 [[(iV a4)]])),(3,(Ob.arr 42 6 [[(iV 0),(sV ([]:List UInt8)),nV,(iV 0),(iV 0),nV]])),(4,(Ob.arr 42 6 [[(iV a1),(sV ([]:List UInt8)),nV,(iV 0),(iV 0),(V.own 5 (p.2.2.2.2.2.2).length)]])),(5,(Ob.arr 42 6 ((p.2.2.2.2.2.2).map KRow.row)))],6⟩:St)) (fun k55 p=>k55 p.1 p.2.1 p.2.2.1 p.2.2.2.1 p.2.2.2.2.1 p.2.2.2.2.2.1 p.2.2.2.2.2.2=some r) (fun k55 h=>?_) ?_
 ·refine rn 1 rfl ?_
  refine lC (fun(p:Int×Int×(List UInt8)×Int×Int×Int×(List KRow))=>(⟨[(0,(V.ptr 0 7 0 0)),(2,(sV a2)),(3,(V.fn (.func 83) [] [(V.ptr 1 1 0 0),(V.ptr 2 1 0 0)])),(8,(V.ptr 3 6 0 0)),(10,(V.ptr 4 6 0 0))],[(0,(Ob.arr 73 7 [[(sV a3.s),(iV (p.1)),(iV (p.2.1)),(sV (p.2.2.1)),(iV (p.2.2.2.1)),(iV (p.2.2.2.2.1)),(iV (p.2.2.2.2.2.1))]])),(1,(Ob.arr 69 1 [[(V.ptr 0 7 0 0)]])),(2,(Ob.arr 3 1 [[(iV a4)]])),(3,(Ob.arr 42 6 [[(iV 0),(sV ([]:List UInt8)),nV,(iV 0),(iV 0),nV]])),(4,(Ob.arr 42 6 [[(iV a1),(sV ([]:List UInt8)),nV,(iV 0),(iV 0),(V.own 5 (p.2.2.2.2.2.2).length)]])),(5,(Ob.arr 42 6 ((p.2.2.2.2.2.2).map KRow.row)))],6⟩:St)) (fun n p=>M81_1_L1 R84 F a2 a3 a4 k55 n p.1 p.2.1 p.2.2.1 p.2.2.2.1 p.2.2.2.2.1 p.2.2.2.2.2.1 p.2.2.2.2.2.2=some r) (fun p h=>by simp[M81_1_L1] at h) F ((y50.1),(y50.2.1),(y50.2.2.1),(y50.2.2.2.1),(y50.2.2.2.2.1),(y50.2.2.2.2.2.1),([rowK encTTest (TTest.mk (y50.2.2.2.2.2.2.1) (y50.2.2.2.2.2.2.2.1) (y50.2.2.2.2.2.2.2.2.1) (y50.2.2.2.2.2.2.2.2.2.1) (y50.2.2.2.2.2.2.2.2.2.2.1) (y50.2.2.2.2.2.2.2.2.2.2.2))]:List KRow)) h (ghost_ren 6 (fun i=>([0,1,2,3,7,6]:List Nat).getD i 0) _ _ (by decide) (EnvSub.get (.cons (Sub.ptr rfl rfl) (.cons (Sub.imm (Imm.con _)) (.cons (Sub.fnc (.cons (Sub.ptr rfl rfl) (.cons (Sub.ptr rfl rfl) .nil))) (.cons (Sub.ptr rfl rfl) (.cons (Sub.ptr rfl rfl) .nil)))))) (HpSub.get (.cons rfl (ObSub.box (.cons (Sub.imm (Imm.con _)) (.cons (Sub.imm (Imm.con _)) (.cons (Sub.imm (Imm.con _)) (.cons (Sub.imm (Imm.con _)) (.cons (Sub.imm (Imm.con _)) (.cons (Sub.imm (Imm.con _)) (.cons (Sub.imm (Imm.con _)) .nil)))))))) (.cons rfl (ObSub.box (.cons (Sub.ptr rfl rfl) .nil)) (.cons rfl (ObSub.box (.cons (Sub.imm (Imm.con _)) .nil)) (.cons rfl (ObSub.box (.cons (Sub.imm (Imm.con _)) (.cons (Sub.imm (Imm.con _)) (.cons (Sub.imm (Imm.con _)) (.cons (Sub.imm (Imm.con _)) (.cons (Sub.imm (Imm.con _)) (.cons (Sub.imm (Imm.con _)) .nil))))))) (.cons rfl (ObSub.box (.cons (Sub.imm (Imm.con _)) (.cons (Sub.imm (Imm.con _)) (.cons (Sub.imm (Imm.con _)) (.cons (Sub.imm (Imm.con _)) (.cons (Sub.imm (Imm.con _)) (.cons (Sub.ownE rfl rfl (by simp)) .nil))))))) (.cons rfl (ObSub.rows (rows_imm KRow.imm)) .nil))))))) rfl) (fun n p h=>?_)
  obtain⟨n70,n71,s72,n73,n74,n75,l76⟩:=p
  unfold M81_1_L1 at h
  obtain⟨y77,hx78,h⟩:=bind_some h
  refine rn 5 rfl ?_
  refine aops_mcallS (bV (y77.1)) [(V.ptr 0 7 0 0),(iV 1),(sV a2)] (fun i=>([0]:List Nat).getD i 0) (fun i=>([0]:List Nat).getD i 0) 6 6 [(0,(Ob.arr 73 7 [[(sV a3.s),(iV (y77.2.1)),(iV (y77.2.2.1)),(sV (y77.2.2.2.1)),(iV (y77.2.2.2.2.1)),(iV (y77.2.2.2.2.2.1)),(iV (y77.2.2.2.2.2.2))]]))] fOk23 wants_none rfl (evm_cons rfl (evm_cons rfl (evm_cons rfl evm_nil))) (.cons (Sub.ptr rfl rfl) (.cons (Sub.imm (Imm.con _)) (.cons (Sub.imm (Imm.con _)) .nil))) (.cons rfl (ObSub.box (.cons (Sub.imm (Imm.con _)) (.cons (Sub.imm (Imm.con _)) (.cons (Sub.imm (Imm.con _)) (.cons (Sub.imm (Imm.con _)) (.cons (Sub.imm (Imm.con _)) (.cons (Sub.imm (Imm.con _)) (.cons (Sub.imm (Imm.con _)) .nil)))))))) .nil) (W23 F 1 a2 (Tpolicy_reader.mk a3.s n70 (Tpolicy_token.mk n71 s72 n73) n74 n75) y77 hx78) rfl rfl rfl rfl (Sub.immT (Imm.con _)) (.cons rfl (ObSub.box (.cons (Sub.immT (Imm.con _)) (.cons (Sub.immT (Imm.con _)) (.cons (Sub.immT (Imm.con _)) (.cons (Sub.immT (Imm.con _)) (.cons (Sub.immT (Imm.con _)) (.cons (Sub.immT (Imm.con _)) (.cons (Sub.immT (Imm.con _)) .nil)))))))) .nil) _ rfl ?_
  refine fo (rn 1 rfl ?_)
  refine spC h rfl (fun hb79 h=>?_) (fun hb79 h=>?_)
  ·obtain⟨y80,hx81,h⟩:=bind_some h
   refine rn 2 rfl ?_
   refine ck h (fun hc82 h=>?_)
   refine awp_ghost ghost_res ?_
   refine awp_ghost ghost_res ?_
   refine fa ?_
   refine dr mixed (vs 3 rfl (xD (OD.mk [(45,(V.fn (.func 83) [] [(V.ptr 1 1 0 0),(V.ptr 2 1 0 0)]))] [(1,(Ob.arr 69 1 [[(V.ptr 0 7 0 0)]])),(2,(Ob.arr 3 1 [[(iV a4)]])),(0,(Ob.arr 73 7 [[(sV a3.s),(iV (y77.2.1)),(iV (y77.2.2.1)),(sV (y77.2.2.2.1)),(iV (y77.2.2.2.2.1)),(iV (y77.2.2.2.2.2.1)),(iV (y77.2.2.2.2.2.2))]])),(6,Ob.res)] [(46,(V.agg [(iV (y80.2.2.2.2.2.2.1)),(sV (y80.2.2.2.2.2.2.2.1)),(V.lst 1 ((y80.2.2.2.2.2.2.2.2.1).map encS)),(iV (y80.2.2.2.2.2.2.2.2.2.1)),(iV (y80.2.2.2.2.2.2.2.2.2.2.1)),(V.lst 6 ((y80.2.2.2.2.2.2.2.2.2.2.2).map KRow.row))]))] [(1,(Ob.arr 69 1 [[(V.ptr 0 7 0 0)]])),(2,(Ob.arr 3 1 [[(iV a4)]])),(0,(Ob.arr 73 7 [[(sV a3.s),(iV (y80.1)),(iV (y80.2.1)),(sV (y80.2.2.1)),(iV (y80.2.2.2.1)),(iV (y80.2.2.2.2.1)),(iV (y80.2.2.2.2.2.1))]])),(6,Ob.dead)]) ⟨⟨rfl,trivial⟩,⟨rfl,rfl,rfl,rfl,trivial⟩⟩ (by exact fun S hn h hh=>aops_mcallv_atH [6] hn (by8.2 ⟨hh.2.2.2.1,(fun _ hx=>nomatch hx)⟩) (V.agg [(iV (y80.2.2.2.2.2.2.1)),(sV (y80.2.2.2.2.2.2.2.1)),(V.lst 1 ((y80.2.2.2.2.2.2.2.2.1).map encS)),(iV (y80.2.2.2.2.2.2.2.2.2.1)),(iV (y80.2.2.2.2.2.2.2.2.2.2.1)),(V.lst 6 ((y80.2.2.2.2.2.2.2.2.2.2.2).map KRow.row))]) [(V.ptr 1 1 0 0),(V.ptr 2 1 0 0)] (fun i=>([1,2,0]:List Nat).getD i 0) (fun i=>([1,2,0,6]:List Nat).getD i 0) [(1,(Ob.arr 69 1 [[(V.ptr 0 7 0 0)]])),(2,(Ob.arr 3 1 [[(iV a4)]])),(0,(Ob.arr 73 7 [[(sV a3.s),(iV (y80.1)),(iV (y80.2.1)),(sV (y80.2.2.1)),(iV (y80.2.2.2.1)),(iV (y80.2.2.2.2.1)),(iV (y80.2.2.2.2.2.1))]])),(6,Ob.dead)] fOk83 wants_none rfl h.1 rfl (.cons (Sub.ptr rfl rfl) (.cons (Sub.ptr rfl rfl) .nil)) (HpSub.consE (id:=0) rfl hh.1 (ObSub.box (.cons (Sub.ptr rfl rfl) .nil)) (HpSub.consE (id:=1) rfl hh.2.1 (ObSub.box (.cons (Sub.imm (Imm.con _)) .nil)) (HpSub.consE (id:=2) rfl hh.2.2.1 (ObSub.box (.cons (Sub.imm (Imm.con _)) (.cons (Sub.imm (Imm.con _)) (.cons (Sub.imm (Imm.con _)) (.cons (Sub.imm (Imm.con _)) (.cons (Sub.imm (Imm.con _)) (.cons (Sub.imm (Imm.con _)) (.cons (Sub.imm (Imm.con _)) .nil)))))))) .nil))) (W83 R84 hR84 F a4 (Tpolicy_reader.mk a3.s (y77.2.1) (Tpolicy_token.mk (y77.2.2.1) (y77.2.2.2.1) (y77.2.2.2.2.1)) (y77.2.2.2.2.2.1) (y77.2.2.2.2.2.2)) y80 hx81) rfl rfl rfl rfl (Sub.immT (Imm.agg (.cons (Imm.con _) (.cons (Imm.con _) (.cons (Imm.lst _ _) (.cons (Imm.con _) (.cons (Imm.con _) (.cons (Imm.lst _ _) .nil)))))))) (.cons rfl (ObSub.box (.cons (Sub.ptrT rfl rfl) .nil)) (.cons rfl (ObSub.box (.cons (Sub.immT (Imm.con _)) .nil)) (.cons rfl (ObSub.box (.cons (Sub.immT (Imm.con _)) (.cons (Sub.immT (Imm.con _)) (.cons (Sub.immT (Imm.con _)) (.cons (Sub.immT (Imm.con _)) (.cons (Sub.immT (Imm.con _)) (.cons (Sub.immT (Imm.con _)) (.cons (Sub.immT (Imm.con _)) .nil)))))))) (.cons rfl ObSub.deadT .nil)))) (aops_nil ⟨rfl,rfl⟩)) rfl (xD (OD.mk [(46,(V.agg [(iV (y80.2.2.2.2.2.2.1)),(sV (y80.2.2.2.2.2.2.2.1)),(V.lst 1 ((y80.2.2.2.2.2.2.2.2.1).map encS)),(iV (y80.2.2.2.2.2.2.2.2.2.1)),(iV (y80.2.2.2.2.2.2.2.2.2.2.1)),(V.lst 6 ((y80.2.2.2.2.2.2.2.2.2.2.2).map KRow.row))]))] [] [(47,(V.lst 6 (([rowK encTTest (TTest.mk (y80.2.2.2.2.2.2.1) (y80.2.2.2.2.2.2.2.1) (y80.2.2.2.2.2.2.2.2.1) (y80.2.2.2.2.2.2.2.2.2.1) (y80.2.2.2.2.2.2.2.2.2.2.1) (y80.2.2.2.2.2.2.2.2.2.2.2))]:List KRow).map KRow.row)))] []) ⟨⟨rfl,trivial⟩,trivial⟩ (by exact fun S hn h hh=>aops_buildSlice_imm [(0,(V.agg [(iV (y80.2.2.2.2.2.2.1)),(sV (y80.2.2.2.2.2.2.2.1)),(V.lst 1 ((y80.2.2.2.2.2.2.2.2.1).map encS)),(iV (y80.2.2.2.2.2.2.2.2.2.1)),(iV (y80.2.2.2.2.2.2.2.2.2.2.1)),(V.lst 6 ((y80.2.2.2.2.2.2.2.2.2.2.2).map KRow.row))]))] [[(iV (y80.2.2.2.2.2.2.1)),(sV (y80.2.2.2.2.2.2.2.1)),(V.lst 1 ((y80.2.2.2.2.2.2.2.2.1).map encS)),(iV (y80.2.2.2.2.2.2.2.2.2.1)),(iV (y80.2.2.2.2.2.2.2.2.2.2.1)),(V.lst 6 ((y80.2.2.2.2.2.2.2.2.2.2.2).map KRow.row))]] tEl40 tZ42 wants_none rfl rfl rfl rfl (evp_cons h.1 evp_nil) rfl rfl (by simp) (imms_rows (.cons (.cons (Imm.con _) (.cons (Imm.con _) (.cons (Imm.lst _ _) (.cons (Imm.con _) (.cons (Imm.con _) (.cons (Imm.lst _ _) .nil)))))) .nil)) rfl (aops_nil ⟨rfl,rfl⟩)) rfl (xD (OD.mk [(44,(V.own 5 l76.length)),(47,(V.lst 6 (([rowK encTTest (TTest.mk (y80.2.2.2.2.2.2.1) (y80.2.2.2.2.2.2.2.1) (y80.2.2.2.2.2.2.2.2.1) (y80.2.2.2.2.2.2.2.2.2.1) (y80.2.2.2.2.2.2.2.2.2.2.1) (y80.2.2.2.2.2.2.2.2.2.2.2))]:List KRow).map KRow.row)))] [(5,(Ob.arr 42 6 (l76.map KRow.row))),(7,Ob.res)] [(48,(V.own 7 (l76++([rowK encTTest (TTest.mk (y80.2.2.2.2.2.2.1) (y80.2.2.2.2.2.2.2.1) (y80.2.2.2.2.2.2.2.2.1) (y80.2.2.2.2.2.2.2.2.2.1) (y80.2.2.2.2.2.2.2.2.2.2.1) (y80.2.2.2.2.2.2.2.2.2.2.2))]:List KRow)).length))] [(7,(Ob.arr 42 6 ((l76++([rowK encTTest (TTest.mk (y80.2.2.2.2.2.2.1) (y80.2.2.2.2.2.2.2.1) (y80.2.2.2.2.2.2.2.2.1) (y80.2.2.2.2.2.2.2.2.2.1) (y80.2.2.2.2.2.2.2.2.2.2.1) (y80.2.2.2.2.2.2.2.2.2.2.2))]:List KRow)).map KRow.row))),(5,Ob.dead)]) ⟨⟨rfl,rfl,trivial⟩,⟨rfl,rfl,trivial⟩⟩ (by exact fun S hn h hh=>aops_append_at 7 rfl hn hh.2.1 (([rowK encTTest (TTest.mk (y80.2.2.2.2.2.2.1) (y80.2.2.2.2.2.2.2.1) (y80.2.2.2.2.2.2.2.2.1) (y80.2.2.2.2.2.2.2.2.2.1) (y80.2.2.2.2.2.2.2.2.2.2.1) (y80.2.2.2.2.2.2.2.2.2.2.2))]:List KRow).map KRow.row) ((l76++([rowK encTTest (TTest.mk (y80.2.2.2.2.2.2.1) (y80.2.2.2.2.2.2.2.1) (y80.2.2.2.2.2.2.2.2.1) (y80.2.2.2.2.2.2.2.2.2.1) (y80.2.2.2.2.2.2.2.2.2.2.1) (y80.2.2.2.2.2.2.2.2.2.2.2))]:List KRow)).map KRow.row) tEl40 tIsSl40 rfl rfl wants_none h.1 hh.1 (by simp) h.2.1 (.lst (rows_one KRow.one)) (map_snoc KRow.row l76 ([rowK encTTest (TTest.mk (y80.2.2.2.2.2.2.1) (y80.2.2.2.2.2.2.2.1) (y80.2.2.2.2.2.2.2.2.1) (y80.2.2.2.2.2.2.2.2.2.1) (y80.2.2.2.2.2.2.2.2.2.2.1) (y80.2.2.2.2.2.2.2.2.2.2.2))]:List KRow)) (bb8 ..) hc82 rfl (aops_nil ⟨rfl,rfl⟩)) rfl (vs 2 rfl .nil))))) (by kernel_rfl) ?_
   refine rn 1 rfl ?_
   exact jX ((y80.1),(y80.2.1),(y80.2.2.1),(y80.2.2.2.1),(y80.2.2.2.2.1),(y80.2.2.2.2.2.1),(l76++([rowK encTTest (TTest.mk (y80.2.2.2.2.2.2.1) (y80.2.2.2.2.2.2.2.1) (y80.2.2.2.2.2.2.2.2.1) (y80.2.2.2.2.2.2.2.2.2.1) (y80.2.2.2.2.2.2.2.2.2.2.1) (y80.2.2.2.2.2.2.2.2.2.2.2))]:List KRow))) h (gr [0,1,2,3,4,7] rfl (hB rfl rfl rfl (hB rfl rfl rfl (hB rfl rfl rfl (hB rfl rfl rfl (hB rfl rfl rfl (hR rfl rfl .nil)))))) rfl)
  refine rn 1 rfl ?_
  exact jX ((y77.2.1),(y77.2.2.1),(y77.2.2.2.1),(y77.2.2.2.2.1),(y77.2.2.2.2.2.1),(y77.2.2.2.2.2.2),l76) h (gr [0,1,2,3,4,5] rfl (hB rfl rfl rfl (hB rfl rfl rfl (hB rfl rfl rfl (hB rfl rfl rfl (hB rfl rfl rfl (hR rfl rfl .nil)))))) rfl)
 rintro⟨n56,n57,s58,n59,n60,n61,l62⟩ h
 refine rn 5 rfl ?_
 replace h:=ae8 h
 subst h
 exact wR ⟨.inl rfl,[(8,(V.ptr 3 6 0 0))],(Ghost.trans (ghost_frzC 5 3 (Ob.arr 42 6 [[(iV a1),(sV ([]:List UInt8)),nV,(iV 0),(iV 0),(V.lst 6 (l62.map KRow.row))]]) rfl (rows_imm KRow.imm) (ObSub.box (.cons Sub.keep (.cons Sub.keep (.cons Sub.keep (.cons Sub.keep (.cons Sub.keep (.cons (Sub.frzAll (rows:=l62.map KRow.row) (bb8 ..).symm) .nil)))))))) (gr [0,1,2,3] rfl (hB rfl rfl rfl (hB rfl rfl rfl (hB rfl rfl rfl (hB rfl rfl rfl .nil)))) rfl)),(.cons (.agg tA42 rfl rfl rfl rfl rfl) .nil)⟩
theorem W82(R84:Int->Tpolicy_reader->Option (Int×Int×(List UInt8)×Int×Int×Int×Int×(List UInt8)×(List (List UInt8))×Int×Int×(List KRow)))(hR84:∀(a1:Int) (a2:Tpolicy_reader) (r:(Int×Int×(List UInt8)×Int×Int×Int×Int×(List UInt8)×(List (List UInt8))×Int×Int×(List KRow))),R84 a1 a2=some r->MutG gl Tryz.prog 84 [(V.ptr 0 7 0 0),(iV a1)] 1 [(0,(Ob.arr 73 7 [(encTpolicy_reader a2)]))] (resV [(V.agg [(iV (r.2.2.2.2.2.2.1)),(sV (r.2.2.2.2.2.2.2.1)),(V.lst 1 ((r.2.2.2.2.2.2.2.2.1).map encS)),(iV (r.2.2.2.2.2.2.2.2.2.1)),(iV (r.2.2.2.2.2.2.2.2.2.2.1)),(V.lst 6 ((r.2.2.2.2.2.2.2.2.2.2.2).map KRow.row))])]) 2 [(0,(Ob.arr 73 7 [[(sV a2.s),(iV (r.1)),(iV (r.2.1)),(sV (r.2.2.1)),(iV (r.2.2.2.1)),(iV (r.2.2.2.2.1)),(iV (r.2.2.2.2.2.1))]])),(1,(Ob.arr 42 6 [[(iV (r.2.2.2.2.2.2.1)),(sV (r.2.2.2.2.2.2.2.1)),(V.lst 1 ((r.2.2.2.2.2.2.2.2.1).map encS)),(iV (r.2.2.2.2.2.2.2.2.2.1)),(iV (r.2.2.2.2.2.2.2.2.2.2.1)),(V.lst 6 ((r.2.2.2.2.2.2.2.2.2.2.2).map KRow.row))]]))])(F:Nat)(a1:Int)(a2:Tpolicy_reader)(r:(Int×Int×(List UInt8)×Int×Int×Int×Int×(List UInt8)×(List (List UInt8))×Int×Int×(List KRow)))(h:M82 R84 F a1 a2=some r):MutG gl Tryz.prog 82 [(V.ptr 0 1 0 0),(V.ptr 1 1 0 0)] 3 [(0,(Ob.arr 69 1 [[(V.ptr 2 7 0 0)]])),(1,(Ob.arr 3 1 [[(iV a1)]])),(2,(Ob.arr 73 7 [(encTpolicy_reader a2)]))] (resV [(V.agg [(iV (r.2.2.2.2.2.2.1)),(sV (r.2.2.2.2.2.2.2.1)),(V.lst 1 ((r.2.2.2.2.2.2.2.2.1).map encS)),(iV (r.2.2.2.2.2.2.2.2.2.1)),(iV (r.2.2.2.2.2.2.2.2.2.2.1)),(V.lst 6 ((r.2.2.2.2.2.2.2.2.2.2.2).map KRow.row))])]) 4 [(0,(Ob.arr 69 1 [[(V.ptr 2 7 0 0)]])),(1,(Ob.arr 3 1 [[(iV a1)]])),(2,(Ob.arr 73 7 [[(sV a2.s),(iV (r.1)),(iV (r.2.1)),(sV (r.2.2.1)),(iV (r.2.2.2.1)),(iV (r.2.2.2.2.1)),(iV (r.2.2.2.2.2.1))]])),(3,(Ob.arr 42 6 [[(iV (r.2.2.2.2.2.2.1)),(sV (r.2.2.2.2.2.2.2.1)),(V.lst 1 ((r.2.2.2.2.2.2.2.2.1).map encS)),(iV (r.2.2.2.2.2.2.2.2.2.1)),(iV (r.2.2.2.2.2.2.2.2.2.2.1)),(V.lst 6 ((r.2.2.2.2.2.2.2.2.2.2.2).map KRow.row))]]))]:=by
 refine mut_enter Tryz.func82 rfl rfl (l:=[.cell 2 42]) rfl rfl [(0,(V.ptr 0 1 0 0)),(1,(V.ptr 1 1 0 0))] rfl (fun w0 m0 β0 hg=>en ?_)
 unfold M82 at h
 obtain⟨y17,hx18,h⟩:=bind_some h
 refine rn 8 rfl ?_
 refine aops_mcallS (V.agg [(iV (y17.2.2.2.2.2.2.1)),(sV (y17.2.2.2.2.2.2.2.1)),(V.lst 1 ((y17.2.2.2.2.2.2.2.2.1).map encS)),(iV (y17.2.2.2.2.2.2.2.2.2.1)),(iV (y17.2.2.2.2.2.2.2.2.2.2.1)),(V.lst 6 ((y17.2.2.2.2.2.2.2.2.2.2.2).map KRow.row))]) [(V.ptr 2 7 0 0),(iV 7),(sV ([97,110,100]:List UInt8)),(V.fn (.func 83) [] [(V.ptr 0 1 0 0),(V.ptr 1 1 0 0)])] (fun i=>([2,0,1]:List Nat).getD i 0) (fun i=>([2,0,1,4]:List Nat).getD i 0) 4 5 [(2,(Ob.arr 73 7 [[(sV a2.s),(iV (y17.1)),(iV (y17.2.1)),(sV (y17.2.2.1)),(iV (y17.2.2.2.1)),(iV (y17.2.2.2.2.1)),(iV (y17.2.2.2.2.2.1))]])),(0,(Ob.arr 69 1 [[(V.ptr 2 7 0 0)]])),(1,(Ob.arr 3 1 [[(iV a1)]])),(4,Ob.dead)] fOk81 wants_none rfl (evm_cons rfl (evm_cons rfl (evm_cons rfl (evm_cons rfl evm_nil)))) (.cons (Sub.ptr rfl rfl) (.cons (Sub.imm (Imm.con _)) (.cons (Sub.imm (Imm.con _)) (.cons (Sub.fnc (.cons (Sub.ptr rfl rfl) (.cons (Sub.ptr rfl rfl) .nil))) .nil)))) (.cons rfl (ObSub.box (.cons (Sub.imm (Imm.con _)) (.cons (Sub.imm (Imm.con _)) (.cons (Sub.imm (Imm.con _)) (.cons (Sub.imm (Imm.con _)) (.cons (Sub.imm (Imm.con _)) (.cons (Sub.imm (Imm.con _)) (.cons (Sub.imm (Imm.con _)) .nil)))))))) (.cons rfl (ObSub.box (.cons (Sub.ptr rfl rfl) .nil)) (.cons rfl (ObSub.box (.cons (Sub.imm (Imm.con _)) .nil)) .nil))) (W81_1 R84 hR84 F 7 ([97,110,100]:List UInt8) a2 a1 y17 hx18) rfl rfl rfl rfl (Sub.immT (Imm.agg (.cons (Imm.con _) (.cons (Imm.con _) (.cons (Imm.lst _ _) (.cons (Imm.con _) (.cons (Imm.con _) (.cons (Imm.lst _ _) .nil)))))))) (.cons rfl (ObSub.box (.cons (Sub.immT (Imm.con _)) (.cons (Sub.immT (Imm.con _)) (.cons (Sub.immT (Imm.con _)) (.cons (Sub.immT (Imm.con _)) (.cons (Sub.immT (Imm.con _)) (.cons (Sub.immT (Imm.con _)) (.cons (Sub.immT (Imm.con _)) .nil)))))))) (.cons rfl (ObSub.box (.cons (Sub.ptrT rfl rfl) .nil)) (.cons rfl (ObSub.box (.cons (Sub.immT (Imm.con _)) .nil)) (.cons rfl ObSub.deadT .nil)))) _ rfl ?_
 refine fo (rn 2 rfl ?_)
 replace h:=ae8 h
 subst h
 exact wR ⟨.inl rfl,[(2,(V.ptr 3 6 0 0))],(gr [0,1,2,3] rfl (hB rfl rfl rfl (hB rfl rfl rfl (hB rfl rfl rfl (hB rfl rfl rfl .nil)))) rfl),(.cons (.agg tA42 rfl rfl rfl rfl rfl) .nil)⟩
theorem W81(R84:Int->Tpolicy_reader->Option (Int×Int×(List UInt8)×Int×Int×Int×Int×(List UInt8)×(List (List UInt8))×Int×Int×(List KRow)))(hR84:∀(a1:Int) (a2:Tpolicy_reader) (r:(Int×Int×(List UInt8)×Int×Int×Int×Int×(List UInt8)×(List (List UInt8))×Int×Int×(List KRow))),R84 a1 a2=some r->MutG gl Tryz.prog 84 [(V.ptr 0 7 0 0),(iV a1)] 1 [(0,(Ob.arr 73 7 [(encTpolicy_reader a2)]))] (resV [(V.agg [(iV (r.2.2.2.2.2.2.1)),(sV (r.2.2.2.2.2.2.2.1)),(V.lst 1 ((r.2.2.2.2.2.2.2.2.1).map encS)),(iV (r.2.2.2.2.2.2.2.2.2.1)),(iV (r.2.2.2.2.2.2.2.2.2.2.1)),(V.lst 6 ((r.2.2.2.2.2.2.2.2.2.2.2).map KRow.row))])]) 2 [(0,(Ob.arr 73 7 [[(sV a2.s),(iV (r.1)),(iV (r.2.1)),(sV (r.2.2.1)),(iV (r.2.2.2.1)),(iV (r.2.2.2.2.1)),(iV (r.2.2.2.2.2.1))]])),(1,(Ob.arr 42 6 [[(iV (r.2.2.2.2.2.2.1)),(sV (r.2.2.2.2.2.2.2.1)),(V.lst 1 ((r.2.2.2.2.2.2.2.2.1).map encS)),(iV (r.2.2.2.2.2.2.2.2.2.1)),(iV (r.2.2.2.2.2.2.2.2.2.2.1)),(V.lst 6 ((r.2.2.2.2.2.2.2.2.2.2.2).map KRow.row))]]))])(F:Nat)(a1:Int)(a2:(List UInt8))(a3:Tpolicy_reader)(a4:Int)(r:(Int×Int×(List UInt8)×Int×Int×Int×Int×(List UInt8)×(List (List UInt8))×Int×Int×(List KRow)))(h:M81 R84 F a1 a2 a3 a4=some r):MutG gl Tryz.prog 81 [(V.ptr 0 7 0 0),(iV a1),(sV a2),(V.fn (.func 82) [] [(V.ptr 1 1 0 0),(V.ptr 2 1 0 0)])] 3 [(0,(Ob.arr 73 7 [(encTpolicy_reader a3)])),(1,(Ob.arr 69 1 [[(V.ptr 0 7 0 0)]])),(2,(Ob.arr 3 1 [[(iV a4)]]))] (resV [(V.agg [(iV (r.2.2.2.2.2.2.1)),(sV (r.2.2.2.2.2.2.2.1)),(V.lst 1 ((r.2.2.2.2.2.2.2.2.1).map encS)),(iV (r.2.2.2.2.2.2.2.2.2.1)),(iV (r.2.2.2.2.2.2.2.2.2.2.1)),(V.lst 6 ((r.2.2.2.2.2.2.2.2.2.2.2).map KRow.row))])]) 4 [(0,(Ob.arr 73 7 [[(sV a3.s),(iV (r.1)),(iV (r.2.1)),(sV (r.2.2.1)),(iV (r.2.2.2.1)),(iV (r.2.2.2.2.1)),(iV (r.2.2.2.2.2.1))]])),(1,(Ob.arr 69 1 [[(V.ptr 0 7 0 0)]])),(2,(Ob.arr 3 1 [[(iV a4)]])),(3,(Ob.arr 42 6 [[(iV (r.2.2.2.2.2.2.1)),(sV (r.2.2.2.2.2.2.2.1)),(V.lst 1 ((r.2.2.2.2.2.2.2.2.1).map encS)),(iV (r.2.2.2.2.2.2.2.2.2.1)),(iV (r.2.2.2.2.2.2.2.2.2.2.1)),(V.lst 6 ((r.2.2.2.2.2.2.2.2.2.2.2).map KRow.row))]]))]:=by
 refine mut_enter Tryz.func81 rfl rfl (l:=[.cell 8 42]) rfl rfl [(0,(V.ptr 0 7 0 0)),(1,(iV a1)),(2,(sV a2)),(3,(V.fn (.func 82) [] [(V.ptr 1 1 0 0),(V.ptr 2 1 0 0)]))] rfl (fun w0 m0 β0 hg=>en ?_)
 unfold M81 at h
 obtain⟨y50,hx51,h⟩:=bind_some h
 refine rn 7 rfl ?_
 refine aops_mcallvS (V.agg [(iV (y50.2.2.2.2.2.2.1)),(sV (y50.2.2.2.2.2.2.2.1)),(V.lst 1 ((y50.2.2.2.2.2.2.2.2.1).map encS)),(iV (y50.2.2.2.2.2.2.2.2.2.1)),(iV (y50.2.2.2.2.2.2.2.2.2.2.1)),(V.lst 6 ((y50.2.2.2.2.2.2.2.2.2.2.2).map KRow.row))]) [(V.ptr 1 1 0 0),(V.ptr 2 1 0 0)] (fun i=>([1,2,0]:List Nat).getD i 0) (fun i=>([1,2,0,4]:List Nat).getD i 0) 4 5 [(1,(Ob.arr 69 1 [[(V.ptr 0 7 0 0)]])),(2,(Ob.arr 3 1 [[(iV a4)]])),(0,(Ob.arr 73 7 [[(sV a3.s),(iV (y50.1)),(iV (y50.2.1)),(sV (y50.2.2.1)),(iV (y50.2.2.2.1)),(iV (y50.2.2.2.2.1)),(iV (y50.2.2.2.2.2.1))]])),(4,Ob.dead)] fOk82 wants_none rfl rfl rfl (.cons (Sub.ptr rfl rfl) (.cons (Sub.ptr rfl rfl) .nil)) (.cons rfl (ObSub.box (.cons (Sub.ptr rfl rfl) .nil)) (.cons rfl (ObSub.box (.cons (Sub.imm (Imm.con _)) .nil)) (.cons rfl (ObSub.box (.cons (Sub.imm (Imm.con _)) (.cons (Sub.imm (Imm.con _)) (.cons (Sub.imm (Imm.con _)) (.cons (Sub.imm (Imm.con _)) (.cons (Sub.imm (Imm.con _)) (.cons (Sub.imm (Imm.con _)) (.cons (Sub.imm (Imm.con _)) .nil)))))))) .nil))) (W82 R84 hR84 F a4 a3 y50 hx51) rfl rfl rfl rfl (Sub.immT (Imm.agg (.cons (Imm.con _) (.cons (Imm.con _) (.cons (Imm.lst _ _) (.cons (Imm.con _) (.cons (Imm.con _) (.cons (Imm.lst _ _) .nil)))))))) (.cons rfl (ObSub.box (.cons (Sub.ptrT rfl rfl) .nil)) (.cons rfl (ObSub.box (.cons (Sub.immT (Imm.con _)) .nil)) (.cons rfl (ObSub.box (.cons (Sub.immT (Imm.con _)) (.cons (Sub.immT (Imm.con _)) (.cons (Sub.immT (Imm.con _)) (.cons (Sub.immT (Imm.con _)) (.cons (Sub.immT (Imm.con _)) (.cons (Sub.immT (Imm.con _)) (.cons (Sub.immT (Imm.con _)) .nil)))))))) (.cons rfl ObSub.deadT .nil)))) _ rfl ?_
 refine fo (rn 12 rfl ?_)
 refine spO 18 h rfl (fun hb52 h=>?_) (fun hb52 h=>?_)
 ·refine rn 23 rfl ?_
  replace h:=ae8 h
  subst h
  exact wR ⟨.inl rfl,[(8,(V.ptr 3 6 0 0))],(gr [0,1,2,3] rfl (hB rfl rfl rfl (hB rfl rfl rfl (hB rfl rfl rfl (hB rfl rfl rfl .nil)))) rfl),(.cons (.agg tA42 rfl rfl rfl rfl rfl) .nil)⟩
 refine rn 8 rfl ?_
 refine spO 26 h rfl (fun hb53 h=>?_) (fun hb53 h=>?_)
 ·refine rn 15 rfl ?_
  replace h:=ae8 h
  subst h
  exact wR ⟨.inl rfl,[(8,(V.ptr 3 6 0 0))],(gr [0,1,2,3] rfl (hB rfl rfl rfl (hB rfl rfl rfl (hB rfl rfl rfl (hB rfl rfl rfl .nil)))) rfl),(.cons (.agg tA42 rfl rfl rfl rfl rfl) .nil)⟩
 refine rn 9 rfl ?_
 refine spC h rfl (fun hb54 h=>?_) (fun hb54 h=>?_)
 ·refine rn 5 rfl ?_
  replace h:=ae8 h
  subst h
  exact wR ⟨.inl rfl,[(8,(V.ptr 3 6 0 0))],(gr [0,1,2,3] rfl (hB rfl rfl rfl (hB rfl rfl rfl (hB rfl rfl rfl (hB rfl rfl rfl .nil)))) rfl),(.cons (.agg tA42 rfl rfl rfl rfl rfl) .nil)⟩
 refine rn 5 rfl ?_
 refine aops_buildSlice [(0,(V.agg [(iV (y50.2.2.2.2.2.2.1)),(sV (y50.2.2.2.2.2.2.2.1)),(V.lst 1 ((y50.2.2.2.2.2.2.2.2.1).map encS)),(iV (y50.2.2.2.2.2.2.2.2.2.1)),(iV (y50.2.2.2.2.2.2.2.2.2.2.1)),(V.lst 6 ((y50.2.2.2.2.2.2.2.2.2.2.2).map KRow.row))]))] [[(iV (y50.2.2.2.2.2.2.1)),(sV (y50.2.2.2.2.2.2.2.1)),(V.lst 1 ((y50.2.2.2.2.2.2.2.2.1).map encS)),(iV (y50.2.2.2.2.2.2.2.2.2.1)),(iV (y50.2.2.2.2.2.2.2.2.2.2.1)),(V.lst 6 ((y50.2.2.2.2.2.2.2.2.2.2.2).map KRow.row))]] tEl40 tZ42 rfl rfl rfl rfl wants_none (evp_cons rfl evp_nil) rfl rfl (by simp) rfl ?_
 refine fo (rn 5 rfl ?_)
 refine jK h (fun(p:Int×Int×(List UInt8)×Int×Int×Int×(List KRow))=>(⟨[(8,(V.ptr 3 6 0 0)),(10,(V.ptr 4 6 0 0))],[(0,(Ob.arr 73 7 [[(sV a3.s),(iV (p.1)),(iV (p.2.1)),(sV (p.2.2.1)),(iV (p.2.2.2.1)),(iV (p.2.2.2.2.1)),(iV (p.2.2.2.2.2.1))]])),(1,(Ob.arr 69 1 [[(V.ptr 0 7 0 0)]])),(2,(Ob.arr 3 1 [[(iV a4)]])),(3,(Ob.arr 42 6 [[(iV 0),(sV ([]:List UInt8)),nV,(iV 0),(iV 0),nV]])),(4,(Ob.arr 42 6 [[(iV a1),(sV ([]:List UInt8)),nV,(iV 0),(iV 0),(V.own 5 (p.2.2.2.2.2.2).length)]])),(5,(Ob.arr 42 6 ((p.2.2.2.2.2.2).map KRow.row)))],6⟩:St)) (fun k55 p=>k55 p.1 p.2.1 p.2.2.1 p.2.2.2.1 p.2.2.2.2.1 p.2.2.2.2.2.1 p.2.2.2.2.2.2=some r) (fun k55 h=>?_) ?_
 ·refine rn 1 rfl ?_
  refine lC (fun(p:Int×Int×(List UInt8)×Int×Int×Int×(List KRow))=>(⟨[(0,(V.ptr 0 7 0 0)),(2,(sV a2)),(3,(V.fn (.func 82) [] [(V.ptr 1 1 0 0),(V.ptr 2 1 0 0)])),(8,(V.ptr 3 6 0 0)),(10,(V.ptr 4 6 0 0))],[(0,(Ob.arr 73 7 [[(sV a3.s),(iV (p.1)),(iV (p.2.1)),(sV (p.2.2.1)),(iV (p.2.2.2.1)),(iV (p.2.2.2.2.1)),(iV (p.2.2.2.2.2.1))]])),(1,(Ob.arr 69 1 [[(V.ptr 0 7 0 0)]])),(2,(Ob.arr 3 1 [[(iV a4)]])),(3,(Ob.arr 42 6 [[(iV 0),(sV ([]:List UInt8)),nV,(iV 0),(iV 0),nV]])),(4,(Ob.arr 42 6 [[(iV a1),(sV ([]:List UInt8)),nV,(iV 0),(iV 0),(V.own 5 (p.2.2.2.2.2.2).length)]])),(5,(Ob.arr 42 6 ((p.2.2.2.2.2.2).map KRow.row)))],6⟩:St)) (fun n p=>M81_L1 R84 F a2 a3 a4 k55 n p.1 p.2.1 p.2.2.1 p.2.2.2.1 p.2.2.2.2.1 p.2.2.2.2.2.1 p.2.2.2.2.2.2=some r) (fun p h=>by simp[M81_L1] at h) F ((y50.1),(y50.2.1),(y50.2.2.1),(y50.2.2.2.1),(y50.2.2.2.2.1),(y50.2.2.2.2.2.1),([rowK encTTest (TTest.mk (y50.2.2.2.2.2.2.1) (y50.2.2.2.2.2.2.2.1) (y50.2.2.2.2.2.2.2.2.1) (y50.2.2.2.2.2.2.2.2.2.1) (y50.2.2.2.2.2.2.2.2.2.2.1) (y50.2.2.2.2.2.2.2.2.2.2.2))]:List KRow)) h (ghost_ren 6 (fun i=>([0,1,2,3,7,6]:List Nat).getD i 0) _ _ (by decide) (EnvSub.get (.cons (Sub.ptr rfl rfl) (.cons (Sub.imm (Imm.con _)) (.cons (Sub.fnc (.cons (Sub.ptr rfl rfl) (.cons (Sub.ptr rfl rfl) .nil))) (.cons (Sub.ptr rfl rfl) (.cons (Sub.ptr rfl rfl) .nil)))))) (HpSub.get (.cons rfl (ObSub.box (.cons (Sub.imm (Imm.con _)) (.cons (Sub.imm (Imm.con _)) (.cons (Sub.imm (Imm.con _)) (.cons (Sub.imm (Imm.con _)) (.cons (Sub.imm (Imm.con _)) (.cons (Sub.imm (Imm.con _)) (.cons (Sub.imm (Imm.con _)) .nil)))))))) (.cons rfl (ObSub.box (.cons (Sub.ptr rfl rfl) .nil)) (.cons rfl (ObSub.box (.cons (Sub.imm (Imm.con _)) .nil)) (.cons rfl (ObSub.box (.cons (Sub.imm (Imm.con _)) (.cons (Sub.imm (Imm.con _)) (.cons (Sub.imm (Imm.con _)) (.cons (Sub.imm (Imm.con _)) (.cons (Sub.imm (Imm.con _)) (.cons (Sub.imm (Imm.con _)) .nil))))))) (.cons rfl (ObSub.box (.cons (Sub.imm (Imm.con _)) (.cons (Sub.imm (Imm.con _)) (.cons (Sub.imm (Imm.con _)) (.cons (Sub.imm (Imm.con _)) (.cons (Sub.imm (Imm.con _)) (.cons (Sub.ownE rfl rfl (by simp)) .nil))))))) (.cons rfl (ObSub.rows (rows_imm KRow.imm)) .nil))))))) rfl) (fun n p h=>?_)
  obtain⟨n70,n71,s72,n73,n74,n75,l76⟩:=p
  unfold M81_L1 at h
  obtain⟨y77,hx78,h⟩:=bind_some h
  refine rn 5 rfl ?_
  refine aops_mcallS (bV (y77.1)) [(V.ptr 0 7 0 0),(iV 1),(sV a2)] (fun i=>([0]:List Nat).getD i 0) (fun i=>([0]:List Nat).getD i 0) 6 6 [(0,(Ob.arr 73 7 [[(sV a3.s),(iV (y77.2.1)),(iV (y77.2.2.1)),(sV (y77.2.2.2.1)),(iV (y77.2.2.2.2.1)),(iV (y77.2.2.2.2.2.1)),(iV (y77.2.2.2.2.2.2))]]))] fOk23 wants_none rfl (evm_cons rfl (evm_cons rfl (evm_cons rfl evm_nil))) (.cons (Sub.ptr rfl rfl) (.cons (Sub.imm (Imm.con _)) (.cons (Sub.imm (Imm.con _)) .nil))) (.cons rfl (ObSub.box (.cons (Sub.imm (Imm.con _)) (.cons (Sub.imm (Imm.con _)) (.cons (Sub.imm (Imm.con _)) (.cons (Sub.imm (Imm.con _)) (.cons (Sub.imm (Imm.con _)) (.cons (Sub.imm (Imm.con _)) (.cons (Sub.imm (Imm.con _)) .nil)))))))) .nil) (W23 F 1 a2 (Tpolicy_reader.mk a3.s n70 (Tpolicy_token.mk n71 s72 n73) n74 n75) y77 hx78) rfl rfl rfl rfl (Sub.immT (Imm.con _)) (.cons rfl (ObSub.box (.cons (Sub.immT (Imm.con _)) (.cons (Sub.immT (Imm.con _)) (.cons (Sub.immT (Imm.con _)) (.cons (Sub.immT (Imm.con _)) (.cons (Sub.immT (Imm.con _)) (.cons (Sub.immT (Imm.con _)) (.cons (Sub.immT (Imm.con _)) .nil)))))))) .nil) _ rfl ?_
  refine fo (rn 1 rfl ?_)
  refine spC h rfl (fun hb79 h=>?_) (fun hb79 h=>?_)
  ·obtain⟨y80,hx81,h⟩:=bind_some h
   refine rn 2 rfl ?_
   refine ck h (fun hc82 h=>?_)
   refine awp_ghost ghost_res ?_
   refine awp_ghost ghost_res ?_
   refine fa ?_
   refine dr mixed (vs 3 rfl (xD (OD.mk [(45,(V.fn (.func 82) [] [(V.ptr 1 1 0 0),(V.ptr 2 1 0 0)]))] [(1,(Ob.arr 69 1 [[(V.ptr 0 7 0 0)]])),(2,(Ob.arr 3 1 [[(iV a4)]])),(0,(Ob.arr 73 7 [[(sV a3.s),(iV (y77.2.1)),(iV (y77.2.2.1)),(sV (y77.2.2.2.1)),(iV (y77.2.2.2.2.1)),(iV (y77.2.2.2.2.2.1)),(iV (y77.2.2.2.2.2.2))]])),(6,Ob.res)] [(46,(V.agg [(iV (y80.2.2.2.2.2.2.1)),(sV (y80.2.2.2.2.2.2.2.1)),(V.lst 1 ((y80.2.2.2.2.2.2.2.2.1).map encS)),(iV (y80.2.2.2.2.2.2.2.2.2.1)),(iV (y80.2.2.2.2.2.2.2.2.2.2.1)),(V.lst 6 ((y80.2.2.2.2.2.2.2.2.2.2.2).map KRow.row))]))] [(1,(Ob.arr 69 1 [[(V.ptr 0 7 0 0)]])),(2,(Ob.arr 3 1 [[(iV a4)]])),(0,(Ob.arr 73 7 [[(sV a3.s),(iV (y80.1)),(iV (y80.2.1)),(sV (y80.2.2.1)),(iV (y80.2.2.2.1)),(iV (y80.2.2.2.2.1)),(iV (y80.2.2.2.2.2.1))]])),(6,Ob.dead)]) ⟨⟨rfl,trivial⟩,⟨rfl,rfl,rfl,rfl,trivial⟩⟩ (by exact fun S hn h hh=>aops_mcallv_atH [6] hn (by8.2 ⟨hh.2.2.2.1,(fun _ hx=>nomatch hx)⟩) (V.agg [(iV (y80.2.2.2.2.2.2.1)),(sV (y80.2.2.2.2.2.2.2.1)),(V.lst 1 ((y80.2.2.2.2.2.2.2.2.1).map encS)),(iV (y80.2.2.2.2.2.2.2.2.2.1)),(iV (y80.2.2.2.2.2.2.2.2.2.2.1)),(V.lst 6 ((y80.2.2.2.2.2.2.2.2.2.2.2).map KRow.row))]) [(V.ptr 1 1 0 0),(V.ptr 2 1 0 0)] (fun i=>([1,2,0]:List Nat).getD i 0) (fun i=>([1,2,0,6]:List Nat).getD i 0) [(1,(Ob.arr 69 1 [[(V.ptr 0 7 0 0)]])),(2,(Ob.arr 3 1 [[(iV a4)]])),(0,(Ob.arr 73 7 [[(sV a3.s),(iV (y80.1)),(iV (y80.2.1)),(sV (y80.2.2.1)),(iV (y80.2.2.2.1)),(iV (y80.2.2.2.2.1)),(iV (y80.2.2.2.2.2.1))]])),(6,Ob.dead)] fOk82 wants_none rfl h.1 rfl (.cons (Sub.ptr rfl rfl) (.cons (Sub.ptr rfl rfl) .nil)) (HpSub.consE (id:=0) rfl hh.1 (ObSub.box (.cons (Sub.ptr rfl rfl) .nil)) (HpSub.consE (id:=1) rfl hh.2.1 (ObSub.box (.cons (Sub.imm (Imm.con _)) .nil)) (HpSub.consE (id:=2) rfl hh.2.2.1 (ObSub.box (.cons (Sub.imm (Imm.con _)) (.cons (Sub.imm (Imm.con _)) (.cons (Sub.imm (Imm.con _)) (.cons (Sub.imm (Imm.con _)) (.cons (Sub.imm (Imm.con _)) (.cons (Sub.imm (Imm.con _)) (.cons (Sub.imm (Imm.con _)) .nil)))))))) .nil))) (W82 R84 hR84 F a4 (Tpolicy_reader.mk a3.s (y77.2.1) (Tpolicy_token.mk (y77.2.2.1) (y77.2.2.2.1) (y77.2.2.2.2.1)) (y77.2.2.2.2.2.1) (y77.2.2.2.2.2.2)) y80 hx81) rfl rfl rfl rfl (Sub.immT (Imm.agg (.cons (Imm.con _) (.cons (Imm.con _) (.cons (Imm.lst _ _) (.cons (Imm.con _) (.cons (Imm.con _) (.cons (Imm.lst _ _) .nil)))))))) (.cons rfl (ObSub.box (.cons (Sub.ptrT rfl rfl) .nil)) (.cons rfl (ObSub.box (.cons (Sub.immT (Imm.con _)) .nil)) (.cons rfl (ObSub.box (.cons (Sub.immT (Imm.con _)) (.cons (Sub.immT (Imm.con _)) (.cons (Sub.immT (Imm.con _)) (.cons (Sub.immT (Imm.con _)) (.cons (Sub.immT (Imm.con _)) (.cons (Sub.immT (Imm.con _)) (.cons (Sub.immT (Imm.con _)) .nil)))))))) (.cons rfl ObSub.deadT .nil)))) (aops_nil ⟨rfl,rfl⟩)) rfl (xD (OD.mk [(46,(V.agg [(iV (y80.2.2.2.2.2.2.1)),(sV (y80.2.2.2.2.2.2.2.1)),(V.lst 1 ((y80.2.2.2.2.2.2.2.2.1).map encS)),(iV (y80.2.2.2.2.2.2.2.2.2.1)),(iV (y80.2.2.2.2.2.2.2.2.2.2.1)),(V.lst 6 ((y80.2.2.2.2.2.2.2.2.2.2.2).map KRow.row))]))] [] [(47,(V.lst 6 (([rowK encTTest (TTest.mk (y80.2.2.2.2.2.2.1) (y80.2.2.2.2.2.2.2.1) (y80.2.2.2.2.2.2.2.2.1) (y80.2.2.2.2.2.2.2.2.2.1) (y80.2.2.2.2.2.2.2.2.2.2.1) (y80.2.2.2.2.2.2.2.2.2.2.2))]:List KRow).map KRow.row)))] []) ⟨⟨rfl,trivial⟩,trivial⟩ (by exact fun S hn h hh=>aops_buildSlice_imm [(0,(V.agg [(iV (y80.2.2.2.2.2.2.1)),(sV (y80.2.2.2.2.2.2.2.1)),(V.lst 1 ((y80.2.2.2.2.2.2.2.2.1).map encS)),(iV (y80.2.2.2.2.2.2.2.2.2.1)),(iV (y80.2.2.2.2.2.2.2.2.2.2.1)),(V.lst 6 ((y80.2.2.2.2.2.2.2.2.2.2.2).map KRow.row))]))] [[(iV (y80.2.2.2.2.2.2.1)),(sV (y80.2.2.2.2.2.2.2.1)),(V.lst 1 ((y80.2.2.2.2.2.2.2.2.1).map encS)),(iV (y80.2.2.2.2.2.2.2.2.2.1)),(iV (y80.2.2.2.2.2.2.2.2.2.2.1)),(V.lst 6 ((y80.2.2.2.2.2.2.2.2.2.2.2).map KRow.row))]] tEl40 tZ42 wants_none rfl rfl rfl rfl (evp_cons h.1 evp_nil) rfl rfl (by simp) (imms_rows (.cons (.cons (Imm.con _) (.cons (Imm.con _) (.cons (Imm.lst _ _) (.cons (Imm.con _) (.cons (Imm.con _) (.cons (Imm.lst _ _) .nil)))))) .nil)) rfl (aops_nil ⟨rfl,rfl⟩)) rfl (xD (OD.mk [(44,(V.own 5 l76.length)),(47,(V.lst 6 (([rowK encTTest (TTest.mk (y80.2.2.2.2.2.2.1) (y80.2.2.2.2.2.2.2.1) (y80.2.2.2.2.2.2.2.2.1) (y80.2.2.2.2.2.2.2.2.2.1) (y80.2.2.2.2.2.2.2.2.2.2.1) (y80.2.2.2.2.2.2.2.2.2.2.2))]:List KRow).map KRow.row)))] [(5,(Ob.arr 42 6 (l76.map KRow.row))),(7,Ob.res)] [(48,(V.own 7 (l76++([rowK encTTest (TTest.mk (y80.2.2.2.2.2.2.1) (y80.2.2.2.2.2.2.2.1) (y80.2.2.2.2.2.2.2.2.1) (y80.2.2.2.2.2.2.2.2.2.1) (y80.2.2.2.2.2.2.2.2.2.2.1) (y80.2.2.2.2.2.2.2.2.2.2.2))]:List KRow)).length))] [(7,(Ob.arr 42 6 ((l76++([rowK encTTest (TTest.mk (y80.2.2.2.2.2.2.1) (y80.2.2.2.2.2.2.2.1) (y80.2.2.2.2.2.2.2.2.1) (y80.2.2.2.2.2.2.2.2.2.1) (y80.2.2.2.2.2.2.2.2.2.2.1) (y80.2.2.2.2.2.2.2.2.2.2.2))]:List KRow)).map KRow.row))),(5,Ob.dead)]) ⟨⟨rfl,rfl,trivial⟩,⟨rfl,rfl,trivial⟩⟩ (by exact fun S hn h hh=>aops_append_at 7 rfl hn hh.2.1 (([rowK encTTest (TTest.mk (y80.2.2.2.2.2.2.1) (y80.2.2.2.2.2.2.2.1) (y80.2.2.2.2.2.2.2.2.1) (y80.2.2.2.2.2.2.2.2.2.1) (y80.2.2.2.2.2.2.2.2.2.2.1) (y80.2.2.2.2.2.2.2.2.2.2.2))]:List KRow).map KRow.row) ((l76++([rowK encTTest (TTest.mk (y80.2.2.2.2.2.2.1) (y80.2.2.2.2.2.2.2.1) (y80.2.2.2.2.2.2.2.2.1) (y80.2.2.2.2.2.2.2.2.2.1) (y80.2.2.2.2.2.2.2.2.2.2.1) (y80.2.2.2.2.2.2.2.2.2.2.2))]:List KRow)).map KRow.row) tEl40 tIsSl40 rfl rfl wants_none h.1 hh.1 (by simp) h.2.1 (.lst (rows_one KRow.one)) (map_snoc KRow.row l76 ([rowK encTTest (TTest.mk (y80.2.2.2.2.2.2.1) (y80.2.2.2.2.2.2.2.1) (y80.2.2.2.2.2.2.2.2.1) (y80.2.2.2.2.2.2.2.2.2.1) (y80.2.2.2.2.2.2.2.2.2.2.1) (y80.2.2.2.2.2.2.2.2.2.2.2))]:List KRow)) (bb8 ..) hc82 rfl (aops_nil ⟨rfl,rfl⟩)) rfl (vs 2 rfl .nil))))) (by kernel_rfl) ?_
   refine rn 1 rfl ?_
   exact jX ((y80.1),(y80.2.1),(y80.2.2.1),(y80.2.2.2.1),(y80.2.2.2.2.1),(y80.2.2.2.2.2.1),(l76++([rowK encTTest (TTest.mk (y80.2.2.2.2.2.2.1) (y80.2.2.2.2.2.2.2.1) (y80.2.2.2.2.2.2.2.2.1) (y80.2.2.2.2.2.2.2.2.2.1) (y80.2.2.2.2.2.2.2.2.2.2.1) (y80.2.2.2.2.2.2.2.2.2.2.2))]:List KRow))) h (gr [0,1,2,3,4,7] rfl (hB rfl rfl rfl (hB rfl rfl rfl (hB rfl rfl rfl (hB rfl rfl rfl (hB rfl rfl rfl (hR rfl rfl .nil)))))) rfl)
  refine rn 1 rfl ?_
  exact jX ((y77.2.1),(y77.2.2.1),(y77.2.2.2.1),(y77.2.2.2.2.1),(y77.2.2.2.2.2.1),(y77.2.2.2.2.2.2),l76) h (gr [0,1,2,3,4,5] rfl (hB rfl rfl rfl (hB rfl rfl rfl (hB rfl rfl rfl (hB rfl rfl rfl (hB rfl rfl rfl (hR rfl rfl .nil)))))) rfl)
 rintro⟨n56,n57,s58,n59,n60,n61,l62⟩ h
 refine rn 5 rfl ?_
 replace h:=ae8 h
 subst h
 exact wR ⟨.inl rfl,[(8,(V.ptr 3 6 0 0))],(Ghost.trans (ghost_frzC 5 3 (Ob.arr 42 6 [[(iV a1),(sV ([]:List UInt8)),nV,(iV 0),(iV 0),(V.lst 6 (l62.map KRow.row))]]) rfl (rows_imm KRow.imm) (ObSub.box (.cons Sub.keep (.cons Sub.keep (.cons Sub.keep (.cons Sub.keep (.cons Sub.keep (.cons (Sub.frzAll (rows:=l62.map KRow.row) (bb8 ..).symm) .nil)))))))) (gr [0,1,2,3] rfl (hB rfl rfl rfl (hB rfl rfl rfl (hB rfl rfl rfl (hB rfl rfl rfl .nil)))) rfl)),(.cons (.agg tA42 rfl rfl rfl rfl rfl) .nil)⟩
theorem W55(R84:Int->Tpolicy_reader->Option (Int×Int×(List UInt8)×Int×Int×Int×Int×(List UInt8)×(List (List UInt8))×Int×Int×(List KRow)))(hR84:∀(a1:Int) (a2:Tpolicy_reader) (r:(Int×Int×(List UInt8)×Int×Int×Int×Int×(List UInt8)×(List (List UInt8))×Int×Int×(List KRow))),R84 a1 a2=some r->MutG gl Tryz.prog 84 [(V.ptr 0 7 0 0),(iV a1)] 1 [(0,(Ob.arr 73 7 [(encTpolicy_reader a2)]))] (resV [(V.agg [(iV (r.2.2.2.2.2.2.1)),(sV (r.2.2.2.2.2.2.2.1)),(V.lst 1 ((r.2.2.2.2.2.2.2.2.1).map encS)),(iV (r.2.2.2.2.2.2.2.2.2.1)),(iV (r.2.2.2.2.2.2.2.2.2.2.1)),(V.lst 6 ((r.2.2.2.2.2.2.2.2.2.2.2).map KRow.row))])]) 2 [(0,(Ob.arr 73 7 [[(sV a2.s),(iV (r.1)),(iV (r.2.1)),(sV (r.2.2.1)),(iV (r.2.2.2.1)),(iV (r.2.2.2.2.1)),(iV (r.2.2.2.2.2.1))]])),(1,(Ob.arr 42 6 [[(iV (r.2.2.2.2.2.2.1)),(sV (r.2.2.2.2.2.2.2.1)),(V.lst 1 ((r.2.2.2.2.2.2.2.2.1).map encS)),(iV (r.2.2.2.2.2.2.2.2.2.1)),(iV (r.2.2.2.2.2.2.2.2.2.2.1)),(V.lst 6 ((r.2.2.2.2.2.2.2.2.2.2.2).map KRow.row))]]))])(F:Nat)(a1:Int)(a2:Tpolicy_reader)(r:(Int×Int×(List UInt8)×Int×Int×Int×Int×(List UInt8)×(List (List UInt8))×Int×Int×(List KRow)))(h:M55 R84 F a1 a2=some r):MutG gl Tryz.prog 55 [(V.ptr 0 7 0 0),(iV a1)] 1 [(0,(Ob.arr 73 7 [(encTpolicy_reader a2)]))] (resV [(V.agg [(iV (r.2.2.2.2.2.2.1)),(sV (r.2.2.2.2.2.2.2.1)),(V.lst 1 ((r.2.2.2.2.2.2.2.2.1).map encS)),(iV (r.2.2.2.2.2.2.2.2.2.1)),(iV (r.2.2.2.2.2.2.2.2.2.2.1)),(V.lst 6 ((r.2.2.2.2.2.2.2.2.2.2.2).map KRow.row))])]) 2 [(0,(Ob.arr 73 7 [[(sV a2.s),(iV (r.1)),(iV (r.2.1)),(sV (r.2.2.1)),(iV (r.2.2.2.1)),(iV (r.2.2.2.2.1)),(iV (r.2.2.2.2.2.1))]])),(1,(Ob.arr 42 6 [[(iV (r.2.2.2.2.2.2.1)),(sV (r.2.2.2.2.2.2.2.1)),(V.lst 1 ((r.2.2.2.2.2.2.2.2.1).map encS)),(iV (r.2.2.2.2.2.2.2.2.2.1)),(iV (r.2.2.2.2.2.2.2.2.2.2.1)),(V.lst 6 ((r.2.2.2.2.2.2.2.2.2.2.2).map KRow.row))]]))]:=by
 refine mut_enter Tryz.func55 rfl rfl (l:=[.cell 4 42]) rfl rfl [(0,(V.ptr 0 7 0 0)),(1,(iV a1))] rfl (fun w0 m0 β0 hg=>en ?_)
 unfold M55 at h
 obtain⟨y17,hx18,h⟩:=bind_some h
 refine rn 10 rfl ?_
 refine aops_mcallS (V.agg [(iV (y17.2.2.2.2.2.2.1)),(sV (y17.2.2.2.2.2.2.2.1)),(V.lst 1 ((y17.2.2.2.2.2.2.2.2.1).map encS)),(iV (y17.2.2.2.2.2.2.2.2.2.1)),(iV (y17.2.2.2.2.2.2.2.2.2.2.1)),(V.lst 6 ((y17.2.2.2.2.2.2.2.2.2.2.2).map KRow.row))]) [(V.ptr 0 7 0 0),(iV 8),(sV ([111,114]:List UInt8)),(V.fn (.func 82) [] [(V.ptr 1 1 0 0),(V.ptr 2 1 0 0)])] (fun i=>([0,1,2]:List Nat).getD i 0) (fun i=>([0,1,2,4]:List Nat).getD i 0) 4 5 [(0,(Ob.arr 73 7 [[(sV a2.s),(iV (y17.1)),(iV (y17.2.1)),(sV (y17.2.2.1)),(iV (y17.2.2.2.1)),(iV (y17.2.2.2.2.1)),(iV (y17.2.2.2.2.2.1))]])),(1,(Ob.arr 69 1 [[(V.ptr 0 7 0 0)]])),(2,(Ob.arr 3 1 [[(iV a1)]])),(4,Ob.dead)] fOk81 wants_none rfl (evm_cons rfl (evm_cons rfl (evm_cons rfl (evm_cons rfl evm_nil)))) (.cons (Sub.ptr rfl rfl) (.cons (Sub.imm (Imm.con _)) (.cons (Sub.imm (Imm.con _)) (.cons (Sub.fnc (.cons (Sub.ptr rfl rfl) (.cons (Sub.ptr rfl rfl) .nil))) .nil)))) (.cons rfl (ObSub.box (.cons (Sub.imm (Imm.con _)) (.cons (Sub.imm (Imm.con _)) (.cons (Sub.imm (Imm.con _)) (.cons (Sub.imm (Imm.con _)) (.cons (Sub.imm (Imm.con _)) (.cons (Sub.imm (Imm.con _)) (.cons (Sub.imm (Imm.con _)) .nil)))))))) (.cons rfl (ObSub.box (.cons (Sub.ptr rfl rfl) .nil)) (.cons rfl (ObSub.box (.cons (Sub.imm (Imm.con _)) .nil)) .nil))) (W81 R84 hR84 F 8 ([111,114]:List UInt8) a2 a1 y17 hx18) rfl rfl rfl rfl (Sub.immT (Imm.agg (.cons (Imm.con _) (.cons (Imm.con _) (.cons (Imm.lst _ _) (.cons (Imm.con _) (.cons (Imm.con _) (.cons (Imm.lst _ _) .nil)))))))) (.cons rfl (ObSub.box (.cons (Sub.immT (Imm.con _)) (.cons (Sub.immT (Imm.con _)) (.cons (Sub.immT (Imm.con _)) (.cons (Sub.immT (Imm.con _)) (.cons (Sub.immT (Imm.con _)) (.cons (Sub.immT (Imm.con _)) (.cons (Sub.immT (Imm.con _)) .nil)))))))) (.cons rfl (ObSub.box (.cons (Sub.ptrT rfl rfl) .nil)) (.cons rfl (ObSub.box (.cons (Sub.immT (Imm.con _)) .nil)) (.cons rfl ObSub.deadT .nil)))) _ rfl ?_
 refine fo (rn 2 rfl ?_)
 replace h:=ae8 h
 subst h
 exact wR ⟨.inl rfl,[(4,(V.ptr 1 6 0 0))],(gr [0,3] rfl (hB rfl rfl rfl (hB rfl rfl rfl .nil)) rfl),(.cons (.agg tA42 rfl rfl rfl rfl rfl) .nil)⟩
theorem W84_B(R84:Int->Tpolicy_reader->Option (Int×Int×(List UInt8)×Int×Int×Int×Int×(List UInt8)×(List (List UInt8))×Int×Int×(List KRow)))(hR84:∀(a1:Int) (a2:Tpolicy_reader) (r:(Int×Int×(List UInt8)×Int×Int×Int×Int×(List UInt8)×(List (List UInt8))×Int×Int×(List KRow))),R84 a1 a2=some r->MutG gl Tryz.prog 84 [(V.ptr 0 7 0 0),(iV a1)] 1 [(0,(Ob.arr 73 7 [(encTpolicy_reader a2)]))] (resV [(V.agg [(iV (r.2.2.2.2.2.2.1)),(sV (r.2.2.2.2.2.2.2.1)),(V.lst 1 ((r.2.2.2.2.2.2.2.2.1).map encS)),(iV (r.2.2.2.2.2.2.2.2.2.1)),(iV (r.2.2.2.2.2.2.2.2.2.2.1)),(V.lst 6 ((r.2.2.2.2.2.2.2.2.2.2.2).map KRow.row))])]) 2 [(0,(Ob.arr 73 7 [[(sV a2.s),(iV (r.1)),(iV (r.2.1)),(sV (r.2.2.1)),(iV (r.2.2.2.1)),(iV (r.2.2.2.2.1)),(iV (r.2.2.2.2.2.1))]])),(1,(Ob.arr 42 6 [[(iV (r.2.2.2.2.2.2.1)),(sV (r.2.2.2.2.2.2.2.1)),(V.lst 1 ((r.2.2.2.2.2.2.2.2.1).map encS)),(iV (r.2.2.2.2.2.2.2.2.2.1)),(iV (r.2.2.2.2.2.2.2.2.2.2.1)),(V.lst 6 ((r.2.2.2.2.2.2.2.2.2.2.2).map KRow.row))]]))])(F:Nat)(a1:Int)(a2:Tpolicy_reader)(r:(Int×Int×(List UInt8)×Int×Int×Int×Int×(List UInt8)×(List (List UInt8))×Int×Int×(List KRow)))(h:M84_B R84 F a1 a2=some r):MutG gl Tryz.prog 84 [(V.ptr 0 7 0 0),(iV a1)] 1 [(0,(Ob.arr 73 7 [(encTpolicy_reader a2)]))] (resV [(V.agg [(iV (r.2.2.2.2.2.2.1)),(sV (r.2.2.2.2.2.2.2.1)),(V.lst 1 ((r.2.2.2.2.2.2.2.2.1).map encS)),(iV (r.2.2.2.2.2.2.2.2.2.1)),(iV (r.2.2.2.2.2.2.2.2.2.2.1)),(V.lst 6 ((r.2.2.2.2.2.2.2.2.2.2.2).map KRow.row))])]) 2 [(0,(Ob.arr 73 7 [[(sV a2.s),(iV (r.1)),(iV (r.2.1)),(sV (r.2.2.1)),(iV (r.2.2.2.1)),(iV (r.2.2.2.2.1)),(iV (r.2.2.2.2.2.1))]])),(1,(Ob.arr 42 6 [[(iV (r.2.2.2.2.2.2.1)),(sV (r.2.2.2.2.2.2.2.1)),(V.lst 1 ((r.2.2.2.2.2.2.2.2.1).map encS)),(iV (r.2.2.2.2.2.2.2.2.2.1)),(iV (r.2.2.2.2.2.2.2.2.2.2.1)),(V.lst 6 ((r.2.2.2.2.2.2.2.2.2.2.2).map KRow.row))]]))]:=by
 refine mut_enter Tryz.func84 rfl rfl (l:=[.cell 4 42]) rfl rfl [(0,(V.ptr 0 7 0 0)),(1,(iV a1))] rfl (fun w0 m0 β0 hg=>en ?_)
 unfold M84_B at h
 refine rn 10 rfl ?_
 refine jK h (fun(p:Int×Int)=>(⟨[(0,(V.ptr 0 7 0 0)),(1,(iV a1)),(4,(V.ptr 1 6 0 0))],[(0,(Ob.arr 73 7 [[(sV a2.s),(iV a2.end_),(iV a2.now.kind),(sV a2.now.text),(iV a2.now.at_),(iV (p.1)),(iV (p.2))]])),(1,(Ob.arr 42 6 [[(iV 0),(sV ([]:List UInt8)),nV,(iV 0),(iV 0),nV]]))],2⟩:St)) (fun k50 p=>k50 p.1 p.2=some r) (fun k50 h=>?_) ?_
 ·refine spC h rfl (fun hb53 h=>?_) (fun hb53 h=>?_)
  ·obtain⟨y54,hx55,h⟩:=bind_some h
   refine rn 7 rfl ?_
   refine aops_mcallS (V.tup []) [(V.ptr 0 7 0 0),(iV a2.now.at_),(iV 3)] (fun i=>([0]:List Nat).getD i 0) (fun i=>([0]:List Nat).getD i 0) 2 2 [(0,(Ob.arr 73 7 [[(sV a2.s),(iV a2.end_),(iV a2.now.kind),(sV a2.now.text),(iV a2.now.at_),(iV (y54.1)),(iV (y54.2))]]))] fOk26 wants_none rfl (evm_cons rfl (evm_cons rfl (evm_cons rfl evm_nil))) (.cons (Sub.ptr rfl rfl) (.cons (Sub.imm (Imm.con _)) (.cons (Sub.imm (Imm.con _)) .nil))) (.cons rfl (ObSub.box (.cons (Sub.imm (Imm.con _)) (.cons (Sub.imm (Imm.con _)) (.cons (Sub.imm (Imm.con _)) (.cons (Sub.imm (Imm.con _)) (.cons (Sub.imm (Imm.con _)) (.cons (Sub.imm (Imm.con _)) (.cons (Sub.imm (Imm.con _)) .nil)))))))) .nil) (W26 F a2.now.at_ 3 a2 y54 hx55) rfl rfl rfl rfl (Sub.immT (Imm.tup .nil)) (.cons rfl (ObSub.box (.cons (Sub.immT (Imm.con _)) (.cons (Sub.immT (Imm.con _)) (.cons (Sub.immT (Imm.con _)) (.cons (Sub.immT (Imm.con _)) (.cons (Sub.immT (Imm.con _)) (.cons (Sub.immT (Imm.con _)) (.cons (Sub.immT (Imm.con _)) .nil)))))))) .nil) _ rfl ?_
   refine fo (rn 1 rfl ?_)
   exact jX ((y54.1),(y54.2)) h (gr [0,1] rfl (hB rfl rfl rfl (hB rfl rfl rfl .nil)) rfl)
  refine rn 1 rfl ?_
  exact jX (a2.at_,a2.bad) h (gr [0,1] rfl (hB rfl rfl rfl (hB rfl rfl rfl .nil)) rfl)
 rintro⟨n51,n52⟩ h
 refine rn 11 rfl ?_
 refine spC h rfl (fun hb56 h=>?_) (fun hb56 h=>?_)
 ·refine rn 5 rfl ?_
  replace h:=ae8 h
  subst h
  exact wR ⟨.inl rfl,[(4,(V.ptr 1 6 0 0))],(gr [0,1] rfl (hB rfl rfl rfl (hB rfl rfl rfl .nil)) rfl),(.cons (.agg tA42 rfl rfl rfl rfl rfl) .nil)⟩
 obtain⟨y57,hx58,h⟩:=bind_some h
 refine rn 3 rfl ?_
 refine aops_mcallS (bV (y57.1)) [(V.ptr 0 7 0 0),(iV 1),(sV ([116,114,117,101]:List UInt8))] (fun i=>([0]:List Nat).getD i 0) (fun i=>([0]:List Nat).getD i 0) 2 2 [(0,(Ob.arr 73 7 [[(sV a2.s),(iV (y57.2.1)),(iV (y57.2.2.1)),(sV (y57.2.2.2.1)),(iV (y57.2.2.2.2.1)),(iV (y57.2.2.2.2.2.1)),(iV (y57.2.2.2.2.2.2))]]))] fOk23 wants_none rfl (evm_cons rfl (evm_cons rfl (evm_cons rfl evm_nil))) (.cons (Sub.ptr rfl rfl) (.cons (Sub.imm (Imm.con _)) (.cons (Sub.imm (Imm.con _)) .nil))) (.cons rfl (ObSub.box (.cons (Sub.imm (Imm.con _)) (.cons (Sub.imm (Imm.con _)) (.cons (Sub.imm (Imm.con _)) (.cons (Sub.imm (Imm.con _)) (.cons (Sub.imm (Imm.con _)) (.cons (Sub.imm (Imm.con _)) (.cons (Sub.imm (Imm.con _)) .nil)))))))) .nil) (W23 F 1 ([116,114,117,101]:List UInt8) (Tpolicy_reader.mk a2.s a2.end_ a2.now n51 n52) y57 hx58) rfl rfl rfl rfl (Sub.immT (Imm.con _)) (.cons rfl (ObSub.box (.cons (Sub.immT (Imm.con _)) (.cons (Sub.immT (Imm.con _)) (.cons (Sub.immT (Imm.con _)) (.cons (Sub.immT (Imm.con _)) (.cons (Sub.immT (Imm.con _)) (.cons (Sub.immT (Imm.con _)) (.cons (Sub.immT (Imm.con _)) .nil)))))))) .nil) _ rfl ?_
 refine fo (rn 2 rfl ?_)
 refine spC h rfl (fun hb59 h=>?_) (fun hb59 h=>?_)
 ·refine rn 5 rfl ?_
  replace h:=ae8 h
  subst h
  exact wR ⟨.inl rfl,[(4,(V.ptr 1 6 0 0))],(gr [0,1] rfl (hB rfl rfl rfl (hB rfl rfl rfl .nil)) rfl),(.cons (.agg tA42 rfl rfl rfl rfl rfl) .nil)⟩
 obtain⟨y60,hx61,h⟩:=bind_some h
 refine rn 3 rfl ?_
 refine aops_mcallS (bV (y60.1)) [(V.ptr 0 7 0 0),(iV 1),(sV ([104,97,115]:List UInt8))] (fun i=>([0]:List Nat).getD i 0) (fun i=>([0]:List Nat).getD i 0) 2 2 [(0,(Ob.arr 73 7 [[(sV a2.s),(iV (y60.2.1)),(iV (y60.2.2.1)),(sV (y60.2.2.2.1)),(iV (y60.2.2.2.2.1)),(iV (y60.2.2.2.2.2.1)),(iV (y60.2.2.2.2.2.2))]]))] fOk23 wants_none rfl (evm_cons rfl (evm_cons rfl (evm_cons rfl evm_nil))) (.cons (Sub.ptr rfl rfl) (.cons (Sub.imm (Imm.con _)) (.cons (Sub.imm (Imm.con _)) .nil))) (.cons rfl (ObSub.box (.cons (Sub.imm (Imm.con _)) (.cons (Sub.imm (Imm.con _)) (.cons (Sub.imm (Imm.con _)) (.cons (Sub.imm (Imm.con _)) (.cons (Sub.imm (Imm.con _)) (.cons (Sub.imm (Imm.con _)) (.cons (Sub.imm (Imm.con _)) .nil)))))))) .nil) (W23 F 1 ([104,97,115]:List UInt8) (Tpolicy_reader.mk a2.s (y57.2.1) (Tpolicy_token.mk (y57.2.2.1) (y57.2.2.2.1) (y57.2.2.2.2.1)) (y57.2.2.2.2.2.1) (y57.2.2.2.2.2.2)) y60 hx61) rfl rfl rfl rfl (Sub.immT (Imm.con _)) (.cons rfl (ObSub.box (.cons (Sub.immT (Imm.con _)) (.cons (Sub.immT (Imm.con _)) (.cons (Sub.immT (Imm.con _)) (.cons (Sub.immT (Imm.con _)) (.cons (Sub.immT (Imm.con _)) (.cons (Sub.immT (Imm.con _)) (.cons (Sub.immT (Imm.con _)) .nil)))))))) .nil) _ rfl ?_
 refine fo (rn 2 rfl ?_)
 refine spC h rfl (fun hb62 h=>?_) (fun hb62 h=>?_)
 ·obtain⟨y63,hx64,h⟩:=bind_some h
  refine rn 3 rfl ?_
  refine aops_mcallS (sV (y63.1)) [(V.ptr 0 7 0 0)] (fun i=>([0]:List Nat).getD i 0) (fun i=>([0]:List Nat).getD i 0) 2 2 [(0,(Ob.arr 73 7 [[(sV a2.s),(iV (y63.2.1)),(iV (y63.2.2.1)),(sV (y63.2.2.2.1)),(iV (y63.2.2.2.2.1)),(iV (y63.2.2.2.2.2.1)),(iV (y63.2.2.2.2.2.2))]]))] fOk52 wants_none rfl (evm_cons rfl evm_nil) (.cons (Sub.ptr rfl rfl) .nil) (.cons rfl (ObSub.box (.cons (Sub.imm (Imm.con _)) (.cons (Sub.imm (Imm.con _)) (.cons (Sub.imm (Imm.con _)) (.cons (Sub.imm (Imm.con _)) (.cons (Sub.imm (Imm.con _)) (.cons (Sub.imm (Imm.con _)) (.cons (Sub.imm (Imm.con _)) .nil)))))))) .nil) (W52 F (Tpolicy_reader.mk a2.s (y60.2.1) (Tpolicy_token.mk (y60.2.2.1) (y60.2.2.2.1) (y60.2.2.2.2.1)) (y60.2.2.2.2.2.1) (y60.2.2.2.2.2.2)) y63 hx64) rfl rfl rfl rfl (Sub.immT (Imm.con _)) (.cons rfl (ObSub.box (.cons (Sub.immT (Imm.con _)) (.cons (Sub.immT (Imm.con _)) (.cons (Sub.immT (Imm.con _)) (.cons (Sub.immT (Imm.con _)) (.cons (Sub.immT (Imm.con _)) (.cons (Sub.immT (Imm.con _)) (.cons (Sub.immT (Imm.con _)) .nil)))))))) .nil) _ rfl ?_
  refine fo (rn 3 rfl ?_)
  replace h:=ae8 h
  subst h
  exact wR ⟨.inl rfl,[(4,(V.ptr 1 6 0 0))],(gr [0,1] rfl (hB rfl rfl rfl (hB rfl rfl rfl .nil)) rfl),(.cons (.agg tA42 rfl rfl rfl rfl rfl) .nil)⟩
 obtain⟨y65,hx66,h⟩:=bind_some h
 refine rn 3 rfl ?_
 refine aops_mcallS (bV (y65.1)) [(V.ptr 0 7 0 0),(iV 1),(sV ([110,111,116]:List UInt8))] (fun i=>([0]:List Nat).getD i 0) (fun i=>([0]:List Nat).getD i 0) 2 2 [(0,(Ob.arr 73 7 [[(sV a2.s),(iV (y65.2.1)),(iV (y65.2.2.1)),(sV (y65.2.2.2.1)),(iV (y65.2.2.2.2.1)),(iV (y65.2.2.2.2.2.1)),(iV (y65.2.2.2.2.2.2))]]))] fOk23 wants_none rfl (evm_cons rfl (evm_cons rfl (evm_cons rfl evm_nil))) (.cons (Sub.ptr rfl rfl) (.cons (Sub.imm (Imm.con _)) (.cons (Sub.imm (Imm.con _)) .nil))) (.cons rfl (ObSub.box (.cons (Sub.imm (Imm.con _)) (.cons (Sub.imm (Imm.con _)) (.cons (Sub.imm (Imm.con _)) (.cons (Sub.imm (Imm.con _)) (.cons (Sub.imm (Imm.con _)) (.cons (Sub.imm (Imm.con _)) (.cons (Sub.imm (Imm.con _)) .nil)))))))) .nil) (W23 F 1 ([110,111,116]:List UInt8) (Tpolicy_reader.mk a2.s (y60.2.1) (Tpolicy_token.mk (y60.2.2.1) (y60.2.2.2.1) (y60.2.2.2.2.1)) (y60.2.2.2.2.2.1) (y60.2.2.2.2.2.2)) y65 hx66) rfl rfl rfl rfl (Sub.immT (Imm.con _)) (.cons rfl (ObSub.box (.cons (Sub.immT (Imm.con _)) (.cons (Sub.immT (Imm.con _)) (.cons (Sub.immT (Imm.con _)) (.cons (Sub.immT (Imm.con _)) (.cons (Sub.immT (Imm.con _)) (.cons (Sub.immT (Imm.con _)) (.cons (Sub.immT (Imm.con _)) .nil)))))))) .nil) _ rfl ?_
 refine fo (rn 2 rfl ?_)
 refine spC h rfl (fun hb67 h=>?_) (fun hb67 h=>?_)
 ·obtain⟨y68,hx69,h⟩:=bind_some h
  refine rn 5 rfl ?_
  refine aops_mcallS (V.agg [(iV (y68.2.2.2.2.2.2.1)),(sV (y68.2.2.2.2.2.2.2.1)),(V.lst 1 ((y68.2.2.2.2.2.2.2.2.1).map encS)),(iV (y68.2.2.2.2.2.2.2.2.2.1)),(iV (y68.2.2.2.2.2.2.2.2.2.2.1)),(V.lst 6 ((y68.2.2.2.2.2.2.2.2.2.2.2).map KRow.row))]) [(V.ptr 0 7 0 0),(iV (w64 (a1+1)))] (fun i=>([0]:List Nat).getD i 0) (fun i=>([0,2]:List Nat).getD i 0) 2 3 [(0,(Ob.arr 73 7 [[(sV a2.s),(iV (y68.1)),(iV (y68.2.1)),(sV (y68.2.2.1)),(iV (y68.2.2.2.1)),(iV (y68.2.2.2.2.1)),(iV (y68.2.2.2.2.2.1))]])),(2,Ob.dead)] fOk84 wants_none rfl (evm_cons rfl (evm_cons rfl evm_nil)) (.cons (Sub.ptr rfl rfl) (.cons (Sub.imm (Imm.con _)) .nil)) (.cons rfl (ObSub.box (.cons (Sub.imm (Imm.con _)) (.cons (Sub.imm (Imm.con _)) (.cons (Sub.imm (Imm.con _)) (.cons (Sub.imm (Imm.con _)) (.cons (Sub.imm (Imm.con _)) (.cons (Sub.imm (Imm.con _)) (.cons (Sub.imm (Imm.con _)) .nil)))))))) .nil) (hR84 (w64 (a1+1)) (Tpolicy_reader.mk a2.s (y65.2.1) (Tpolicy_token.mk (y65.2.2.1) (y65.2.2.2.1) (y65.2.2.2.2.1)) (y65.2.2.2.2.2.1) (y65.2.2.2.2.2.2)) _ hx69) rfl rfl rfl rfl (Sub.immT (Imm.agg (.cons (Imm.con _) (.cons (Imm.con _) (.cons (Imm.lst _ _) (.cons (Imm.con _) (.cons (Imm.con _) (.cons (Imm.lst _ _) .nil)))))))) (.cons rfl (ObSub.box (.cons (Sub.immT (Imm.con _)) (.cons (Sub.immT (Imm.con _)) (.cons (Sub.immT (Imm.con _)) (.cons (Sub.immT (Imm.con _)) (.cons (Sub.immT (Imm.con _)) (.cons (Sub.immT (Imm.con _)) (.cons (Sub.immT (Imm.con _)) .nil)))))))) (.cons rfl ObSub.deadT .nil)) _ rfl ?_
  refine aops_buildSlice [(0,(V.agg [(iV (y68.2.2.2.2.2.2.1)),(sV (y68.2.2.2.2.2.2.2.1)),(V.lst 1 ((y68.2.2.2.2.2.2.2.2.1).map encS)),(iV (y68.2.2.2.2.2.2.2.2.2.1)),(iV (y68.2.2.2.2.2.2.2.2.2.2.1)),(V.lst 6 ((y68.2.2.2.2.2.2.2.2.2.2.2).map KRow.row))]))] [[(iV (y68.2.2.2.2.2.2.1)),(sV (y68.2.2.2.2.2.2.2.1)),(V.lst 1 ((y68.2.2.2.2.2.2.2.2.1).map encS)),(iV (y68.2.2.2.2.2.2.2.2.2.1)),(iV (y68.2.2.2.2.2.2.2.2.2.2.1)),(V.lst 6 ((y68.2.2.2.2.2.2.2.2.2.2.2).map KRow.row))]] tEl40 tZ42 rfl rfl rfl rfl wants_none (evp_cons rfl evp_nil) rfl rfl (by simp) rfl ?_
  refine fo (rn 3 rfl ?_)
  replace h:=ae8 h
  subst h
  exact wR ⟨.inl rfl,[(4,(V.ptr 1 6 0 0))],(Ghost.trans (ghost_frzC 3 1 (Ob.arr 42 6 [[(iV 6),(sV ([]:List UInt8)),nV,(iV 0),(iV 0),(V.lst 6 (([rowK encTTest (TTest.mk (y68.2.2.2.2.2.2.1) (y68.2.2.2.2.2.2.2.1) (y68.2.2.2.2.2.2.2.2.1) (y68.2.2.2.2.2.2.2.2.2.1) (y68.2.2.2.2.2.2.2.2.2.2.1) (y68.2.2.2.2.2.2.2.2.2.2.2))]:List KRow).map KRow.row))]]) rfl (imms_rows (.cons (.cons (Imm.con _) (.cons (Imm.con _) (.cons (Imm.lst _ _) (.cons (Imm.con _) (.cons (Imm.con _) (.cons (Imm.lst _ _) .nil)))))) .nil)) (ObSub.box (.cons Sub.keep (.cons Sub.keep (.cons Sub.keep (.cons Sub.keep (.cons Sub.keep (.cons (Sub.frzAll (rows:=([rowK encTTest (TTest.mk (y68.2.2.2.2.2.2.1) (y68.2.2.2.2.2.2.2.1) (y68.2.2.2.2.2.2.2.2.1) (y68.2.2.2.2.2.2.2.2.2.1) (y68.2.2.2.2.2.2.2.2.2.2.1) (y68.2.2.2.2.2.2.2.2.2.2.2))]:List KRow).map KRow.row) rfl) .nil)))))))) (gr [0,1] rfl (hB rfl rfl rfl (hB rfl rfl rfl .nil)) rfl)),(.cons (.agg tA42 rfl rfl rfl rfl rfl) .nil)⟩
 obtain⟨y70,hx71,h⟩:=bind_some h
 refine rn 3 rfl ?_
 refine aops_mcallS (bV (y70.1)) [(V.ptr 0 7 0 0),(iV 3),(sV ([40]:List UInt8))] (fun i=>([0]:List Nat).getD i 0) (fun i=>([0]:List Nat).getD i 0) 2 2 [(0,(Ob.arr 73 7 [[(sV a2.s),(iV (y70.2.1)),(iV (y70.2.2.1)),(sV (y70.2.2.2.1)),(iV (y70.2.2.2.2.1)),(iV (y70.2.2.2.2.2.1)),(iV (y70.2.2.2.2.2.2))]]))] fOk23 wants_none rfl (evm_cons rfl (evm_cons rfl (evm_cons rfl evm_nil))) (.cons (Sub.ptr rfl rfl) (.cons (Sub.imm (Imm.con _)) (.cons (Sub.imm (Imm.con _)) .nil))) (.cons rfl (ObSub.box (.cons (Sub.imm (Imm.con _)) (.cons (Sub.imm (Imm.con _)) (.cons (Sub.imm (Imm.con _)) (.cons (Sub.imm (Imm.con _)) (.cons (Sub.imm (Imm.con _)) (.cons (Sub.imm (Imm.con _)) (.cons (Sub.imm (Imm.con _)) .nil)))))))) .nil) (W23 F 3 ([40]:List UInt8) (Tpolicy_reader.mk a2.s (y65.2.1) (Tpolicy_token.mk (y65.2.2.1) (y65.2.2.2.1) (y65.2.2.2.2.1)) (y65.2.2.2.2.2.1) (y65.2.2.2.2.2.2)) y70 hx71) rfl rfl rfl rfl (Sub.immT (Imm.con _)) (.cons rfl (ObSub.box (.cons (Sub.immT (Imm.con _)) (.cons (Sub.immT (Imm.con _)) (.cons (Sub.immT (Imm.con _)) (.cons (Sub.immT (Imm.con _)) (.cons (Sub.immT (Imm.con _)) (.cons (Sub.immT (Imm.con _)) (.cons (Sub.immT (Imm.con _)) .nil)))))))) .nil) _ rfl ?_
 refine fo (rn 2 rfl ?_)
 refine spC h rfl (fun hb72 h=>?_) (fun hb72 h=>?_)
 ·obtain⟨y73,hx74,h⟩:=bind_some h
  refine rn 5 rfl ?_
  refine aops_mcallS (V.agg [(iV (y73.2.2.2.2.2.2.1)),(sV (y73.2.2.2.2.2.2.2.1)),(V.lst 1 ((y73.2.2.2.2.2.2.2.2.1).map encS)),(iV (y73.2.2.2.2.2.2.2.2.2.1)),(iV (y73.2.2.2.2.2.2.2.2.2.2.1)),(V.lst 6 ((y73.2.2.2.2.2.2.2.2.2.2.2).map KRow.row))]) [(V.ptr 0 7 0 0),(iV (w64 (a1+1)))] (fun i=>([0]:List Nat).getD i 0) (fun i=>([0,2]:List Nat).getD i 0) 2 3 [(0,(Ob.arr 73 7 [[(sV a2.s),(iV (y73.1)),(iV (y73.2.1)),(sV (y73.2.2.1)),(iV (y73.2.2.2.1)),(iV (y73.2.2.2.2.1)),(iV (y73.2.2.2.2.2.1))]])),(2,Ob.dead)] fOk55 wants_none rfl (evm_cons rfl (evm_cons rfl evm_nil)) (.cons (Sub.ptr rfl rfl) (.cons (Sub.imm (Imm.con _)) .nil)) (.cons rfl (ObSub.box (.cons (Sub.imm (Imm.con _)) (.cons (Sub.imm (Imm.con _)) (.cons (Sub.imm (Imm.con _)) (.cons (Sub.imm (Imm.con _)) (.cons (Sub.imm (Imm.con _)) (.cons (Sub.imm (Imm.con _)) (.cons (Sub.imm (Imm.con _)) .nil)))))))) .nil) (W55 R84 hR84 F (w64 (a1+1)) (Tpolicy_reader.mk a2.s (y70.2.1) (Tpolicy_token.mk (y70.2.2.1) (y70.2.2.2.1) (y70.2.2.2.2.1)) (y70.2.2.2.2.2.1) (y70.2.2.2.2.2.2)) y73 hx74) rfl rfl rfl rfl (Sub.immT (Imm.agg (.cons (Imm.con _) (.cons (Imm.con _) (.cons (Imm.lst _ _) (.cons (Imm.con _) (.cons (Imm.con _) (.cons (Imm.lst _ _) .nil)))))))) (.cons rfl (ObSub.box (.cons (Sub.immT (Imm.con _)) (.cons (Sub.immT (Imm.con _)) (.cons (Sub.immT (Imm.con _)) (.cons (Sub.immT (Imm.con _)) (.cons (Sub.immT (Imm.con _)) (.cons (Sub.immT (Imm.con _)) (.cons (Sub.immT (Imm.con _)) .nil)))))))) (.cons rfl ObSub.deadT .nil)) _ rfl ?_
  obtain⟨y75,hx76,h⟩:=bind_some h
  refine fo (rn 7 rfl ?_)
  refine aops_mcallS (bV (y75.1)) [(V.ptr 0 7 0 0),(iV 3),(sV ([41]:List UInt8))] (fun i=>([0]:List Nat).getD i 0) (fun i=>([0]:List Nat).getD i 0) 4 4 [(0,(Ob.arr 73 7 [[(sV a2.s),(iV (y75.2.1)),(iV (y75.2.2.1)),(sV (y75.2.2.2.1)),(iV (y75.2.2.2.2.1)),(iV (y75.2.2.2.2.2.1)),(iV (y75.2.2.2.2.2.2))]]))] fOk23 wants_none rfl (evm_cons rfl (evm_cons rfl (evm_cons rfl evm_nil))) (.cons (Sub.ptr rfl rfl) (.cons (Sub.imm (Imm.con _)) (.cons (Sub.imm (Imm.con _)) .nil))) (.cons rfl (ObSub.box (.cons (Sub.imm (Imm.con _)) (.cons (Sub.imm (Imm.con _)) (.cons (Sub.imm (Imm.con _)) (.cons (Sub.imm (Imm.con _)) (.cons (Sub.imm (Imm.con _)) (.cons (Sub.imm (Imm.con _)) (.cons (Sub.imm (Imm.con _)) .nil)))))))) .nil) (W23 F 3 ([41]:List UInt8) (Tpolicy_reader.mk a2.s (y73.1) (Tpolicy_token.mk (y73.2.1) (y73.2.2.1) (y73.2.2.2.1)) (y73.2.2.2.2.1) (y73.2.2.2.2.2.1)) y75 hx76) rfl rfl rfl rfl (Sub.immT (Imm.con _)) (.cons rfl (ObSub.box (.cons (Sub.immT (Imm.con _)) (.cons (Sub.immT (Imm.con _)) (.cons (Sub.immT (Imm.con _)) (.cons (Sub.immT (Imm.con _)) (.cons (Sub.immT (Imm.con _)) (.cons (Sub.immT (Imm.con _)) (.cons (Sub.immT (Imm.con _)) .nil)))))))) .nil) _ rfl ?_
  refine fo (rn 2 rfl ?_)
  refine jK h (fun(p:Int×Int)=>(⟨[(4,(V.ptr 1 6 0 0)),(5,(V.ptr 2 6 0 0))],[(0,(Ob.arr 73 7 [[(sV a2.s),(iV (y75.2.1)),(iV (y75.2.2.1)),(sV (y75.2.2.2.1)),(iV (y75.2.2.2.2.1)),(iV (p.1)),(iV (p.2))]])),(1,(Ob.arr 42 6 [[(iV 0),(sV ([]:List UInt8)),nV,(iV 0),(iV 0),nV]])),(2,(Ob.arr 42 6 [[(iV (y73.2.2.2.2.2.2.1)),(sV (y73.2.2.2.2.2.2.2.1)),(V.lst 1 ((y73.2.2.2.2.2.2.2.2.1).map encS)),(iV (y73.2.2.2.2.2.2.2.2.2.1)),(iV (y73.2.2.2.2.2.2.2.2.2.2.1)),(V.lst 6 ((y73.2.2.2.2.2.2.2.2.2.2.2).map KRow.row))]]))],3⟩:St)) (fun k77 p=>k77 p.1 p.2=some r) (fun k77 h=>?_) ?_
  ·refine spC h rfl (fun hb80 h=>?_) (fun hb80 h=>?_)
   ·obtain⟨y81,hx82,h⟩:=bind_some h
    refine rn 7 rfl ?_
    refine aops_mcallS (V.tup []) [(V.ptr 0 7 0 0),(iV (y75.2.2.2.2.1)),(iV 6)] (fun i=>([0]:List Nat).getD i 0) (fun i=>([0]:List Nat).getD i 0) 4 4 [(0,(Ob.arr 73 7 [[(sV a2.s),(iV (y75.2.1)),(iV (y75.2.2.1)),(sV (y75.2.2.2.1)),(iV (y75.2.2.2.2.1)),(iV (y81.1)),(iV (y81.2))]]))] fOk26 wants_none rfl (evm_cons rfl (evm_cons rfl (evm_cons rfl evm_nil))) (.cons (Sub.ptr rfl rfl) (.cons (Sub.imm (Imm.con _)) (.cons (Sub.imm (Imm.con _)) .nil))) (.cons rfl (ObSub.box (.cons (Sub.imm (Imm.con _)) (.cons (Sub.imm (Imm.con _)) (.cons (Sub.imm (Imm.con _)) (.cons (Sub.imm (Imm.con _)) (.cons (Sub.imm (Imm.con _)) (.cons (Sub.imm (Imm.con _)) (.cons (Sub.imm (Imm.con _)) .nil)))))))) .nil) (W26 F (y75.2.2.2.2.1) 6 (Tpolicy_reader.mk a2.s (y75.2.1) (Tpolicy_token.mk (y75.2.2.1) (y75.2.2.2.1) (y75.2.2.2.2.1)) (y75.2.2.2.2.2.1) (y75.2.2.2.2.2.2)) y81 hx82) rfl rfl rfl rfl (Sub.immT (Imm.tup .nil)) (.cons rfl (ObSub.box (.cons (Sub.immT (Imm.con _)) (.cons (Sub.immT (Imm.con _)) (.cons (Sub.immT (Imm.con _)) (.cons (Sub.immT (Imm.con _)) (.cons (Sub.immT (Imm.con _)) (.cons (Sub.immT (Imm.con _)) (.cons (Sub.immT (Imm.con _)) .nil)))))))) .nil) _ rfl ?_
    refine fo (rn 1 rfl ?_)
    exact jX ((y81.1),(y81.2)) h (gr [0,1,3] rfl (hB rfl rfl rfl (hB rfl rfl rfl (hB rfl rfl rfl .nil))) rfl)
   refine rn 1 rfl ?_
   exact jX ((y75.2.2.2.2.2.1),(y75.2.2.2.2.2.2)) h (gr [0,1,3] rfl (hB rfl rfl rfl (hB rfl rfl rfl (hB rfl rfl rfl .nil))) rfl)
  rintro⟨n78,n79⟩ h
  refine rn 5 rfl ?_
  replace h:=ae8 h
  subst h
  exact wR ⟨.inl rfl,[(4,(V.ptr 1 6 0 0))],(gr [0,1] rfl (hB rfl rfl rfl (hB rfl rfl rfl .nil)) rfl),(.cons (.agg tA42 rfl rfl rfl rfl rfl) .nil)⟩
 obtain⟨y83,hx84,h⟩:=bind_some h
 refine rn 5 rfl ?_
 refine aops_mcallS (V.agg [(iV (y83.2.2.2.2.2.2.1)),(sV (y83.2.2.2.2.2.2.2.1)),(V.lst 1 ((y83.2.2.2.2.2.2.2.2.1).map encS)),(iV (y83.2.2.2.2.2.2.2.2.2.1)),(iV (y83.2.2.2.2.2.2.2.2.2.2)),nV]) [(V.ptr 0 7 0 0)] (fun i=>([0]:List Nat).getD i 0) (fun i=>([0,2]:List Nat).getD i 0) 2 3 [(0,(Ob.arr 73 7 [[(sV a2.s),(iV (y83.1)),(iV (y83.2.1)),(sV (y83.2.2.1)),(iV (y83.2.2.2.1)),(iV (y83.2.2.2.2.1)),(iV (y83.2.2.2.2.2.1))]])),(2,Ob.dead)] fOk113 wants_none rfl (evm_cons rfl evm_nil) (.cons (Sub.ptr rfl rfl) .nil) (.cons rfl (ObSub.box (.cons (Sub.imm (Imm.con _)) (.cons (Sub.imm (Imm.con _)) (.cons (Sub.imm (Imm.con _)) (.cons (Sub.imm (Imm.con _)) (.cons (Sub.imm (Imm.con _)) (.cons (Sub.imm (Imm.con _)) (.cons (Sub.imm (Imm.con _)) .nil)))))))) .nil) (W113 F (Tpolicy_reader.mk a2.s (y70.2.1) (Tpolicy_token.mk (y70.2.2.1) (y70.2.2.2.1) (y70.2.2.2.2.1)) (y70.2.2.2.2.2.1) (y70.2.2.2.2.2.2)) y83 hx84) rfl rfl rfl rfl (Sub.immT (Imm.agg (.cons (Imm.con _) (.cons (Imm.con _) (.cons (Imm.lst _ _) (.cons (Imm.con _) (.cons (Imm.con _) (.cons (Imm.con _) .nil)))))))) (.cons rfl (ObSub.box (.cons (Sub.immT (Imm.con _)) (.cons (Sub.immT (Imm.con _)) (.cons (Sub.immT (Imm.con _)) (.cons (Sub.immT (Imm.con _)) (.cons (Sub.immT (Imm.con _)) (.cons (Sub.immT (Imm.con _)) (.cons (Sub.immT (Imm.con _)) .nil)))))))) (.cons rfl ObSub.deadT .nil)) _ rfl ?_
 refine fo (rn 2 rfl ?_)
 replace h:=ae8 h
 subst h
 exact wR ⟨.inl rfl,[(4,(V.ptr 1 6 0 0))],(gr [0,1] rfl (hB rfl rfl rfl (hB rfl rfl rfl .nil)) rfl),(.cons (.agg tA42 rfl rfl rfl rfl rfl) .nil)⟩
theorem W84:∀(F:Nat) (a1:Int) (a2:Tpolicy_reader) (r:(Int×Int×(List UInt8)×Int×Int×Int×Int×(List UInt8)×(List (List UInt8))×Int×Int×(List KRow))) (h:M84 F a1 a2=some r),MutG gl Tryz.prog 84 [(V.ptr 0 7 0 0),(iV a1)] 1 [(0,(Ob.arr 73 7 [(encTpolicy_reader a2)]))] (resV [(V.agg [(iV (r.2.2.2.2.2.2.1)),(sV (r.2.2.2.2.2.2.2.1)),(V.lst 1 ((r.2.2.2.2.2.2.2.2.1).map encS)),(iV (r.2.2.2.2.2.2.2.2.2.1)),(iV (r.2.2.2.2.2.2.2.2.2.2.1)),(V.lst 6 ((r.2.2.2.2.2.2.2.2.2.2.2).map KRow.row))])]) 2 [(0,(Ob.arr 73 7 [[(sV a2.s),(iV (r.1)),(iV (r.2.1)),(sV (r.2.2.1)),(iV (r.2.2.2.1)),(iV (r.2.2.2.2.1)),(iV (r.2.2.2.2.2.1))]])),(1,(Ob.arr 42 6 [[(iV (r.2.2.2.2.2.2.1)),(sV (r.2.2.2.2.2.2.2.1)),(V.lst 1 ((r.2.2.2.2.2.2.2.2.1).map encS)),(iV (r.2.2.2.2.2.2.2.2.2.1)),(iV (r.2.2.2.2.2.2.2.2.2.2.1)),(V.lst 6 ((r.2.2.2.2.2.2.2.2.2.2.2).map KRow.row))]]))]:=by
 intro F
 induction F with
 |zero=>intros;simp[M84] at *
 |succ F ih=>exact fun a1 a2 r h=>W84_B (M84 F) ih F a1 a2 r h
theorem W24(F:Nat)(a1:Tpolicy_reader)(r:(Int×Int×(List UInt8)×Int×Int×Int×(List UInt8)×(List UInt8)×Int×(List UInt8)×(List (List UInt8))×Int×Int×(List KRow)×Int))(h:M24 F a1=some r):MutG gl Tryz.prog 24 [(V.ptr 0 7 0 0)] 1 [(0,(Ob.arr 73 7 [(encTpolicy_reader a1)]))] (resV [(V.agg [(sV (r.2.2.2.2.2.2.1)),(sV (r.2.2.2.2.2.2.2.1)),(iV (r.2.2.2.2.2.2.2.2.1)),(sV (r.2.2.2.2.2.2.2.2.2.1)),(V.lst 1 ((r.2.2.2.2.2.2.2.2.2.2.1).map encS)),(iV (r.2.2.2.2.2.2.2.2.2.2.2.1)),(iV (r.2.2.2.2.2.2.2.2.2.2.2.2.1)),(V.lst 6 ((r.2.2.2.2.2.2.2.2.2.2.2.2.2.1).map KRow.row)),(iV (r.2.2.2.2.2.2.2.2.2.2.2.2.2.2))])]) 2 [(0,(Ob.arr 73 7 [[(sV a1.s),(iV (r.1)),(iV (r.2.1)),(sV (r.2.2.1)),(iV (r.2.2.2.1)),(iV (r.2.2.2.2.1)),(iV (r.2.2.2.2.2.1))]])),(1,(Ob.arr 44 9 [[(sV (r.2.2.2.2.2.2.1)),(sV (r.2.2.2.2.2.2.2.1)),(iV (r.2.2.2.2.2.2.2.2.1)),(sV (r.2.2.2.2.2.2.2.2.2.1)),(V.lst 1 ((r.2.2.2.2.2.2.2.2.2.2.1).map encS)),(iV (r.2.2.2.2.2.2.2.2.2.2.2.1)),(iV (r.2.2.2.2.2.2.2.2.2.2.2.2.1)),(V.lst 6 ((r.2.2.2.2.2.2.2.2.2.2.2.2.2.1).map KRow.row)),(iV (r.2.2.2.2.2.2.2.2.2.2.2.2.2.2))]]))]:=by
 refine mut_enter Tryz.func24 rfl rfl (l:=[.cell 2 44]) rfl rfl [(0,(V.ptr 0 7 0 0))] rfl (fun w0 m0 β0 hg=>en ?_)
 unfold M24 at h
 obtain⟨y29,hx30,h⟩:=bind_some h
 refine rn 7 rfl ?_
 refine aops_mcallS (sV (y29.1)) [(V.ptr 0 7 0 0)] (fun i=>([0]:List Nat).getD i 0) (fun i=>([0]:List Nat).getD i 0) 2 2 [(0,(Ob.arr 73 7 [[(sV a1.s),(iV (y29.2.1)),(iV (y29.2.2.1)),(sV (y29.2.2.2.1)),(iV (y29.2.2.2.2.1)),(iV (y29.2.2.2.2.2.1)),(iV (y29.2.2.2.2.2.2))]]))] fOk52 wants_none rfl (evm_cons rfl evm_nil) (.cons (Sub.ptr rfl rfl) .nil) (.cons rfl (ObSub.box (.cons (Sub.imm (Imm.con _)) (.cons (Sub.imm (Imm.con _)) (.cons (Sub.imm (Imm.con _)) (.cons (Sub.imm (Imm.con _)) (.cons (Sub.imm (Imm.con _)) (.cons (Sub.imm (Imm.con _)) (.cons (Sub.imm (Imm.con _)) .nil)))))))) .nil) (W52 F a1 y29 hx30) rfl rfl rfl rfl (Sub.immT (Imm.con _)) (.cons rfl (ObSub.box (.cons (Sub.immT (Imm.con _)) (.cons (Sub.immT (Imm.con _)) (.cons (Sub.immT (Imm.con _)) (.cons (Sub.immT (Imm.con _)) (.cons (Sub.immT (Imm.con _)) (.cons (Sub.immT (Imm.con _)) (.cons (Sub.immT (Imm.con _)) .nil)))))))) .nil) _ rfl ?_
 obtain⟨y31,hx32,h⟩:=bind_some h
 refine fo (rn 7 rfl ?_)
 refine aops_mcallS (V.tup []) [(V.ptr 0 7 0 0),(sV ([97,98,111,117,116]:List UInt8))] (fun i=>([0]:List Nat).getD i 0) (fun i=>([0]:List Nat).getD i 0) 3 3 [(0,(Ob.arr 73 7 [[(sV a1.s),(iV (y31.1)),(iV (y31.2.1)),(sV (y31.2.2.1)),(iV (y31.2.2.2.1)),(iV (y31.2.2.2.2.1)),(iV (y31.2.2.2.2.2))]]))] fOk53 wants_none rfl (evm_cons rfl (evm_cons rfl evm_nil)) (.cons (Sub.ptr rfl rfl) (.cons (Sub.imm (Imm.con _)) .nil)) (.cons rfl (ObSub.box (.cons (Sub.imm (Imm.con _)) (.cons (Sub.imm (Imm.con _)) (.cons (Sub.imm (Imm.con _)) (.cons (Sub.imm (Imm.con _)) (.cons (Sub.imm (Imm.con _)) (.cons (Sub.imm (Imm.con _)) (.cons (Sub.imm (Imm.con _)) .nil)))))))) .nil) (W53 F ([97,98,111,117,116]:List UInt8) (Tpolicy_reader.mk a1.s (y29.2.1) (Tpolicy_token.mk (y29.2.2.1) (y29.2.2.2.1) (y29.2.2.2.2.1)) (y29.2.2.2.2.2.1) (y29.2.2.2.2.2.2)) y31 hx32) rfl rfl rfl rfl (Sub.immT (Imm.tup .nil)) (.cons rfl (ObSub.box (.cons (Sub.immT (Imm.con _)) (.cons (Sub.immT (Imm.con _)) (.cons (Sub.immT (Imm.con _)) (.cons (Sub.immT (Imm.con _)) (.cons (Sub.immT (Imm.con _)) (.cons (Sub.immT (Imm.con _)) (.cons (Sub.immT (Imm.con _)) .nil)))))))) .nil) _ rfl ?_
 obtain⟨y33,hx34,h⟩:=bind_some h
 refine fo (rn 4 rfl ?_)
 refine aops_mcallS (sV (y33.1)) [(V.ptr 0 7 0 0)] (fun i=>([0]:List Nat).getD i 0) (fun i=>([0]:List Nat).getD i 0) 3 3 [(0,(Ob.arr 73 7 [[(sV a1.s),(iV (y33.2.1)),(iV (y33.2.2.1)),(sV (y33.2.2.2.1)),(iV (y33.2.2.2.2.1)),(iV (y33.2.2.2.2.2.1)),(iV (y33.2.2.2.2.2.2))]]))] fOk52 wants_none rfl (evm_cons rfl evm_nil) (.cons (Sub.ptr rfl rfl) .nil) (.cons rfl (ObSub.box (.cons (Sub.imm (Imm.con _)) (.cons (Sub.imm (Imm.con _)) (.cons (Sub.imm (Imm.con _)) (.cons (Sub.imm (Imm.con _)) (.cons (Sub.imm (Imm.con _)) (.cons (Sub.imm (Imm.con _)) (.cons (Sub.imm (Imm.con _)) .nil)))))))) .nil) (W52 F (Tpolicy_reader.mk a1.s (y31.1) (Tpolicy_token.mk (y31.2.1) (y31.2.2.1) (y31.2.2.2.1)) (y31.2.2.2.2.1) (y31.2.2.2.2.2)) y33 hx34) rfl rfl rfl rfl (Sub.immT (Imm.con _)) (.cons rfl (ObSub.box (.cons (Sub.immT (Imm.con _)) (.cons (Sub.immT (Imm.con _)) (.cons (Sub.immT (Imm.con _)) (.cons (Sub.immT (Imm.con _)) (.cons (Sub.immT (Imm.con _)) (.cons (Sub.immT (Imm.con _)) (.cons (Sub.immT (Imm.con _)) .nil)))))))) .nil) _ rfl ?_
 obtain⟨y35,hx36,h⟩:=bind_some h
 refine fo (rn 6 rfl ?_)
 refine aops_mcallS (iV (y35.1)) [(V.ptr 0 7 0 0)] (fun i=>([0]:List Nat).getD i 0) (fun i=>([0]:List Nat).getD i 0) 3 3 [(0,(Ob.arr 73 7 [[(sV a1.s),(iV (y35.2.1)),(iV (y35.2.2.1)),(sV (y35.2.2.2.1)),(iV (y35.2.2.2.2.1)),(iV (y35.2.2.2.2.2.1)),(iV (y35.2.2.2.2.2.2))]]))] fOk54 wants_none rfl (evm_cons rfl evm_nil) (.cons (Sub.ptr rfl rfl) .nil) (.cons rfl (ObSub.box (.cons (Sub.imm (Imm.con _)) (.cons (Sub.imm (Imm.con _)) (.cons (Sub.imm (Imm.con _)) (.cons (Sub.imm (Imm.con _)) (.cons (Sub.imm (Imm.con _)) (.cons (Sub.imm (Imm.con _)) (.cons (Sub.imm (Imm.con _)) .nil)))))))) .nil) (W54 F (Tpolicy_reader.mk a1.s (y33.2.1) (Tpolicy_token.mk (y33.2.2.1) (y33.2.2.2.1) (y33.2.2.2.2.1)) (y33.2.2.2.2.2.1) (y33.2.2.2.2.2.2)) y35 hx36) rfl rfl rfl rfl (Sub.immT (Imm.con _)) (.cons rfl (ObSub.box (.cons (Sub.immT (Imm.con _)) (.cons (Sub.immT (Imm.con _)) (.cons (Sub.immT (Imm.con _)) (.cons (Sub.immT (Imm.con _)) (.cons (Sub.immT (Imm.con _)) (.cons (Sub.immT (Imm.con _)) (.cons (Sub.immT (Imm.con _)) .nil)))))))) .nil) _ rfl ?_
 obtain⟨y37,hx38,h⟩:=bind_some h
 refine fo (rn 6 rfl ?_)
 refine aops_mcallS (V.tup []) [(V.ptr 0 7 0 0),(sV ([119,104,101,110]:List UInt8))] (fun i=>([0]:List Nat).getD i 0) (fun i=>([0]:List Nat).getD i 0) 3 3 [(0,(Ob.arr 73 7 [[(sV a1.s),(iV (y37.1)),(iV (y37.2.1)),(sV (y37.2.2.1)),(iV (y37.2.2.2.1)),(iV (y37.2.2.2.2.1)),(iV (y37.2.2.2.2.2))]]))] fOk53 wants_none rfl (evm_cons rfl (evm_cons rfl evm_nil)) (.cons (Sub.ptr rfl rfl) (.cons (Sub.imm (Imm.con _)) .nil)) (.cons rfl (ObSub.box (.cons (Sub.imm (Imm.con _)) (.cons (Sub.imm (Imm.con _)) (.cons (Sub.imm (Imm.con _)) (.cons (Sub.imm (Imm.con _)) (.cons (Sub.imm (Imm.con _)) (.cons (Sub.imm (Imm.con _)) (.cons (Sub.imm (Imm.con _)) .nil)))))))) .nil) (W53 F ([119,104,101,110]:List UInt8) (Tpolicy_reader.mk a1.s (y35.2.1) (Tpolicy_token.mk (y35.2.2.1) (y35.2.2.2.1) (y35.2.2.2.2.1)) (y35.2.2.2.2.2.1) (y35.2.2.2.2.2.2)) y37 hx38) rfl rfl rfl rfl (Sub.immT (Imm.tup .nil)) (.cons rfl (ObSub.box (.cons (Sub.immT (Imm.con _)) (.cons (Sub.immT (Imm.con _)) (.cons (Sub.immT (Imm.con _)) (.cons (Sub.immT (Imm.con _)) (.cons (Sub.immT (Imm.con _)) (.cons (Sub.immT (Imm.con _)) (.cons (Sub.immT (Imm.con _)) .nil)))))))) .nil) _ rfl ?_
 obtain⟨y39,hx40,h⟩:=bind_some h
 refine fo (rn 4 rfl ?_)
 refine aops_mcallS (V.agg [(iV (y39.2.2.2.2.2.2.1)),(sV (y39.2.2.2.2.2.2.2.1)),(V.lst 1 ((y39.2.2.2.2.2.2.2.2.1).map encS)),(iV (y39.2.2.2.2.2.2.2.2.2.1)),(iV (y39.2.2.2.2.2.2.2.2.2.2.1)),(V.lst 6 ((y39.2.2.2.2.2.2.2.2.2.2.2).map KRow.row))]) [(V.ptr 0 7 0 0),(iV 0)] (fun i=>([0]:List Nat).getD i 0) (fun i=>([0,3]:List Nat).getD i 0) 3 4 [(0,(Ob.arr 73 7 [[(sV a1.s),(iV (y39.1)),(iV (y39.2.1)),(sV (y39.2.2.1)),(iV (y39.2.2.2.1)),(iV (y39.2.2.2.2.1)),(iV (y39.2.2.2.2.2.1))]])),(3,Ob.dead)] fOk55 wants_none rfl (evm_cons rfl (evm_cons rfl evm_nil)) (.cons (Sub.ptr rfl rfl) (.cons (Sub.imm (Imm.con _)) .nil)) (.cons rfl (ObSub.box (.cons (Sub.imm (Imm.con _)) (.cons (Sub.imm (Imm.con _)) (.cons (Sub.imm (Imm.con _)) (.cons (Sub.imm (Imm.con _)) (.cons (Sub.imm (Imm.con _)) (.cons (Sub.imm (Imm.con _)) (.cons (Sub.imm (Imm.con _)) .nil)))))))) .nil) (W55 (M84 F) (W84 F) F 0 (Tpolicy_reader.mk a1.s (y37.1) (Tpolicy_token.mk (y37.2.1) (y37.2.2.1) (y37.2.2.2.1)) (y37.2.2.2.2.1) (y37.2.2.2.2.2)) y39 hx40) rfl rfl rfl rfl (Sub.immT (Imm.agg (.cons (Imm.con _) (.cons (Imm.con _) (.cons (Imm.lst _ _) (.cons (Imm.con _) (.cons (Imm.con _) (.cons (Imm.lst _ _) .nil)))))))) (.cons rfl (ObSub.box (.cons (Sub.immT (Imm.con _)) (.cons (Sub.immT (Imm.con _)) (.cons (Sub.immT (Imm.con _)) (.cons (Sub.immT (Imm.con _)) (.cons (Sub.immT (Imm.con _)) (.cons (Sub.immT (Imm.con _)) (.cons (Sub.immT (Imm.con _)) .nil)))))))) (.cons rfl ObSub.deadT .nil)) _ rfl ?_
 refine fo (rn 8 rfl ?_)
 replace h:=ae8 h
 subst h
 exact wR ⟨.inl rfl,[(2,(V.ptr 1 9 0 0))],(gr [0,1] rfl (hB rfl rfl rfl (hB rfl rfl rfl .nil)) rfl),(.cons (.agg tA44 rfl rfl rfl rfl rfl) .nil)⟩
theorem W25(F:Nat)(a1:Tpolicy_reader)(r:(Int×Int×(List UInt8)×Int×Int×Int×(List UInt8)×(List UInt8)×Int×Int×(List UInt8)×Int))(h:M25 F a1=some r):MutG gl Tryz.prog 25 [(V.ptr 0 7 0 0)] 1 [(0,(Ob.arr 73 7 [(encTpolicy_reader a1)]))] (resV [(V.agg [(sV (r.2.2.2.2.2.2.1)),(sV (r.2.2.2.2.2.2.2.1)),(iV (r.2.2.2.2.2.2.2.2.1)),(iV (r.2.2.2.2.2.2.2.2.2.1)),(sV (r.2.2.2.2.2.2.2.2.2.2.1)),(iV (r.2.2.2.2.2.2.2.2.2.2.2))])]) 2 [(0,(Ob.arr 73 7 [[(sV a1.s),(iV (r.1)),(iV (r.2.1)),(sV (r.2.2.1)),(iV (r.2.2.2.1)),(iV (r.2.2.2.2.1)),(iV (r.2.2.2.2.2.1))]])),(1,(Ob.arr 52 6 [[(sV (r.2.2.2.2.2.2.1)),(sV (r.2.2.2.2.2.2.2.1)),(iV (r.2.2.2.2.2.2.2.2.1)),(iV (r.2.2.2.2.2.2.2.2.2.1)),(sV (r.2.2.2.2.2.2.2.2.2.2.1)),(iV (r.2.2.2.2.2.2.2.2.2.2.2))]]))]:=by
 refine mut_enter Tryz.func25 rfl rfl (l:=[.cell 2 52]) rfl rfl [(0,(V.ptr 0 7 0 0))] rfl (fun w0 m0 β0 hg=>en ?_)
 unfold M25 at h
 obtain⟨y36,hx37,h⟩:=bind_some h
 refine rn 7 rfl ?_
 refine aops_mcallS (sV (y36.1)) [(V.ptr 0 7 0 0)] (fun i=>([0]:List Nat).getD i 0) (fun i=>([0]:List Nat).getD i 0) 2 2 [(0,(Ob.arr 73 7 [[(sV a1.s),(iV (y36.2.1)),(iV (y36.2.2.1)),(sV (y36.2.2.2.1)),(iV (y36.2.2.2.2.1)),(iV (y36.2.2.2.2.2.1)),(iV (y36.2.2.2.2.2.2))]]))] fOk52 wants_none rfl (evm_cons rfl evm_nil) (.cons (Sub.ptr rfl rfl) .nil) (.cons rfl (ObSub.box (.cons (Sub.imm (Imm.con _)) (.cons (Sub.imm (Imm.con _)) (.cons (Sub.imm (Imm.con _)) (.cons (Sub.imm (Imm.con _)) (.cons (Sub.imm (Imm.con _)) (.cons (Sub.imm (Imm.con _)) (.cons (Sub.imm (Imm.con _)) .nil)))))))) .nil) (W52 F a1 y36 hx37) rfl rfl rfl rfl (Sub.immT (Imm.con _)) (.cons rfl (ObSub.box (.cons (Sub.immT (Imm.con _)) (.cons (Sub.immT (Imm.con _)) (.cons (Sub.immT (Imm.con _)) (.cons (Sub.immT (Imm.con _)) (.cons (Sub.immT (Imm.con _)) (.cons (Sub.immT (Imm.con _)) (.cons (Sub.immT (Imm.con _)) .nil)))))))) .nil) _ rfl ?_
 obtain⟨y38,hx39,h⟩:=bind_some h
 refine fo (rn 7 rfl ?_)
 refine aops_mcallS (V.tup []) [(V.ptr 0 7 0 0),(sV ([102,111,114]:List UInt8))] (fun i=>([0]:List Nat).getD i 0) (fun i=>([0]:List Nat).getD i 0) 3 3 [(0,(Ob.arr 73 7 [[(sV a1.s),(iV (y38.1)),(iV (y38.2.1)),(sV (y38.2.2.1)),(iV (y38.2.2.2.1)),(iV (y38.2.2.2.2.1)),(iV (y38.2.2.2.2.2))]]))] fOk53 wants_none rfl (evm_cons rfl (evm_cons rfl evm_nil)) (.cons (Sub.ptr rfl rfl) (.cons (Sub.imm (Imm.con _)) .nil)) (.cons rfl (ObSub.box (.cons (Sub.imm (Imm.con _)) (.cons (Sub.imm (Imm.con _)) (.cons (Sub.imm (Imm.con _)) (.cons (Sub.imm (Imm.con _)) (.cons (Sub.imm (Imm.con _)) (.cons (Sub.imm (Imm.con _)) (.cons (Sub.imm (Imm.con _)) .nil)))))))) .nil) (W53 F ([102,111,114]:List UInt8) (Tpolicy_reader.mk a1.s (y36.2.1) (Tpolicy_token.mk (y36.2.2.1) (y36.2.2.2.1) (y36.2.2.2.2.1)) (y36.2.2.2.2.2.1) (y36.2.2.2.2.2.2)) y38 hx39) rfl rfl rfl rfl (Sub.immT (Imm.tup .nil)) (.cons rfl (ObSub.box (.cons (Sub.immT (Imm.con _)) (.cons (Sub.immT (Imm.con _)) (.cons (Sub.immT (Imm.con _)) (.cons (Sub.immT (Imm.con _)) (.cons (Sub.immT (Imm.con _)) (.cons (Sub.immT (Imm.con _)) (.cons (Sub.immT (Imm.con _)) .nil)))))))) .nil) _ rfl ?_
 obtain⟨y40,hx41,h⟩:=bind_some h
 refine fo (rn 4 rfl ?_)
 refine aops_mcallS (sV (y40.1)) [(V.ptr 0 7 0 0)] (fun i=>([0]:List Nat).getD i 0) (fun i=>([0]:List Nat).getD i 0) 3 3 [(0,(Ob.arr 73 7 [[(sV a1.s),(iV (y40.2.1)),(iV (y40.2.2.1)),(sV (y40.2.2.2.1)),(iV (y40.2.2.2.2.1)),(iV (y40.2.2.2.2.2.1)),(iV (y40.2.2.2.2.2.2))]]))] fOk56 wants_none rfl (evm_cons rfl evm_nil) (.cons (Sub.ptr rfl rfl) .nil) (.cons rfl (ObSub.box (.cons (Sub.imm (Imm.con _)) (.cons (Sub.imm (Imm.con _)) (.cons (Sub.imm (Imm.con _)) (.cons (Sub.imm (Imm.con _)) (.cons (Sub.imm (Imm.con _)) (.cons (Sub.imm (Imm.con _)) (.cons (Sub.imm (Imm.con _)) .nil)))))))) .nil) (W56 F (Tpolicy_reader.mk a1.s (y38.1) (Tpolicy_token.mk (y38.2.1) (y38.2.2.1) (y38.2.2.2.1)) (y38.2.2.2.2.1) (y38.2.2.2.2.2)) y40 hx41) rfl rfl rfl rfl (Sub.immT (Imm.con _)) (.cons rfl (ObSub.box (.cons (Sub.immT (Imm.con _)) (.cons (Sub.immT (Imm.con _)) (.cons (Sub.immT (Imm.con _)) (.cons (Sub.immT (Imm.con _)) (.cons (Sub.immT (Imm.con _)) (.cons (Sub.immT (Imm.con _)) (.cons (Sub.immT (Imm.con _)) .nil)))))))) .nil) _ rfl ?_
 obtain⟨y42,hx43,h⟩:=bind_some h
 refine fo (rn 6 rfl ?_)
 refine aops_mcallS (V.tup []) [(V.ptr 0 7 0 0),(sV ([102,114,111,109]:List UInt8))] (fun i=>([0]:List Nat).getD i 0) (fun i=>([0]:List Nat).getD i 0) 3 3 [(0,(Ob.arr 73 7 [[(sV a1.s),(iV (y42.1)),(iV (y42.2.1)),(sV (y42.2.2.1)),(iV (y42.2.2.2.1)),(iV (y42.2.2.2.2.1)),(iV (y42.2.2.2.2.2))]]))] fOk53 wants_none rfl (evm_cons rfl (evm_cons rfl evm_nil)) (.cons (Sub.ptr rfl rfl) (.cons (Sub.imm (Imm.con _)) .nil)) (.cons rfl (ObSub.box (.cons (Sub.imm (Imm.con _)) (.cons (Sub.imm (Imm.con _)) (.cons (Sub.imm (Imm.con _)) (.cons (Sub.imm (Imm.con _)) (.cons (Sub.imm (Imm.con _)) (.cons (Sub.imm (Imm.con _)) (.cons (Sub.imm (Imm.con _)) .nil)))))))) .nil) (W53 F ([102,114,111,109]:List UInt8) (Tpolicy_reader.mk a1.s (y40.2.1) (Tpolicy_token.mk (y40.2.2.1) (y40.2.2.2.1) (y40.2.2.2.2.1)) (y40.2.2.2.2.2.1) (y40.2.2.2.2.2.2)) y42 hx43) rfl rfl rfl rfl (Sub.immT (Imm.tup .nil)) (.cons rfl (ObSub.box (.cons (Sub.immT (Imm.con _)) (.cons (Sub.immT (Imm.con _)) (.cons (Sub.immT (Imm.con _)) (.cons (Sub.immT (Imm.con _)) (.cons (Sub.immT (Imm.con _)) (.cons (Sub.immT (Imm.con _)) (.cons (Sub.immT (Imm.con _)) .nil)))))))) .nil) _ rfl ?_
 obtain⟨y44,hx45,h⟩:=bind_some h
 refine fo (rn 4 rfl ?_)
 refine aops_mcallS (iV (y44.1)) [(V.ptr 0 7 0 0),(bV false)] (fun i=>([0]:List Nat).getD i 0) (fun i=>([0]:List Nat).getD i 0) 3 3 [(0,(Ob.arr 73 7 [[(sV a1.s),(iV (y44.2.1)),(iV (y44.2.2.1)),(sV (y44.2.2.2.1)),(iV (y44.2.2.2.2.1)),(iV (y44.2.2.2.2.2.1)),(iV (y44.2.2.2.2.2.2))]]))] fOk57 wants_none rfl (evm_cons rfl (evm_cons rfl evm_nil)) (.cons (Sub.ptr rfl rfl) (.cons (Sub.imm (Imm.con _)) .nil)) (.cons rfl (ObSub.box (.cons (Sub.imm (Imm.con _)) (.cons (Sub.imm (Imm.con _)) (.cons (Sub.imm (Imm.con _)) (.cons (Sub.imm (Imm.con _)) (.cons (Sub.imm (Imm.con _)) (.cons (Sub.imm (Imm.con _)) (.cons (Sub.imm (Imm.con _)) .nil)))))))) .nil) (W57 F false (Tpolicy_reader.mk a1.s (y42.1) (Tpolicy_token.mk (y42.2.1) (y42.2.2.1) (y42.2.2.2.1)) (y42.2.2.2.2.1) (y42.2.2.2.2.2)) y44 hx45) rfl rfl rfl rfl (Sub.immT (Imm.con _)) (.cons rfl (ObSub.box (.cons (Sub.immT (Imm.con _)) (.cons (Sub.immT (Imm.con _)) (.cons (Sub.immT (Imm.con _)) (.cons (Sub.immT (Imm.con _)) (.cons (Sub.immT (Imm.con _)) (.cons (Sub.immT (Imm.con _)) (.cons (Sub.immT (Imm.con _)) .nil)))))))) .nil) _ rfl ?_
 obtain⟨y46,hx47,h⟩:=bind_some h
 refine fo (rn 6 rfl ?_)
 refine aops_mcallS (V.tup []) [(V.ptr 0 7 0 0),(sV ([116,111]:List UInt8))] (fun i=>([0]:List Nat).getD i 0) (fun i=>([0]:List Nat).getD i 0) 3 3 [(0,(Ob.arr 73 7 [[(sV a1.s),(iV (y46.1)),(iV (y46.2.1)),(sV (y46.2.2.1)),(iV (y46.2.2.2.1)),(iV (y46.2.2.2.2.1)),(iV (y46.2.2.2.2.2))]]))] fOk53 wants_none rfl (evm_cons rfl (evm_cons rfl evm_nil)) (.cons (Sub.ptr rfl rfl) (.cons (Sub.imm (Imm.con _)) .nil)) (.cons rfl (ObSub.box (.cons (Sub.imm (Imm.con _)) (.cons (Sub.imm (Imm.con _)) (.cons (Sub.imm (Imm.con _)) (.cons (Sub.imm (Imm.con _)) (.cons (Sub.imm (Imm.con _)) (.cons (Sub.imm (Imm.con _)) (.cons (Sub.imm (Imm.con _)) .nil)))))))) .nil) (W53 F ([116,111]:List UInt8) (Tpolicy_reader.mk a1.s (y44.2.1) (Tpolicy_token.mk (y44.2.2.1) (y44.2.2.2.1) (y44.2.2.2.2.1)) (y44.2.2.2.2.2.1) (y44.2.2.2.2.2.2)) y46 hx47) rfl rfl rfl rfl (Sub.immT (Imm.tup .nil)) (.cons rfl (ObSub.box (.cons (Sub.immT (Imm.con _)) (.cons (Sub.immT (Imm.con _)) (.cons (Sub.immT (Imm.con _)) (.cons (Sub.immT (Imm.con _)) (.cons (Sub.immT (Imm.con _)) (.cons (Sub.immT (Imm.con _)) (.cons (Sub.immT (Imm.con _)) .nil)))))))) .nil) _ rfl ?_
 obtain⟨y48,hx49,h⟩:=bind_some h
 refine fo (rn 4 rfl ?_)
 refine aops_mcallS (iV (y48.1)) [(V.ptr 0 7 0 0),(bV false)] (fun i=>([0]:List Nat).getD i 0) (fun i=>([0]:List Nat).getD i 0) 3 3 [(0,(Ob.arr 73 7 [[(sV a1.s),(iV (y48.2.1)),(iV (y48.2.2.1)),(sV (y48.2.2.2.1)),(iV (y48.2.2.2.2.1)),(iV (y48.2.2.2.2.2.1)),(iV (y48.2.2.2.2.2.2))]]))] fOk57 wants_none rfl (evm_cons rfl (evm_cons rfl evm_nil)) (.cons (Sub.ptr rfl rfl) (.cons (Sub.imm (Imm.con _)) .nil)) (.cons rfl (ObSub.box (.cons (Sub.imm (Imm.con _)) (.cons (Sub.imm (Imm.con _)) (.cons (Sub.imm (Imm.con _)) (.cons (Sub.imm (Imm.con _)) (.cons (Sub.imm (Imm.con _)) (.cons (Sub.imm (Imm.con _)) (.cons (Sub.imm (Imm.con _)) .nil)))))))) .nil) (W57 F false (Tpolicy_reader.mk a1.s (y46.1) (Tpolicy_token.mk (y46.2.1) (y46.2.2.1) (y46.2.2.2.1)) (y46.2.2.2.2.1) (y46.2.2.2.2.2)) y48 hx49) rfl rfl rfl rfl (Sub.immT (Imm.con _)) (.cons rfl (ObSub.box (.cons (Sub.immT (Imm.con _)) (.cons (Sub.immT (Imm.con _)) (.cons (Sub.immT (Imm.con _)) (.cons (Sub.immT (Imm.con _)) (.cons (Sub.immT (Imm.con _)) (.cons (Sub.immT (Imm.con _)) (.cons (Sub.immT (Imm.con _)) .nil)))))))) .nil) _ rfl ?_
 obtain⟨y50,hx51,h⟩:=bind_some h
 refine fo (rn 6 rfl ?_)
 refine aops_mcallS (V.tup []) [(V.ptr 0 7 0 0),(sV ([98,121]:List UInt8))] (fun i=>([0]:List Nat).getD i 0) (fun i=>([0]:List Nat).getD i 0) 3 3 [(0,(Ob.arr 73 7 [[(sV a1.s),(iV (y50.1)),(iV (y50.2.1)),(sV (y50.2.2.1)),(iV (y50.2.2.2.1)),(iV (y50.2.2.2.2.1)),(iV (y50.2.2.2.2.2))]]))] fOk53 wants_none rfl (evm_cons rfl (evm_cons rfl evm_nil)) (.cons (Sub.ptr rfl rfl) (.cons (Sub.imm (Imm.con _)) .nil)) (.cons rfl (ObSub.box (.cons (Sub.imm (Imm.con _)) (.cons (Sub.imm (Imm.con _)) (.cons (Sub.imm (Imm.con _)) (.cons (Sub.imm (Imm.con _)) (.cons (Sub.imm (Imm.con _)) (.cons (Sub.imm (Imm.con _)) (.cons (Sub.imm (Imm.con _)) .nil)))))))) .nil) (W53 F ([98,121]:List UInt8) (Tpolicy_reader.mk a1.s (y48.2.1) (Tpolicy_token.mk (y48.2.2.1) (y48.2.2.2.1) (y48.2.2.2.2.1)) (y48.2.2.2.2.2.1) (y48.2.2.2.2.2.2)) y50 hx51) rfl rfl rfl rfl (Sub.immT (Imm.tup .nil)) (.cons rfl (ObSub.box (.cons (Sub.immT (Imm.con _)) (.cons (Sub.immT (Imm.con _)) (.cons (Sub.immT (Imm.con _)) (.cons (Sub.immT (Imm.con _)) (.cons (Sub.immT (Imm.con _)) (.cons (Sub.immT (Imm.con _)) (.cons (Sub.immT (Imm.con _)) .nil)))))))) .nil) _ rfl ?_
 obtain⟨y52,hx53,h⟩:=bind_some h
 refine fo (rn 4 rfl ?_)
 refine aops_mcallS (sV (y52.1)) [(V.ptr 0 7 0 0)] (fun i=>([0]:List Nat).getD i 0) (fun i=>([0]:List Nat).getD i 0) 3 3 [(0,(Ob.arr 73 7 [[(sV a1.s),(iV (y52.2.1)),(iV (y52.2.2.1)),(sV (y52.2.2.2.1)),(iV (y52.2.2.2.2.1)),(iV (y52.2.2.2.2.2.1)),(iV (y52.2.2.2.2.2.2))]]))] fOk52 wants_none rfl (evm_cons rfl evm_nil) (.cons (Sub.ptr rfl rfl) .nil) (.cons rfl (ObSub.box (.cons (Sub.imm (Imm.con _)) (.cons (Sub.imm (Imm.con _)) (.cons (Sub.imm (Imm.con _)) (.cons (Sub.imm (Imm.con _)) (.cons (Sub.imm (Imm.con _)) (.cons (Sub.imm (Imm.con _)) (.cons (Sub.imm (Imm.con _)) .nil)))))))) .nil) (W52 F (Tpolicy_reader.mk a1.s (y50.1) (Tpolicy_token.mk (y50.2.1) (y50.2.2.1) (y50.2.2.2.1)) (y50.2.2.2.2.1) (y50.2.2.2.2.2)) y52 hx53) rfl rfl rfl rfl (Sub.immT (Imm.con _)) (.cons rfl (ObSub.box (.cons (Sub.immT (Imm.con _)) (.cons (Sub.immT (Imm.con _)) (.cons (Sub.immT (Imm.con _)) (.cons (Sub.immT (Imm.con _)) (.cons (Sub.immT (Imm.con _)) (.cons (Sub.immT (Imm.con _)) (.cons (Sub.immT (Imm.con _)) .nil)))))))) .nil) _ rfl ?_
 obtain⟨y54,hx55,h⟩:=bind_some h
 refine fo (rn 6 rfl ?_)
 refine aops_mcallS (V.tup []) [(V.ptr 0 7 0 0),(sV ([97,115]:List UInt8))] (fun i=>([0]:List Nat).getD i 0) (fun i=>([0]:List Nat).getD i 0) 3 3 [(0,(Ob.arr 73 7 [[(sV a1.s),(iV (y54.1)),(iV (y54.2.1)),(sV (y54.2.2.1)),(iV (y54.2.2.2.1)),(iV (y54.2.2.2.2.1)),(iV (y54.2.2.2.2.2))]]))] fOk53 wants_none rfl (evm_cons rfl (evm_cons rfl evm_nil)) (.cons (Sub.ptr rfl rfl) (.cons (Sub.imm (Imm.con _)) .nil)) (.cons rfl (ObSub.box (.cons (Sub.imm (Imm.con _)) (.cons (Sub.imm (Imm.con _)) (.cons (Sub.imm (Imm.con _)) (.cons (Sub.imm (Imm.con _)) (.cons (Sub.imm (Imm.con _)) (.cons (Sub.imm (Imm.con _)) (.cons (Sub.imm (Imm.con _)) .nil)))))))) .nil) (W53 F ([97,115]:List UInt8) (Tpolicy_reader.mk a1.s (y52.2.1) (Tpolicy_token.mk (y52.2.2.1) (y52.2.2.2.1) (y52.2.2.2.2.1)) (y52.2.2.2.2.2.1) (y52.2.2.2.2.2.2)) y54 hx55) rfl rfl rfl rfl (Sub.immT (Imm.tup .nil)) (.cons rfl (ObSub.box (.cons (Sub.immT (Imm.con _)) (.cons (Sub.immT (Imm.con _)) (.cons (Sub.immT (Imm.con _)) (.cons (Sub.immT (Imm.con _)) (.cons (Sub.immT (Imm.con _)) (.cons (Sub.immT (Imm.con _)) (.cons (Sub.immT (Imm.con _)) .nil)))))))) .nil) _ rfl ?_
 obtain⟨y56,hx57,h⟩:=bind_some h
 refine fo (rn 4 rfl ?_)
 refine aops_mcallS (iV (y56.1)) [(V.ptr 0 7 0 0)] (fun i=>([0]:List Nat).getD i 0) (fun i=>([0]:List Nat).getD i 0) 3 3 [(0,(Ob.arr 73 7 [[(sV a1.s),(iV (y56.2.1)),(iV (y56.2.2.1)),(sV (y56.2.2.2.1)),(iV (y56.2.2.2.2.1)),(iV (y56.2.2.2.2.2.1)),(iV (y56.2.2.2.2.2.2))]]))] fOk54 wants_none rfl (evm_cons rfl evm_nil) (.cons (Sub.ptr rfl rfl) .nil) (.cons rfl (ObSub.box (.cons (Sub.imm (Imm.con _)) (.cons (Sub.imm (Imm.con _)) (.cons (Sub.imm (Imm.con _)) (.cons (Sub.imm (Imm.con _)) (.cons (Sub.imm (Imm.con _)) (.cons (Sub.imm (Imm.con _)) (.cons (Sub.imm (Imm.con _)) .nil)))))))) .nil) (W54 F (Tpolicy_reader.mk a1.s (y54.1) (Tpolicy_token.mk (y54.2.1) (y54.2.2.1) (y54.2.2.2.1)) (y54.2.2.2.2.1) (y54.2.2.2.2.2)) y56 hx57) rfl rfl rfl rfl (Sub.immT (Imm.con _)) (.cons rfl (ObSub.box (.cons (Sub.immT (Imm.con _)) (.cons (Sub.immT (Imm.con _)) (.cons (Sub.immT (Imm.con _)) (.cons (Sub.immT (Imm.con _)) (.cons (Sub.immT (Imm.con _)) (.cons (Sub.immT (Imm.con _)) (.cons (Sub.immT (Imm.con _)) .nil)))))))) .nil) _ rfl ?_
 refine fo (rn 8 rfl ?_)
 replace h:=ae8 h
 subst h
 exact wR ⟨.inl rfl,[(2,(V.ptr 1 6 0 0))],(gr [0,1] rfl (hB rfl rfl rfl (hB rfl rfl rfl .nil)) rfl),(.cons (.agg tA52 rfl rfl rfl rfl rfl) .nil)⟩
theorem W7(F:Nat)(a1:(List UInt8))(r:(TPolicy×Int×Int))(h:M7 F a1=some r):PureG gl Tryz.prog 7 [(sV a1)] (V.tup [(V.agg (encTPolicy (r.1))),(iV (r.2.1)),(iV (r.2.2))]):=by
 refine pin (fun r=>(V.tup [(V.agg (encTPolicy (r.1))),(iV (r.2.1)),(iV (r.2.2))])) r rfl Tryz.func7 rfl rfl rfl rfl rfl (fun w0 m0 hg=>?_)
 unfold M7 at h
 refine rn 13 rfl ?_
 refine spC h rfl (fun hb2 h=>?_) (fun hb2 h=>?_)
 ·refine rn 7 rfl ?_
  exact rt h rfl
 obtain⟨y3,hx4,h⟩:=bind_some h
 refine rn 11 rfl ?_
 refine aops_mcallS (V.tup []) [(V.ptr 1 7 0 0)] (fun i=>([1]:List Nat).getD i 0) (fun i=>([1]:List Nat).getD i 0) 2 2 [(1,(Ob.arr 73 7 [[(sV a1),(iV (y3.1)),(iV (y3.2.1)),(sV (y3.2.2.1)),(iV (y3.2.2.2.1)),(iV (y3.2.2.2.2.1)),(iV (y3.2.2.2.2.2))]]))] fOk22 wants_none rfl (evm_cons rfl evm_nil) (.cons (Sub.ptr rfl rfl) .nil) (.cons rfl (ObSub.box (.cons (Sub.imm (Imm.con _)) (.cons (Sub.imm (Imm.con _)) (.cons (Sub.imm (Imm.con _)) (.cons (Sub.imm (Imm.con _)) (.cons (Sub.imm (Imm.con _)) (.cons (Sub.imm (Imm.con _)) (.cons (Sub.imm (Imm.con _)) .nil)))))))) .nil) (W22 F (Tpolicy_reader.mk a1 0 (Tpolicy_token.mk 0 ([]:List UInt8) 0) 0 0) y3 hx4) rfl rfl rfl rfl (Sub.immT (Imm.tup .nil)) (.cons rfl (ObSub.box (.cons (Sub.immT (Imm.con _)) (.cons (Sub.immT (Imm.con _)) (.cons (Sub.immT (Imm.con _)) (.cons (Sub.immT (Imm.con _)) (.cons (Sub.immT (Imm.con _)) (.cons (Sub.immT (Imm.con _)) (.cons (Sub.immT (Imm.con _)) .nil)))))))) .nil) _ rfl ?_
 refine fo (rn 6 rfl ?_)
 refine jK h (fun(p:Int×Int×(List UInt8)×Int×Int×Int×(List TPolicyRule))=>(⟨[(2,(V.ptr 0 2 0 0)),(5,(V.ptr 1 7 0 0)),(6,(V.ptr 2 2 0 0))],[(0,(Ob.arr 25 2 [[nV,nV]])),(1,(Ob.arr 73 7 [[(sV a1),(iV (p.1)),(iV (p.2.1)),(sV (p.2.2.1)),(iV (p.2.2.2.1)),(iV (p.2.2.2.2.1)),(iV (p.2.2.2.2.2.1))]])),(2,(Ob.arr 25 2 [[(V.own 3 (p.2.2.2.2.2.2).length),nV]])),(3,(Ob.arr 44 9 ((p.2.2.2.2.2.2).map encTPolicyRule)))],4⟩:St)) (fun k5 p=>k5 p.1 p.2.1 p.2.2.1 p.2.2.2.1 p.2.2.2.2.1 p.2.2.2.2.2.1 p.2.2.2.2.2.2=some r) (fun k5 h=>?_) ?_
 ·refine rn 1 rfl ?_
  refine lC (fun(p:Int×Int×(List UInt8)×Int×Int×Int×(List TPolicyRule))=>(⟨[(2,(V.ptr 0 2 0 0)),(5,(V.ptr 1 7 0 0)),(6,(V.ptr 2 2 0 0))],[(0,(Ob.arr 25 2 [[nV,nV]])),(1,(Ob.arr 73 7 [[(sV a1),(iV (p.1)),(iV (p.2.1)),(sV (p.2.2.1)),(iV (p.2.2.2.1)),(iV (p.2.2.2.2.1)),(iV (p.2.2.2.2.2.1))]])),(2,(Ob.arr 25 2 [[(V.own 3 (p.2.2.2.2.2.2).length),nV]])),(3,(Ob.arr 44 9 ((p.2.2.2.2.2.2).map encTPolicyRule)))],4⟩:St)) (fun n p=>M7_L1 F a1 k5 n p.1 p.2.1 p.2.2.1 p.2.2.2.1 p.2.2.2.2.1 p.2.2.2.2.2.1 p.2.2.2.2.2.2=some r) (fun p h=>by simp[M7_L1] at h) F ((y3.1),(y3.2.1),(y3.2.2.1),(y3.2.2.2.1),(y3.2.2.2.2.1),(y3.2.2.2.2.2),([]:List TPolicyRule)) h (Ghost.trans (ghost_nilC 2 44 9 (Ob.arr 25 2 [[(V.own 3 0),nV]]) (ObSub.box (.cons Sub.mkNil (.cons Sub.keepNil .nil)))) (ghost_ren 4 (fun i=>([0,1,2,3]:List Nat).getD i 0) _ _ (by decide) (EnvSub.get (.cons (Sub.ptr rfl rfl) (.cons (Sub.ptr rfl rfl) (.cons (Sub.ptr rfl rfl) .nil)))) (HpSub.get (.cons rfl (ObSub.box (.cons (Sub.imm (Imm.con _)) (.cons (Sub.imm (Imm.con _)) .nil))) (.cons rfl (ObSub.box (.cons (Sub.imm (Imm.con _)) (.cons (Sub.imm (Imm.con _)) (.cons (Sub.imm (Imm.con _)) (.cons (Sub.imm (Imm.con _)) (.cons (Sub.imm (Imm.con _)) (.cons (Sub.imm (Imm.con _)) (.cons (Sub.imm (Imm.con _)) .nil)))))))) (.cons rfl (ObSub.box (.cons (Sub.ownE rfl rfl (by simp)) (.cons (Sub.imm (Imm.con _)) .nil))) (.cons rfl (ObSub.rows (rows_imm imms_encTPolicyRule)) .nil))))) rfl)) (fun n p h=>?_)
  obtain⟨n20,n21,s22,n23,n24,n25,l26⟩:=p
  unfold M7_L1 at h
  obtain⟨y27,hx28,h⟩:=bind_some h
  refine rn 4 rfl ?_
  refine aops_mcallS (bV (y27.1)) [(V.ptr 1 7 0 0),(iV 1),(sV ([114,117,108,101]:List UInt8))] (fun i=>([1]:List Nat).getD i 0) (fun i=>([1]:List Nat).getD i 0) 4 4 [(1,(Ob.arr 73 7 [[(sV a1),(iV (y27.2.1)),(iV (y27.2.2.1)),(sV (y27.2.2.2.1)),(iV (y27.2.2.2.2.1)),(iV (y27.2.2.2.2.2.1)),(iV (y27.2.2.2.2.2.2))]]))] fOk23 wants_none rfl (evm_cons rfl (evm_cons rfl (evm_cons rfl evm_nil))) (.cons (Sub.ptr rfl rfl) (.cons (Sub.imm (Imm.con _)) (.cons (Sub.imm (Imm.con _)) .nil))) (.cons rfl (ObSub.box (.cons (Sub.imm (Imm.con _)) (.cons (Sub.imm (Imm.con _)) (.cons (Sub.imm (Imm.con _)) (.cons (Sub.imm (Imm.con _)) (.cons (Sub.imm (Imm.con _)) (.cons (Sub.imm (Imm.con _)) (.cons (Sub.imm (Imm.con _)) .nil)))))))) .nil) (W23 F 1 ([114,117,108,101]:List UInt8) (Tpolicy_reader.mk a1 n20 (Tpolicy_token.mk n21 s22 n23) n24 n25) y27 hx28) rfl rfl rfl rfl (Sub.immT (Imm.con _)) (.cons rfl (ObSub.box (.cons (Sub.immT (Imm.con _)) (.cons (Sub.immT (Imm.con _)) (.cons (Sub.immT (Imm.con _)) (.cons (Sub.immT (Imm.con _)) (.cons (Sub.immT (Imm.con _)) (.cons (Sub.immT (Imm.con _)) (.cons (Sub.immT (Imm.con _)) .nil)))))))) .nil) _ rfl ?_
  refine fo (rn 1 rfl ?_)
  refine spC h rfl (fun hb29 h=>?_) (fun hb29 h=>?_)
  ·obtain⟨y30,hx31,h⟩:=bind_some h
   refine rn 2 rfl ?_
   refine ck h (fun hc32 h=>?_)
   refine awp_ghost ghost_res ?_
   refine awp_ghost ghost_res ?_
   refine fa ?_
   refine dr mixed (vs 3 rfl (xD (OD.mk [(21,(V.ptr 1 7 0 0))] [(1,(Ob.arr 73 7 [[(sV a1),(iV (y27.2.1)),(iV (y27.2.2.1)),(sV (y27.2.2.2.1)),(iV (y27.2.2.2.2.1)),(iV (y27.2.2.2.2.2.1)),(iV (y27.2.2.2.2.2.2))]])),(4,Ob.res)] [(22,(V.agg [(sV (y30.2.2.2.2.2.2.1)),(sV (y30.2.2.2.2.2.2.2.1)),(iV (y30.2.2.2.2.2.2.2.2.1)),(sV (y30.2.2.2.2.2.2.2.2.2.1)),(V.lst 1 ((y30.2.2.2.2.2.2.2.2.2.2.1).map encS)),(iV (y30.2.2.2.2.2.2.2.2.2.2.2.1)),(iV (y30.2.2.2.2.2.2.2.2.2.2.2.2.1)),(V.lst 6 ((y30.2.2.2.2.2.2.2.2.2.2.2.2.2.1).map KRow.row)),(iV (y30.2.2.2.2.2.2.2.2.2.2.2.2.2.2))]))] [(1,(Ob.arr 73 7 [[(sV a1),(iV (y30.1)),(iV (y30.2.1)),(sV (y30.2.2.1)),(iV (y30.2.2.2.1)),(iV (y30.2.2.2.2.1)),(iV (y30.2.2.2.2.2.1))]])),(4,Ob.dead)]) ⟨⟨rfl,trivial⟩,⟨rfl,rfl,trivial⟩⟩ (by exact fun S hn h hh=>aops_mcall_atH [4] hn (by8.2 ⟨hh.2.1,(fun _ hx=>nomatch hx)⟩) (V.agg [(sV (y30.2.2.2.2.2.2.1)),(sV (y30.2.2.2.2.2.2.2.1)),(iV (y30.2.2.2.2.2.2.2.2.1)),(sV (y30.2.2.2.2.2.2.2.2.2.1)),(V.lst 1 ((y30.2.2.2.2.2.2.2.2.2.2.1).map encS)),(iV (y30.2.2.2.2.2.2.2.2.2.2.2.1)),(iV (y30.2.2.2.2.2.2.2.2.2.2.2.2.1)),(V.lst 6 ((y30.2.2.2.2.2.2.2.2.2.2.2.2.2.1).map KRow.row)),(iV (y30.2.2.2.2.2.2.2.2.2.2.2.2.2.2))]) [(V.ptr 1 7 0 0)] (fun i=>([1]:List Nat).getD i 0) (fun i=>([1,4]:List Nat).getD i 0) [(1,(Ob.arr 73 7 [[(sV a1),(iV (y30.1)),(iV (y30.2.1)),(sV (y30.2.2.1)),(iV (y30.2.2.2.1)),(iV (y30.2.2.2.2.1)),(iV (y30.2.2.2.2.2.1))]])),(4,Ob.dead)] fOk24 wants_none rfl (evm_cons h.1 evm_nil) (.cons (Sub.ptr rfl rfl) .nil) (HpSub.consE (id:=0) rfl hh.1 (ObSub.box (.cons (Sub.imm (Imm.con _)) (.cons (Sub.imm (Imm.con _)) (.cons (Sub.imm (Imm.con _)) (.cons (Sub.imm (Imm.con _)) (.cons (Sub.imm (Imm.con _)) (.cons (Sub.imm (Imm.con _)) (.cons (Sub.imm (Imm.con _)) .nil)))))))) .nil) (W24 F (Tpolicy_reader.mk a1 (y27.2.1) (Tpolicy_token.mk (y27.2.2.1) (y27.2.2.2.1) (y27.2.2.2.2.1)) (y27.2.2.2.2.2.1) (y27.2.2.2.2.2.2)) y30 hx31) rfl rfl rfl rfl (Sub.immT (Imm.agg (.cons (Imm.con _) (.cons (Imm.con _) (.cons (Imm.con _) (.cons (Imm.con _) (.cons (Imm.lst _ _) (.cons (Imm.con _) (.cons (Imm.con _) (.cons (Imm.lst _ _) (.cons (Imm.con _) .nil))))))))))) (.cons rfl (ObSub.box (.cons (Sub.immT (Imm.con _)) (.cons (Sub.immT (Imm.con _)) (.cons (Sub.immT (Imm.con _)) (.cons (Sub.immT (Imm.con _)) (.cons (Sub.immT (Imm.con _)) (.cons (Sub.immT (Imm.con _)) (.cons (Sub.immT (Imm.con _)) .nil)))))))) (.cons rfl ObSub.deadT .nil)) (aops_nil ⟨rfl,rfl⟩)) rfl (xD (OD.mk [(22,(V.agg [(sV (y30.2.2.2.2.2.2.1)),(sV (y30.2.2.2.2.2.2.2.1)),(iV (y30.2.2.2.2.2.2.2.2.1)),(sV (y30.2.2.2.2.2.2.2.2.2.1)),(V.lst 1 ((y30.2.2.2.2.2.2.2.2.2.2.1).map encS)),(iV (y30.2.2.2.2.2.2.2.2.2.2.2.1)),(iV (y30.2.2.2.2.2.2.2.2.2.2.2.2.1)),(V.lst 6 ((y30.2.2.2.2.2.2.2.2.2.2.2.2.2.1).map KRow.row)),(iV (y30.2.2.2.2.2.2.2.2.2.2.2.2.2.2))]))] [] [(23,(V.lst 9 (([(TPolicyRule.mk (y30.2.2.2.2.2.2.1) (y30.2.2.2.2.2.2.2.1) (TTest.mk (y30.2.2.2.2.2.2.2.2.1) (y30.2.2.2.2.2.2.2.2.2.1) (y30.2.2.2.2.2.2.2.2.2.2.1) (y30.2.2.2.2.2.2.2.2.2.2.2.1) (y30.2.2.2.2.2.2.2.2.2.2.2.2.1) (y30.2.2.2.2.2.2.2.2.2.2.2.2.2.1)) (y30.2.2.2.2.2.2.2.2.2.2.2.2.2.2))]:List TPolicyRule).map encTPolicyRule)))] []) ⟨⟨rfl,trivial⟩,trivial⟩ (by exact fun S hn h hh=>aops_buildSlice_imm [(0,(V.agg [(sV (y30.2.2.2.2.2.2.1)),(sV (y30.2.2.2.2.2.2.2.1)),(iV (y30.2.2.2.2.2.2.2.2.1)),(sV (y30.2.2.2.2.2.2.2.2.2.1)),(V.lst 1 ((y30.2.2.2.2.2.2.2.2.2.2.1).map encS)),(iV (y30.2.2.2.2.2.2.2.2.2.2.2.1)),(iV (y30.2.2.2.2.2.2.2.2.2.2.2.2.1)),(V.lst 6 ((y30.2.2.2.2.2.2.2.2.2.2.2.2.2.1).map KRow.row)),(iV (y30.2.2.2.2.2.2.2.2.2.2.2.2.2.2))]))] [[(sV (y30.2.2.2.2.2.2.1)),(sV (y30.2.2.2.2.2.2.2.1)),(iV (y30.2.2.2.2.2.2.2.2.1)),(sV (y30.2.2.2.2.2.2.2.2.2.1)),(V.lst 1 ((y30.2.2.2.2.2.2.2.2.2.2.1).map encS)),(iV (y30.2.2.2.2.2.2.2.2.2.2.2.1)),(iV (y30.2.2.2.2.2.2.2.2.2.2.2.2.1)),(V.lst 6 ((y30.2.2.2.2.2.2.2.2.2.2.2.2.2.1).map KRow.row)),(iV (y30.2.2.2.2.2.2.2.2.2.2.2.2.2.2))]] tEl22 tZ44 wants_none rfl rfl rfl rfl (evp_cons h.1 evp_nil) rfl rfl (by simp) (imms_rows (.cons (.cons (Imm.con _) (.cons (Imm.con _) (.cons (Imm.con _) (.cons (Imm.con _) (.cons (Imm.lst _ _) (.cons (Imm.con _) (.cons (Imm.con _) (.cons (Imm.lst _ _) (.cons (Imm.con _) .nil))))))))) .nil)) rfl (aops_nil ⟨rfl,rfl⟩)) rfl (xD (OD.mk [(20,(V.own 3 l26.length)),(23,(V.lst 9 (([(TPolicyRule.mk (y30.2.2.2.2.2.2.1) (y30.2.2.2.2.2.2.2.1) (TTest.mk (y30.2.2.2.2.2.2.2.2.1) (y30.2.2.2.2.2.2.2.2.2.1) (y30.2.2.2.2.2.2.2.2.2.2.1) (y30.2.2.2.2.2.2.2.2.2.2.2.1) (y30.2.2.2.2.2.2.2.2.2.2.2.2.1) (y30.2.2.2.2.2.2.2.2.2.2.2.2.2.1)) (y30.2.2.2.2.2.2.2.2.2.2.2.2.2.2))]:List TPolicyRule).map encTPolicyRule)))] [(3,(Ob.arr 44 9 (l26.map encTPolicyRule))),(5,Ob.res)] [(24,(V.own 5 (l26++([(TPolicyRule.mk (y30.2.2.2.2.2.2.1) (y30.2.2.2.2.2.2.2.1) (TTest.mk (y30.2.2.2.2.2.2.2.2.1) (y30.2.2.2.2.2.2.2.2.2.1) (y30.2.2.2.2.2.2.2.2.2.2.1) (y30.2.2.2.2.2.2.2.2.2.2.2.1) (y30.2.2.2.2.2.2.2.2.2.2.2.2.1) (y30.2.2.2.2.2.2.2.2.2.2.2.2.2.1)) (y30.2.2.2.2.2.2.2.2.2.2.2.2.2.2))]:List TPolicyRule)).length))] [(5,(Ob.arr 44 9 ((l26++([(TPolicyRule.mk (y30.2.2.2.2.2.2.1) (y30.2.2.2.2.2.2.2.1) (TTest.mk (y30.2.2.2.2.2.2.2.2.1) (y30.2.2.2.2.2.2.2.2.2.1) (y30.2.2.2.2.2.2.2.2.2.2.1) (y30.2.2.2.2.2.2.2.2.2.2.2.1) (y30.2.2.2.2.2.2.2.2.2.2.2.2.1) (y30.2.2.2.2.2.2.2.2.2.2.2.2.2.1)) (y30.2.2.2.2.2.2.2.2.2.2.2.2.2.2))]:List TPolicyRule)).map encTPolicyRule))),(3,Ob.dead)]) ⟨⟨rfl,rfl,trivial⟩,⟨rfl,rfl,trivial⟩⟩ (by exact fun S hn h hh=>aops_append_at 5 rfl hn hh.2.1 (([(TPolicyRule.mk (y30.2.2.2.2.2.2.1) (y30.2.2.2.2.2.2.2.1) (TTest.mk (y30.2.2.2.2.2.2.2.2.1) (y30.2.2.2.2.2.2.2.2.2.1) (y30.2.2.2.2.2.2.2.2.2.2.1) (y30.2.2.2.2.2.2.2.2.2.2.2.1) (y30.2.2.2.2.2.2.2.2.2.2.2.2.1) (y30.2.2.2.2.2.2.2.2.2.2.2.2.2.1)) (y30.2.2.2.2.2.2.2.2.2.2.2.2.2.2))]:List TPolicyRule).map encTPolicyRule) ((l26++([(TPolicyRule.mk (y30.2.2.2.2.2.2.1) (y30.2.2.2.2.2.2.2.1) (TTest.mk (y30.2.2.2.2.2.2.2.2.1) (y30.2.2.2.2.2.2.2.2.2.1) (y30.2.2.2.2.2.2.2.2.2.2.1) (y30.2.2.2.2.2.2.2.2.2.2.2.1) (y30.2.2.2.2.2.2.2.2.2.2.2.2.1) (y30.2.2.2.2.2.2.2.2.2.2.2.2.2.1)) (y30.2.2.2.2.2.2.2.2.2.2.2.2.2.2))]:List TPolicyRule)).map encTPolicyRule) tEl22 tIsSl22 rfl rfl wants_none h.1 hh.1 (by simp) h.2.1 (.lst (rows_one one_encTPolicyRule)) (map_snoc encTPolicyRule l26 ([(TPolicyRule.mk (y30.2.2.2.2.2.2.1) (y30.2.2.2.2.2.2.2.1) (TTest.mk (y30.2.2.2.2.2.2.2.2.1) (y30.2.2.2.2.2.2.2.2.2.1) (y30.2.2.2.2.2.2.2.2.2.2.1) (y30.2.2.2.2.2.2.2.2.2.2.2.1) (y30.2.2.2.2.2.2.2.2.2.2.2.2.1) (y30.2.2.2.2.2.2.2.2.2.2.2.2.2.1)) (y30.2.2.2.2.2.2.2.2.2.2.2.2.2.2))]:List TPolicyRule)) (bb8 ..) hc32 rfl (aops_nil ⟨rfl,rfl⟩)) rfl (vs 2 rfl .nil))))) (by kernel_rfl) ?_
   refine rn 1 rfl ?_
   exact jX ((y30.1),(y30.2.1),(y30.2.2.1),(y30.2.2.2.1),(y30.2.2.2.2.1),(y30.2.2.2.2.2.1),(l26++([(TPolicyRule.mk (y30.2.2.2.2.2.2.1) (y30.2.2.2.2.2.2.2.1) (TTest.mk (y30.2.2.2.2.2.2.2.2.1) (y30.2.2.2.2.2.2.2.2.2.1) (y30.2.2.2.2.2.2.2.2.2.2.1) (y30.2.2.2.2.2.2.2.2.2.2.2.1) (y30.2.2.2.2.2.2.2.2.2.2.2.2.1) (y30.2.2.2.2.2.2.2.2.2.2.2.2.2.1)) (y30.2.2.2.2.2.2.2.2.2.2.2.2.2.2))]:List TPolicyRule))) h (gr [0,1,2,5] rfl (hB rfl rfl rfl (hB rfl rfl rfl (hB rfl rfl rfl (hR rfl rfl .nil)))) rfl)
  refine rn 1 rfl ?_
  exact jX ((y27.2.1),(y27.2.2.1),(y27.2.2.2.1),(y27.2.2.2.2.1),(y27.2.2.2.2.2.1),(y27.2.2.2.2.2.2),l26) h (gr [0,1,2,3] rfl (hB rfl rfl rfl (hB rfl rfl rfl (hB rfl rfl rfl (hR rfl rfl .nil)))) rfl)
 rintro⟨n6,n7,s8,n9,n10,n11,l12⟩ h
 refine rn 1 rfl ?_
 refine jK h (fun(p:Int×Int×(List UInt8)×Int×Int×Int×(List TWaiver))=>(⟨[(2,(V.ptr 0 2 0 0)),(5,(V.ptr 1 7 0 0)),(6,(V.ptr 2 2 0 0))],[(0,(Ob.arr 25 2 [[nV,nV]])),(1,(Ob.arr 73 7 [[(sV a1),(iV (p.1)),(iV (p.2.1)),(sV (p.2.2.1)),(iV (p.2.2.2.1)),(iV (p.2.2.2.2.1)),(iV (p.2.2.2.2.2.1))]])),(2,(Ob.arr 25 2 [[(V.own 3 l12.length),(V.own 4 (p.2.2.2.2.2.2).length)]])),(3,(Ob.arr 44 9 (l12.map encTPolicyRule))),(4,(Ob.arr 52 6 ((p.2.2.2.2.2.2).map encTWaiver)))],5⟩:St)) (fun k33 p=>k33 p.1 p.2.1 p.2.2.1 p.2.2.2.1 p.2.2.2.2.1 p.2.2.2.2.2.1 p.2.2.2.2.2.2=some r) (fun k33 h=>?_) ?_
 ·refine rn 1 rfl ?_
  refine lC (fun(p:Int×Int×(List UInt8)×Int×Int×Int×(List TWaiver))=>(⟨[(2,(V.ptr 0 2 0 0)),(5,(V.ptr 1 7 0 0)),(6,(V.ptr 2 2 0 0))],[(0,(Ob.arr 25 2 [[nV,nV]])),(1,(Ob.arr 73 7 [[(sV a1),(iV (p.1)),(iV (p.2.1)),(sV (p.2.2.1)),(iV (p.2.2.2.1)),(iV (p.2.2.2.2.1)),(iV (p.2.2.2.2.2.1))]])),(2,(Ob.arr 25 2 [[(V.own 3 l12.length),(V.own 4 (p.2.2.2.2.2.2).length)]])),(3,(Ob.arr 44 9 (l12.map encTPolicyRule))),(4,(Ob.arr 52 6 ((p.2.2.2.2.2.2).map encTWaiver)))],5⟩:St)) (fun n p=>M7_L2 F a1 k33 n p.1 p.2.1 p.2.2.1 p.2.2.2.1 p.2.2.2.2.1 p.2.2.2.2.2.1 p.2.2.2.2.2.2=some r) (fun p h=>by simp[M7_L2] at h) F (n6,n7,s8,n9,n10,n11,([]:List TWaiver)) h (Ghost.trans (ghost_nilC 2 52 6 (Ob.arr 25 2 [[(V.own 3 l12.length),(V.own 4 0)]]) (ObSub.box (.cons Sub.keepNil (.cons Sub.mkNil .nil)))) (ghost_ren 5 (fun i=>([0,1,2,3,4]:List Nat).getD i 0) _ _ (by decide) (EnvSub.get (.cons (Sub.ptr rfl rfl) (.cons (Sub.ptr rfl rfl) (.cons (Sub.ptr rfl rfl) .nil)))) (HpSub.get (.cons rfl (ObSub.box (.cons (Sub.imm (Imm.con _)) (.cons (Sub.imm (Imm.con _)) .nil))) (.cons rfl (ObSub.box (.cons (Sub.imm (Imm.con _)) (.cons (Sub.imm (Imm.con _)) (.cons (Sub.imm (Imm.con _)) (.cons (Sub.imm (Imm.con _)) (.cons (Sub.imm (Imm.con _)) (.cons (Sub.imm (Imm.con _)) (.cons (Sub.imm (Imm.con _)) .nil)))))))) (.cons rfl (ObSub.box (.cons (Sub.own rfl rfl) (.cons (Sub.ownE rfl rfl (by simp)) .nil))) (.cons rfl (ObSub.rows (rows_imm imms_encTPolicyRule)) (.cons rfl (ObSub.rows (rows_imm imms_encTWaiver)) .nil)))))) rfl)) (fun n p h=>?_)
  obtain⟨n48,n49,s50,n51,n52,n53,l54⟩:=p
  unfold M7_L2 at h
  obtain⟨y55,hx56,h⟩:=bind_some h
  refine rn 4 rfl ?_
  refine aops_mcallS (bV (y55.1)) [(V.ptr 1 7 0 0),(iV 1),(sV ([119,97,105,118,101]:List UInt8))] (fun i=>([1]:List Nat).getD i 0) (fun i=>([1]:List Nat).getD i 0) 5 5 [(1,(Ob.arr 73 7 [[(sV a1),(iV (y55.2.1)),(iV (y55.2.2.1)),(sV (y55.2.2.2.1)),(iV (y55.2.2.2.2.1)),(iV (y55.2.2.2.2.2.1)),(iV (y55.2.2.2.2.2.2))]]))] fOk23 wants_none rfl (evm_cons rfl (evm_cons rfl (evm_cons rfl evm_nil))) (.cons (Sub.ptr rfl rfl) (.cons (Sub.imm (Imm.con _)) (.cons (Sub.imm (Imm.con _)) .nil))) (.cons rfl (ObSub.box (.cons (Sub.imm (Imm.con _)) (.cons (Sub.imm (Imm.con _)) (.cons (Sub.imm (Imm.con _)) (.cons (Sub.imm (Imm.con _)) (.cons (Sub.imm (Imm.con _)) (.cons (Sub.imm (Imm.con _)) (.cons (Sub.imm (Imm.con _)) .nil)))))))) .nil) (W23 F 1 ([119,97,105,118,101]:List UInt8) (Tpolicy_reader.mk a1 n48 (Tpolicy_token.mk n49 s50 n51) n52 n53) y55 hx56) rfl rfl rfl rfl (Sub.immT (Imm.con _)) (.cons rfl (ObSub.box (.cons (Sub.immT (Imm.con _)) (.cons (Sub.immT (Imm.con _)) (.cons (Sub.immT (Imm.con _)) (.cons (Sub.immT (Imm.con _)) (.cons (Sub.immT (Imm.con _)) (.cons (Sub.immT (Imm.con _)) (.cons (Sub.immT (Imm.con _)) .nil)))))))) .nil) _ rfl ?_
  refine fo (rn 1 rfl ?_)
  refine spC h rfl (fun hb57 h=>?_) (fun hb57 h=>?_)
  ·obtain⟨y58,hx59,h⟩:=bind_some h
   refine rn 2 rfl ?_
   refine ck h (fun hc60 h=>?_)
   refine awp_ghost ghost_res ?_
   refine awp_ghost ghost_res ?_
   refine fa ?_
   refine dr mixed (vs 3 rfl (xD (OD.mk [(30,(V.ptr 1 7 0 0))] [(1,(Ob.arr 73 7 [[(sV a1),(iV (y55.2.1)),(iV (y55.2.2.1)),(sV (y55.2.2.2.1)),(iV (y55.2.2.2.2.1)),(iV (y55.2.2.2.2.2.1)),(iV (y55.2.2.2.2.2.2))]])),(5,Ob.res)] [(31,(V.agg [(sV (y58.2.2.2.2.2.2.1)),(sV (y58.2.2.2.2.2.2.2.1)),(iV (y58.2.2.2.2.2.2.2.2.1)),(iV (y58.2.2.2.2.2.2.2.2.2.1)),(sV (y58.2.2.2.2.2.2.2.2.2.2.1)),(iV (y58.2.2.2.2.2.2.2.2.2.2.2))]))] [(1,(Ob.arr 73 7 [[(sV a1),(iV (y58.1)),(iV (y58.2.1)),(sV (y58.2.2.1)),(iV (y58.2.2.2.1)),(iV (y58.2.2.2.2.1)),(iV (y58.2.2.2.2.2.1))]])),(5,Ob.dead)]) ⟨⟨rfl,trivial⟩,⟨rfl,rfl,trivial⟩⟩ (by exact fun S hn h hh=>aops_mcall_atH [5] hn (by8.2 ⟨hh.2.1,(fun _ hx=>nomatch hx)⟩) (V.agg [(sV (y58.2.2.2.2.2.2.1)),(sV (y58.2.2.2.2.2.2.2.1)),(iV (y58.2.2.2.2.2.2.2.2.1)),(iV (y58.2.2.2.2.2.2.2.2.2.1)),(sV (y58.2.2.2.2.2.2.2.2.2.2.1)),(iV (y58.2.2.2.2.2.2.2.2.2.2.2))]) [(V.ptr 1 7 0 0)] (fun i=>([1]:List Nat).getD i 0) (fun i=>([1,5]:List Nat).getD i 0) [(1,(Ob.arr 73 7 [[(sV a1),(iV (y58.1)),(iV (y58.2.1)),(sV (y58.2.2.1)),(iV (y58.2.2.2.1)),(iV (y58.2.2.2.2.1)),(iV (y58.2.2.2.2.2.1))]])),(5,Ob.dead)] fOk25 wants_none rfl (evm_cons h.1 evm_nil) (.cons (Sub.ptr rfl rfl) .nil) (HpSub.consE (id:=0) rfl hh.1 (ObSub.box (.cons (Sub.imm (Imm.con _)) (.cons (Sub.imm (Imm.con _)) (.cons (Sub.imm (Imm.con _)) (.cons (Sub.imm (Imm.con _)) (.cons (Sub.imm (Imm.con _)) (.cons (Sub.imm (Imm.con _)) (.cons (Sub.imm (Imm.con _)) .nil)))))))) .nil) (W25 F (Tpolicy_reader.mk a1 (y55.2.1) (Tpolicy_token.mk (y55.2.2.1) (y55.2.2.2.1) (y55.2.2.2.2.1)) (y55.2.2.2.2.2.1) (y55.2.2.2.2.2.2)) y58 hx59) rfl rfl rfl rfl (Sub.immT (Imm.agg (.cons (Imm.con _) (.cons (Imm.con _) (.cons (Imm.con _) (.cons (Imm.con _) (.cons (Imm.con _) (.cons (Imm.con _) .nil)))))))) (.cons rfl (ObSub.box (.cons (Sub.immT (Imm.con _)) (.cons (Sub.immT (Imm.con _)) (.cons (Sub.immT (Imm.con _)) (.cons (Sub.immT (Imm.con _)) (.cons (Sub.immT (Imm.con _)) (.cons (Sub.immT (Imm.con _)) (.cons (Sub.immT (Imm.con _)) .nil)))))))) (.cons rfl ObSub.deadT .nil)) (aops_nil ⟨rfl,rfl⟩)) rfl (xD (OD.mk [(31,(V.agg [(sV (y58.2.2.2.2.2.2.1)),(sV (y58.2.2.2.2.2.2.2.1)),(iV (y58.2.2.2.2.2.2.2.2.1)),(iV (y58.2.2.2.2.2.2.2.2.2.1)),(sV (y58.2.2.2.2.2.2.2.2.2.2.1)),(iV (y58.2.2.2.2.2.2.2.2.2.2.2))]))] [] [(32,(V.lst 6 (([(TWaiver.mk (y58.2.2.2.2.2.2.1) (y58.2.2.2.2.2.2.2.1) (y58.2.2.2.2.2.2.2.2.1) (y58.2.2.2.2.2.2.2.2.2.1) (y58.2.2.2.2.2.2.2.2.2.2.1) (y58.2.2.2.2.2.2.2.2.2.2.2))]:List TWaiver).map encTWaiver)))] []) ⟨⟨rfl,trivial⟩,trivial⟩ (by exact fun S hn h hh=>aops_buildSlice_imm [(0,(V.agg [(sV (y58.2.2.2.2.2.2.1)),(sV (y58.2.2.2.2.2.2.2.1)),(iV (y58.2.2.2.2.2.2.2.2.1)),(iV (y58.2.2.2.2.2.2.2.2.2.1)),(sV (y58.2.2.2.2.2.2.2.2.2.2.1)),(iV (y58.2.2.2.2.2.2.2.2.2.2.2))]))] [[(sV (y58.2.2.2.2.2.2.1)),(sV (y58.2.2.2.2.2.2.2.1)),(iV (y58.2.2.2.2.2.2.2.2.1)),(iV (y58.2.2.2.2.2.2.2.2.2.1)),(sV (y58.2.2.2.2.2.2.2.2.2.2.1)),(iV (y58.2.2.2.2.2.2.2.2.2.2.2))]] tEl23 tZ52 wants_none rfl rfl rfl rfl (evp_cons h.1 evp_nil) rfl rfl (by simp) (imms_rows (.cons (.cons (Imm.con _) (.cons (Imm.con _) (.cons (Imm.con _) (.cons (Imm.con _) (.cons (Imm.con _) (.cons (Imm.con _) .nil)))))) .nil)) rfl (aops_nil ⟨rfl,rfl⟩)) rfl (xD (OD.mk [(29,(V.own 4 l54.length)),(32,(V.lst 6 (([(TWaiver.mk (y58.2.2.2.2.2.2.1) (y58.2.2.2.2.2.2.2.1) (y58.2.2.2.2.2.2.2.2.1) (y58.2.2.2.2.2.2.2.2.2.1) (y58.2.2.2.2.2.2.2.2.2.2.1) (y58.2.2.2.2.2.2.2.2.2.2.2))]:List TWaiver).map encTWaiver)))] [(4,(Ob.arr 52 6 (l54.map encTWaiver))),(6,Ob.res)] [(33,(V.own 6 (l54++([(TWaiver.mk (y58.2.2.2.2.2.2.1) (y58.2.2.2.2.2.2.2.1) (y58.2.2.2.2.2.2.2.2.1) (y58.2.2.2.2.2.2.2.2.2.1) (y58.2.2.2.2.2.2.2.2.2.2.1) (y58.2.2.2.2.2.2.2.2.2.2.2))]:List TWaiver)).length))] [(6,(Ob.arr 52 6 ((l54++([(TWaiver.mk (y58.2.2.2.2.2.2.1) (y58.2.2.2.2.2.2.2.1) (y58.2.2.2.2.2.2.2.2.1) (y58.2.2.2.2.2.2.2.2.2.1) (y58.2.2.2.2.2.2.2.2.2.2.1) (y58.2.2.2.2.2.2.2.2.2.2.2))]:List TWaiver)).map encTWaiver))),(4,Ob.dead)]) ⟨⟨rfl,rfl,trivial⟩,⟨rfl,rfl,trivial⟩⟩ (by exact fun S hn h hh=>aops_append_at 6 rfl hn hh.2.1 (([(TWaiver.mk (y58.2.2.2.2.2.2.1) (y58.2.2.2.2.2.2.2.1) (y58.2.2.2.2.2.2.2.2.1) (y58.2.2.2.2.2.2.2.2.2.1) (y58.2.2.2.2.2.2.2.2.2.2.1) (y58.2.2.2.2.2.2.2.2.2.2.2))]:List TWaiver).map encTWaiver) ((l54++([(TWaiver.mk (y58.2.2.2.2.2.2.1) (y58.2.2.2.2.2.2.2.1) (y58.2.2.2.2.2.2.2.2.1) (y58.2.2.2.2.2.2.2.2.2.1) (y58.2.2.2.2.2.2.2.2.2.2.1) (y58.2.2.2.2.2.2.2.2.2.2.2))]:List TWaiver)).map encTWaiver) tEl23 tIsSl23 rfl rfl wants_none h.1 hh.1 (by simp) h.2.1 (.lst (rows_one one_encTWaiver)) (map_snoc encTWaiver l54 ([(TWaiver.mk (y58.2.2.2.2.2.2.1) (y58.2.2.2.2.2.2.2.1) (y58.2.2.2.2.2.2.2.2.1) (y58.2.2.2.2.2.2.2.2.2.1) (y58.2.2.2.2.2.2.2.2.2.2.1) (y58.2.2.2.2.2.2.2.2.2.2.2))]:List TWaiver)) (bb8 ..) hc60 rfl (aops_nil ⟨rfl,rfl⟩)) rfl (vs 2 rfl .nil))))) (by kernel_rfl) ?_
   refine rn 1 rfl ?_
   exact jX ((y58.1),(y58.2.1),(y58.2.2.1),(y58.2.2.2.1),(y58.2.2.2.2.1),(y58.2.2.2.2.2.1),(l54++([(TWaiver.mk (y58.2.2.2.2.2.2.1) (y58.2.2.2.2.2.2.2.1) (y58.2.2.2.2.2.2.2.2.1) (y58.2.2.2.2.2.2.2.2.2.1) (y58.2.2.2.2.2.2.2.2.2.2.1) (y58.2.2.2.2.2.2.2.2.2.2.2))]:List TWaiver))) h (gr [0,1,2,3,6] rfl (hB rfl rfl rfl (hB rfl rfl rfl (hB rfl rfl rfl (hR rfl rfl (hR rfl rfl .nil))))) rfl)
  refine rn 1 rfl ?_
  exact jX ((y55.2.1),(y55.2.2.1),(y55.2.2.2.1),(y55.2.2.2.2.1),(y55.2.2.2.2.2.1),(y55.2.2.2.2.2.2),l54) h (gr [0,1,2,3,4] rfl (hB rfl rfl rfl (hB rfl rfl rfl (hB rfl rfl rfl (hR rfl rfl (hR rfl rfl .nil))))) rfl)
 rintro⟨n34,n35,s36,n37,n38,n39,l40⟩ h
 refine rn 10 rfl ?_
 refine jK h (fun(p:Int×Int)=>(⟨[(2,(V.ptr 0 2 0 0)),(5,(V.ptr 1 7 0 0)),(6,(V.ptr 2 2 0 0))],[(0,(Ob.arr 25 2 [[nV,nV]])),(1,(Ob.arr 73 7 [[(sV a1),(iV n34),(iV n35),(sV s36),(iV n37),(iV (p.1)),(iV (p.2))]])),(2,(Ob.arr 25 2 [[(V.own 3 l12.length),(V.own 4 l40.length)]])),(3,(Ob.arr 44 9 (l12.map encTPolicyRule))),(4,(Ob.arr 52 6 (l40.map encTWaiver)))],5⟩:St)) (fun k61 p=>k61 p.1 p.2=some r) (fun k61 h=>?_) ?_
 ·refine spC h rfl (fun hb64 h=>?_) (fun hb64 h=>?_)
  ·obtain⟨y65,hx66,h⟩:=bind_some h
   refine rn 7 rfl ?_
   refine aops_mcallS (V.tup []) [(V.ptr 1 7 0 0),(iV n37),(iV 6)] (fun i=>([1]:List Nat).getD i 0) (fun i=>([1]:List Nat).getD i 0) 5 5 [(1,(Ob.arr 73 7 [[(sV a1),(iV n34),(iV n35),(sV s36),(iV n37),(iV (y65.1)),(iV (y65.2))]]))] fOk26 wants_none rfl (evm_cons rfl (evm_cons rfl (evm_cons rfl evm_nil))) (.cons (Sub.ptr rfl rfl) (.cons (Sub.imm (Imm.con _)) (.cons (Sub.imm (Imm.con _)) .nil))) (.cons rfl (ObSub.box (.cons (Sub.imm (Imm.con _)) (.cons (Sub.imm (Imm.con _)) (.cons (Sub.imm (Imm.con _)) (.cons (Sub.imm (Imm.con _)) (.cons (Sub.imm (Imm.con _)) (.cons (Sub.imm (Imm.con _)) (.cons (Sub.imm (Imm.con _)) .nil)))))))) .nil) (W26 F n37 6 (Tpolicy_reader.mk a1 n34 (Tpolicy_token.mk n35 s36 n37) n38 n39) y65 hx66) rfl rfl rfl rfl (Sub.immT (Imm.tup .nil)) (.cons rfl (ObSub.box (.cons (Sub.immT (Imm.con _)) (.cons (Sub.immT (Imm.con _)) (.cons (Sub.immT (Imm.con _)) (.cons (Sub.immT (Imm.con _)) (.cons (Sub.immT (Imm.con _)) (.cons (Sub.immT (Imm.con _)) (.cons (Sub.immT (Imm.con _)) .nil)))))))) .nil) _ rfl ?_
   refine fo (rn 1 rfl ?_)
   exact jX ((y65.1),(y65.2)) h (gr [0,1,2,3,4] rfl (hB rfl rfl rfl (hB rfl rfl rfl (hB rfl rfl rfl (hR rfl rfl (hR rfl rfl .nil))))) rfl)
  refine rn 1 rfl ?_
  exact jX (n38,n39) h (gr [0,1,2,3,4] rfl (hB rfl rfl rfl (hB rfl rfl rfl (hB rfl rfl rfl (hR rfl rfl (hR rfl rfl .nil))))) rfl)
 rintro⟨n62,n63⟩ h
 refine rn 9 rfl ?_
 refine spC h rfl (fun hb67 h=>?_) (fun hb67 h=>?_)
 ·refine rn 1 rfl ?_
  refine dr mixed (vs 12 rfl .nil) (by kernel_rfl) ?_
  exact rt h rfl
 obtain⟨y68,hx69,h⟩:=bind_some h
 refine rn 5 rfl ?_
 refine aops_lend_call (iV y68) [(V.agg [(V.lst 9 (l12.map encTPolicyRule)),(V.lst 6 (l40.map encTWaiver))])] fOk9 (Ghost.trans (ghost_frzV 3 62 (V.agg [(V.lst 9 (l12.map encTPolicyRule)),(V.own 4 l40.length)]) rfl (rows_imm imms_encTPolicyRule) rfl (Sub.agg (.cons (Sub.frzAll (rows:=l12.map encTPolicyRule) (bb8 ..).symm) (.cons Sub.keep .nil)))) (ghost_frzV 4 62 (V.agg [(V.lst 9 (l12.map encTPolicyRule)),(V.lst 6 (l40.map encTWaiver))]) rfl (rows_imm imms_encTWaiver) rfl (Sub.agg (.cons Sub.keep (.cons (Sub.frzAll (rows:=l40.map encTWaiver) (bb8 ..).symm) .nil))))) (Flat.con _) wants_none (evm_cons rfl evm_nil) (.cons (Imm.agg (.cons (Imm.lst _ _) (.cons (Imm.lst _ _) .nil))) .nil) (W9 F (TPolicy.mk l12 l40) y68 hx69) rfl ?_
 refine fo (rn 7 rfl ?_)
 refine spC h rfl (fun hb70 h=>?_) (fun hb70 h=>?_)
 ·refine rn 8 rfl ?_
  exact rt h rfl
 refine rn 8 rfl ?_
 refine awp_ghost (ghost_frzC 3 0 (Ob.arr 25 2 [[(V.lst 9 (l12.map encTPolicyRule)),(V.own 4 l40.length)]]) rfl (rows_imm imms_encTPolicyRule) (ObSub.box (.cons (Sub.frzAll (rows:=l12.map encTPolicyRule) (bb8 ..).symm) (.cons Sub.keep .nil)))) ?_
 refine awp_ghost (ghost_frzC 4 0 (Ob.arr 25 2 [[(V.lst 9 (l12.map encTPolicyRule)),(V.lst 6 (l40.map encTWaiver))]]) rfl (rows_imm imms_encTWaiver) (ObSub.box (.cons Sub.keep (.cons (Sub.frzAll (rows:=l40.map encTWaiver) (bb8 ..).symm) .nil)))) ?_
 refine fa ?_
 exact rt h rfl
theorem W87(F:Nat)(a1:(List (List UInt8)))(a2:(List (List UInt8)))(r:Bool)(h:M87 F a1 a2=some r):PureG gl Tryz.prog 87 [(V.lst 1 (a1.map encS)),(V.lst 1 (a2.map encS))] (bV r):=by
 refine pin (fun r=>(bV r)) r rfl Tryz.func87 rfl rfl rfl rfl rfl (fun w0 m0 hg=>?_)
 unfold M87 at h
 refine rn 8 rfl ?_
 refine ln rfl rfl ?_
 refine rn 1 rfl ?_
 refine ln rfl rfl ?_
 refine rn 2 rfl ?_
 refine spC h rfl (fun hb3 h=>?_) (fun hb3 h=>?_)
 ·refine rn 4 rfl ?_
  exact rt h rfl
 refine rn 5 rfl ?_
 refine ln rfl rfl ?_
 refine rn 2 rfl ?_
 refine jK h (fun _:Unit=>(⟨[],[],0⟩:St)) (fun k4 (_:Unit)=>k4=some r) (fun k4 h=>?_) ?_
 ·refine rn 1 rfl ?_
  refine wl (A:=a1) 0 rfl (fun hA13=>?_)
  refine lC (fun(p:Int)=>(⟨[(0,(V.lst 1 (a1.map encS))),(1,(V.lst 1 (a2.map encS))),(12,(iV ((a1.length:Nat):Int))),(13,(iV p))],[],0⟩:St)) (fun n p=>RG a1 (fun tl nn=>M87_L1 F a2 k4 tl nn=some r) n p) (fun p h=>RG.zero h) (a1.length+1) 0 (RG.start h) (g0 rfl rfl) (fun n n6 h=>?_)
  refine rn 5 rfl ?_
  refine spL rfl (fun hb7=>?_) (fun hb7=>?_)
  ·obtain⟨x8,tl,hx9,h,hk1⟩:=RG.t hA13 h hb7
   unfold M87_L1 at h
   obtain⟨x10,hx11,h⟩:=bind_some h
   refine rn 9 rfl ?_
   refine dr mixed (vs 2 rfl (iD hx9 rfl rfl rfl (vs 3 rfl (iD hx11 rfl rfl rfl (vs 2 rfl .nil))))) (by kernel_rfl) ?_
   refine spC h rfl (fun hb12 h=>?_) (fun hb12 h=>?_)
   ·refine rn 4 rfl ?_
    exact rt h rfl
   refine rn 6 rfl ?_
   exact jX (w64 (n6+1)) (hk1 _ h) (g0 rfl rfl)
  replace h:=RG.f h hb7
  unfold M87_L1 at h
  refine rn 1 rfl ?_
  exact jX () h (g0 rfl rfl)
 intro _ h
 refine rn 4 rfl ?_
 exact rt h rfl
theorem W88(R58:TTest->TTest->Option Bool)(hR58:∀(a1:TTest) (a2:TTest) (r:Bool),R58 a1 a2=some r->PureG gl Tryz.prog 58 [(V.agg (encTTest a1)),(V.agg (encTTest a2))] (bV r))(F:Nat)(a1:(List KRow))(a2:(List KRow))(r:Bool)(h:M88 R58 F a1 a2=some r):PureG gl Tryz.prog 88 [(V.lst 6 (a1.map KRow.row)),(V.lst 6 (a2.map KRow.row)),(V.fn (.func 58) [] [])] (bV r):=by
 refine pin (fun r=>(bV r)) r rfl Tryz.func88 rfl rfl rfl rfl rfl (fun w0 m0 hg=>?_)
 unfold M88 at h
 refine rn 8 rfl ?_
 refine ln rfl rfl ?_
 refine rn 1 rfl ?_
 refine ln rfl rfl ?_
 refine rn 2 rfl ?_
 refine spC h rfl (fun hb3 h=>?_) (fun hb3 h=>?_)
 ·refine rn 4 rfl ?_
  exact rt h rfl
 refine rn 5 rfl ?_
 refine ln rfl rfl ?_
 refine rn 2 rfl ?_
 refine jK h (fun _:Unit=>(⟨[],[],0⟩:St)) (fun k4 (_:Unit)=>k4=some r) (fun k4 h=>?_) ?_
 ·refine rn 1 rfl ?_
  refine wl (A:=a1) 0 rfl (fun hA19=>?_)
  refine lC (fun(p:Int)=>(⟨[(1,(V.lst 6 (a2.map KRow.row))),(2,(V.fn (.func 58) [] [])),(15,(V.lst 6 (a1.map KRow.row))),(16,(iV ((a1.length:Nat):Int))),(17,(iV p))],[],0⟩:St)) (fun n p=>RG a1 (fun tl nn=>M88_L1 R58 F a2 k4 tl nn=some r) n p) (fun p h=>RG.zero h) (a1.length+1) 0 (RG.start h) (g0 rfl rfl) (fun n n6 h=>?_)
  refine rn 5 rfl ?_
  refine spL rfl (fun hb7=>?_) (fun hb7=>?_)
  ·obtain⟨x8,tl,hx9,h,hk1⟩:=RG.t hA19 h hb7
   unfold M88_L1 at h
   refine rn 6 rfl ?_
   refine ixh hx9 rfl rfl ?_
   obtain⟨y10,hx11,h⟩:=bind_some h
   refine kroO 20 hx11 rfl ?_
   refine rn 9 rfl ?_
   refine ixl h rfl rfl (fun x12 hx13 h=>?_)
   obtain⟨y14,hx15,h⟩:=bind_some h
   refine kroO 24 hx15 rfl ?_
   refine rn 9 rfl ?_
   refine cl h rfl rfl rfl (hR58 _ _) rfl (fun y16 hx17 h=>?_)
   refine rn 2 rfl ?_
   refine spC h rfl (fun hb18 h=>?_) (fun hb18 h=>?_)
   ·refine rn 4 rfl ?_
    exact rt h rfl
   refine rn 6 rfl ?_
   exact jX (w64 (n6+1)) (hk1 _ h) (g0 rfl rfl)
  replace h:=RG.f h hb7
  unfold M88_L1 at h
  refine rn 1 rfl ?_
  exact jX () h (g0 rfl rfl)
 intro _ h
 refine rn 4 rfl ?_
 exact rt h rfl
theorem W58_B(R58:TTest->TTest->Option Bool)(hR58:∀(a1:TTest) (a2:TTest) (r:Bool),R58 a1 a2=some r->PureG gl Tryz.prog 58 [(V.agg (encTTest a1)),(V.agg (encTTest a2))] (bV r))(F:Nat)(a1:TTest)(a2:TTest)(r:Bool)(h:M58_B R58 F a1 a2=some r):PureG gl Tryz.prog 58 [(V.agg (encTTest a1)),(V.agg (encTTest a2))] (bV r):=by
 refine pin (fun r=>(bV r)) r rfl Tryz.func58 rfl rfl rfl rfl rfl (fun w0 m0 hg=>?_)
 unfold M58_B at h
 refine rn 14 rfl ?_
 refine spO 10 h rfl (fun hb3 h=>?_) (fun hb3 h=>?_)
 ·refine rn 7 rfl ?_
  refine spO 17 h rfl (fun hb4 h=>?_) (fun hb4 h=>?_)
  ·refine rn 4 rfl ?_
   refine cl h rfl rfl rfl (W87 _ _ _) rfl (fun y5 hx6 h=>?_)
   refine rn 2 rfl ?_
   refine spO 24 h rfl (fun hb7 h=>?_) (fun hb7 h=>?_)
   ·refine rn 7 rfl ?_
    refine spO 31 h rfl (fun hb8 h=>?_) (fun hb8 h=>?_)
    ·refine rn 7 rfl ?_
     refine spO 38 h rfl (fun hb9 h=>?_) (fun hb9 h=>?_)
     ·refine rn 4 rfl ?_
      refine cl h rfl rfl rfl (W88 R58 hR58 _ _ _) rfl (fun y10 hx11 h=>?_)
      refine rn 3 rfl ?_
      exact rt h rfl
     refine rn 8 rfl ?_
     exact rt h rfl
    refine rn 15 rfl ?_
    exact rt h rfl
   refine rn 22 rfl ?_
   exact rt h rfl
  refine rn 29 rfl ?_
  exact rt h rfl
 refine rn 36 rfl ?_
 exact rt h rfl
theorem W58:∀(F:Nat) (a1:TTest) (a2:TTest) (r:Bool) (h:M58 F a1 a2=some r),PureG gl Tryz.prog 58 [(V.agg (encTTest a1)),(V.agg (encTTest a2))] (bV r):=by
 intro F
 induction F with
 |zero=>intros;simp[M58] at *
 |succ F ih=>exact fun a1 a2 r h=>W58_B (M58 F) ih F a1 a2 r h
theorem W28(F:Nat)(a1:TPolicyRule)(a2:TPolicyRule)(r:Bool)(h:M28 F a1 a2=some r):PureG gl Tryz.prog 28 [(V.agg (encTPolicyRule a1)),(V.agg (encTPolicyRule a2))] (bV r):=by
 refine pin (fun r=>(bV r)) r rfl Tryz.func28 rfl rfl rfl rfl rfl (fun w0 m0 hg=>?_)
 unfold M28 at h
 refine rn 14 rfl ?_
 refine spO 10 h rfl (fun hb3 h=>?_) (fun hb3 h=>?_)
 ·refine rn 7 rfl ?_
  refine spO 17 h rfl (fun hb4 h=>?_) (fun hb4 h=>?_)
  ·refine rn 7 rfl ?_
   refine spO 24 h rfl (fun hb5 h=>?_) (fun hb5 h=>?_)
   ·refine rn 4 rfl ?_
    refine cl h rfl rfl rfl (W58 _ _ _) rfl (fun y6 hx7 h=>?_)
    refine rn 3 rfl ?_
    exact rt h rfl
   refine rn 8 rfl ?_
   exact rt h rfl
  refine rn 15 rfl ?_
  exact rt h rfl
 refine rn 22 rfl ?_
 exact rt h rfl
theorem W27(F:Nat)(a1:(List TPolicyRule))(a2:(List TPolicyRule))(r:Bool)(h:M27 F a1 a2=some r):PureG gl Tryz.prog 27 [(V.lst 9 (a1.map encTPolicyRule)),(V.lst 9 (a2.map encTPolicyRule)),(V.fn (.func 28) [] [])] (bV r):=by
 refine pin (fun r=>(bV r)) r rfl Tryz.func27 rfl rfl rfl rfl rfl (fun w0 m0 hg=>?_)
 unfold M27 at h
 refine rn 8 rfl ?_
 refine ln rfl rfl ?_
 refine rn 1 rfl ?_
 refine ln rfl rfl ?_
 refine rn 2 rfl ?_
 refine spC h rfl (fun hb3 h=>?_) (fun hb3 h=>?_)
 ·refine rn 4 rfl ?_
  exact rt h rfl
 refine rn 5 rfl ?_
 refine ln rfl rfl ?_
 refine rn 2 rfl ?_
 refine jK h (fun _:Unit=>(⟨[],[],0⟩:St)) (fun k4 (_:Unit)=>k4=some r) (fun k4 h=>?_) ?_
 ·refine rn 1 rfl ?_
  refine wl (A:=a1) 0 rfl (fun hA15=>?_)
  refine lC (fun(p:Int)=>(⟨[(1,(V.lst 9 (a2.map encTPolicyRule))),(2,(V.fn (.func 28) [] [])),(15,(V.lst 9 (a1.map encTPolicyRule))),(16,(iV ((a1.length:Nat):Int))),(17,(iV p))],[],0⟩:St)) (fun n p=>RG a1 (fun tl nn=>M27_L1 F a2 k4 tl nn=some r) n p) (fun p h=>RG.zero h) (a1.length+1) 0 (RG.start h) (g0 rfl rfl) (fun n n6 h=>?_)
  refine rn 5 rfl ?_
  refine spL rfl (fun hb7=>?_) (fun hb7=>?_)
  ·obtain⟨x8,tl,hx9,h,hk1⟩:=RG.t hA15 h hb7
   unfold M27_L1 at h
   refine rn 6 rfl ?_
   refine ixh hx9 rfl rfl ?_
   refine rn 9 rfl ?_
   refine ixl h rfl rfl (fun x10 hx11 h=>?_)
   refine rn 9 rfl ?_
   refine cl h rfl rfl rfl (W28 _ _ _) rfl (fun y12 hx13 h=>?_)
   refine rn 2 rfl ?_
   refine spC h rfl (fun hb14 h=>?_) (fun hb14 h=>?_)
   ·refine rn 4 rfl ?_
    exact rt h rfl
   refine rn 6 rfl ?_
   exact jX (w64 (n6+1)) (hk1 _ h) (g0 rfl rfl)
  replace h:=RG.f h hb7
  unfold M27_L1 at h
  refine rn 1 rfl ?_
  exact jX () h (g0 rfl rfl)
 intro _ h
 refine rn 4 rfl ?_
 exact rt h rfl
theorem W29(F:Nat)(a1:(List TWaiver))(a2:(List TWaiver))(r:Bool)(h:M29 F a1 a2=some r):PureG gl Tryz.prog 29 [(V.lst 6 (a1.map encTWaiver)),(V.lst 6 (a2.map encTWaiver))] (bV r):=by
 refine pin (fun r=>(bV r)) r rfl Tryz.func29 rfl rfl rfl rfl rfl (fun w0 m0 hg=>?_)
 unfold M29 at h
 refine rn 8 rfl ?_
 refine ln rfl rfl ?_
 refine rn 1 rfl ?_
 refine ln rfl rfl ?_
 refine rn 2 rfl ?_
 refine spC h rfl (fun hb3 h=>?_) (fun hb3 h=>?_)
 ·refine rn 4 rfl ?_
  exact rt h rfl
 refine rn 5 rfl ?_
 refine ln rfl rfl ?_
 refine rn 2 rfl ?_
 refine jK h (fun _:Unit=>(⟨[],[],0⟩:St)) (fun k4 (_:Unit)=>k4=some r) (fun k4 h=>?_) ?_
 ·refine rn 1 rfl ?_
  refine wl (A:=a1) 0 rfl (fun hA13=>?_)
  refine lC (fun(p:Int)=>(⟨[(0,(V.lst 6 (a1.map encTWaiver))),(1,(V.lst 6 (a2.map encTWaiver))),(12,(iV ((a1.length:Nat):Int))),(13,(iV p))],[],0⟩:St)) (fun n p=>RG a1 (fun tl nn=>M29_L1 F a2 k4 tl nn=some r) n p) (fun p h=>RG.zero h) (a1.length+1) 0 (RG.start h) (g0 rfl rfl) (fun n n6 h=>?_)
  refine rn 5 rfl ?_
  refine spL rfl (fun hb7=>?_) (fun hb7=>?_)
  ·obtain⟨x8,tl,hx9,h,hk1⟩:=RG.t hA13 h hb7
   unfold M29_L1 at h
   obtain⟨x10,hx11,h⟩:=bind_some h
   refine rn 9 rfl ?_
   refine dr mixed (vs 2 rfl (iD hx9 rfl rfl rfl (vs 3 rfl (iD hx11 rfl rfl rfl (vs 1 rfl (xD (OD.mk [(19,(V.agg (encTWaiver x8))),(23,(V.agg (encTWaiver x10)))] [] [(24,(bV (!(decide (x8=x10)))))] []) ⟨⟨rfl,rfl,trivial⟩,trivial⟩ (by exact fun S hn h hh=>aops_eqS true (xs:=cv52 x8) (ys:=cv52 x10) (b:=(decide (x8=x10))) eqk52 ⟨_,rfl⟩ ⟨_,rfl⟩ (eq_b cv52 _ _ (inj_cv52 _ _)) tEqG52 wants_none h.1 h.2.1 rfl (aops_nil ⟨rfl,rfl⟩)) rfl .nil)))))) (by kernel_rfl) ?_
   refine spC h rfl (fun hb12 h=>?_) (fun hb12 h=>?_)
   ·refine rn 4 rfl ?_
    exact rt h rfl
   refine rn 6 rfl ?_
   exact jX (w64 (n6+1)) (hk1 _ h) (g0 rfl rfl)
  replace h:=RG.f h hb7
  unfold M29_L1 at h
  refine rn 1 rfl ?_
  exact jX () h (g0 rfl rfl)
 intro _ h
 refine rn 4 rfl ?_
 exact rt h rfl
theorem W8(F:Nat)(a1:TPolicy)(a2:TPolicy)(r:Bool)(h:M8 F a1 a2=some r):PureG gl Tryz.prog 8 [(V.agg (encTPolicy a1)),(V.agg (encTPolicy a2))] (bV r):=by
 refine pin (fun r=>(bV r)) r rfl Tryz.func8 rfl rfl rfl rfl rfl (fun w0 m0 hg=>?_)
 unfold M8 at h
 refine rn 12 rfl ?_
 refine cl h rfl rfl rfl (W27 _ _ _) rfl (fun y3 hx4 h=>?_)
 refine rn 1 rfl ?_
 refine spO 10 h rfl (fun hb5 h=>?_) (fun hb5 h=>?_)
 ·refine rn 4 rfl ?_
  refine cl h rfl rfl rfl (W29 _ _ _) rfl (fun y6 hx7 h=>?_)
  refine rn 3 rfl ?_
  exact rt h rfl
 refine rn 8 rfl ?_
 exact rt h rfl
theorem W3(F:Nat)(a1:TPolicy)(r:Bool)(h:M3 F a1=some r):PureG gl Tryz.prog 3 [(V.agg (encTPolicy a1))] (bV r):=by
 refine pin (fun r=>(bV r)) r rfl Tryz.func3 rfl rfl rfl rfl rfl (fun w0 m0 hg=>?_)
 unfold M3 at h
 refine rn 8 rfl ?_
 refine cl h rfl rfl rfl (W4 _ _) rfl (fun y2 hx3 h=>?_)
 refine rn 9 rfl ?_
 refine cl h rfl rfl rfl (W5 _ _) rfl (fun y4 hx5 h=>?_)
 refine rn 13 rfl ?_
 refine spO 23 h rfl (fun hb6 h=>?_) (fun hb6 h=>?_)
 ·refine rn 10 rfl ?_
  exact rt h rfl
 refine rn 5 rfl ?_
 refine spC h rfl (fun hb7 h=>?_) (fun hb7 h=>?_)
 ·refine rn 4 rfl ?_
  exact rt h rfl
 refine rn 7 rfl ?_
 refine spC h rfl (fun hb8 h=>?_) (fun hb8 h=>?_)
 ·refine rn 2 rfl ?_
  refine cl h rfl rfl rfl (W6 _) rfl (fun y9 hx10 h=>?_)
  refine rn 2 rfl ?_
  exact rt h rfl
 refine rn 4 rfl ?_
 refine cl h rfl rfl rfl (W7 _ _) rfl (fun y11 hx12 h=>?_)
 refine rn 13 rfl ?_
 refine cl h rfl rfl rfl (W8 _ _ _) rfl (fun y13 hx14 h=>?_)
 refine rn 1 rfl ?_
 refine spO 40 h rfl (fun hb15 h=>?_) (fun hb15 h=>?_)
 ·refine rn 4 rfl ?_
  refine spO 44 h rfl (fun hb16 h=>?_) (fun hb16 h=>?_)
  ·refine rn 4 rfl ?_
   refine spO 48 h rfl (fun hb17 h=>?_) (fun hb17 h=>?_)
   ·refine cl h rfl rfl rfl (W6 _) rfl (fun y18 hx19 h=>?_)
    refine rn 3 rfl ?_
    exact rt h rfl
   refine rn 4 rfl ?_
   exact rt h rfl
  refine rn 8 rfl ?_
  exact rt h rfl
 refine rn 12 rfl ?_
 exact rt h rfl
end Go.Proofs.YtppfkkkifdbnaaaGreatDoor
