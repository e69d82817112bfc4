/- Part of the proof: D5W5b. -/
import Derived.Test.YtelmfadihfcgnaaGreatDoorDD5M
import Derived.Test.YtelmfadihfcgnaaGreatDoorDD5Lay
import Derived.Test.YtelmfadihfcgnaaGreatDoorDD5W5a
import Derived.KernelRfl
namespace Go.Proofs.YtelmfadihfcgnaaGreatDoor
open Go Go.Pv
set_option linter.unusedVariables false
set_option maxRecDepth 100000
theorem W36_B(R36:Int->(List ((List UInt8)×(List Tpolicy_value)))->(List KV)->Int->(List (List UInt8))->(List ((List UInt8)×Tpolicy_value))->(List ((List UInt8)×Bool))->Option (Bool×(List ((List UInt8)×Tpolicy_value))×(List ((List UInt8)×Bool))))(hR36:∀(a1:Int) (a2:(List ((List UInt8)×(List Tpolicy_value)))) (a3:List KV) (a4:Int) (a5:List (List UInt8)) (a6:List ((List UInt8)×Tpolicy_value)) (a7:List ((List UInt8)×Bool)) (r:(Bool×(List ((List UInt8)×Tpolicy_value))×(List ((List UInt8)×Bool)))),R36 a1 a2 a3 a4 a5 a6 a7=some r->Mut Tryz.prog 36 [(V.ptr 0 5 0 0),(iV a1)] 4 [(0,(Ob.arr 165 5 [[(V.own 1 a5.length),(V.imap (a2.map encM9_169)),(V.map 2),(V.map 3),(V.fn (.func 57) [] [(V.iptr [(V.lst 1 (a3.map KV.enc))] 0),(V.iptr [(iV a4)] 0)])]])),(1,(Ob.arr 9 1 (a5.map encS))),(2,(Ob.map (a6.map encM9_98))),(3,(Ob.map (a7.map encM9_4)))] (resV [(bV (r.1))]) 4 [(0,(Ob.arr 165 5 [[(V.own 1 a5.length),(V.imap (a2.map encM9_169)),(V.map 2),(V.map 3),(V.fn (.func 57) [] [(V.iptr [(V.lst 1 (a3.map KV.enc))] 0),(V.iptr [(iV a4)] 0)])]])),(1,(Ob.arr 9 1 (a5.map encS))),(2,(Ob.map ((r.2.1).map encM9_98))),(3,(Ob.map ((r.2.2).map encM9_4)))])(F:Nat)(a1:Int)(a2:(List ((List UInt8)×(List Tpolicy_value))))(a3:List KV)(a4:Int)(a5:List (List UInt8))(a6:List ((List UInt8)×Tpolicy_value))(a7:List ((List UInt8)×Bool))(r:(Bool×(List ((List UInt8)×Tpolicy_value))×(List ((List UInt8)×Bool))))(h:M36_B R36 F a1 a2 a3 a4 a5 a6 a7=some r):Mut Tryz.prog 36 [(V.ptr 0 5 0 0),(iV a1)] 4 [(0,(Ob.arr 165 5 [[(V.own 1 a5.length),(V.imap (a2.map encM9_169)),(V.map 2),(V.map 3),(V.fn (.func 57) [] [(V.iptr [(V.lst 1 (a3.map KV.enc))] 0),(V.iptr [(iV a4)] 0)])]])),(1,(Ob.arr 9 1 (a5.map encS))),(2,(Ob.map (a6.map encM9_98))),(3,(Ob.map (a7.map encM9_4)))] (resV [(bV (r.1))]) 4 [(0,(Ob.arr 165 5 [[(V.own 1 a5.length),(V.imap (a2.map encM9_169)),(V.map 2),(V.map 3),(V.fn (.func 57) [] [(V.iptr [(V.lst 1 (a3.map KV.enc))] 0),(V.iptr [(iV a4)] 0)])]])),(1,(Ob.arr 9 1 (a5.map encS))),(2,(Ob.map ((r.2.1).map encM9_98))),(3,(Ob.map ((r.2.2).map encM9_4)))]:=by
 refine mut_enter Tryz.func36 rfl rfl (l:=[.tmp 4]) rfl rfl [(0,(V.ptr 0 5 0 0)),(1,(iV a1))] rfl (fun w0 m0 β0 hg=>en ?_)
 unfold M36_B at h
 obtain⟨y34,hx35,h⟩:=bind_some h
 refine rn 6 rfl ?_
 refine dr mixed (vs 8 rfl (xD (OD.mk [(12,(V.fn (.func 57) [] [(V.iptr [(V.lst 1 (a3.map KV.enc))] 0),(V.iptr [(iV a4)] 0)])),(16,(V.agg [(V.map 2),(V.map 3)]))] [(0,(Ob.arr 165 5 [[(V.own 1 a5.length),(V.imap (a2.map encM9_169)),(V.map 2),(V.map 3),(V.fn (.func 57) [] [(V.iptr [(V.lst 1 (a3.map KV.enc))] 0),(V.iptr [(iV a4)] 0)])]])),(2,(Ob.map (a6.map encM9_98))),(3,(Ob.map (a7.map encM9_4)))] [(17,(iV y34))] []) ⟨⟨rfl,rfl,trivial⟩,⟨rfl,rfl,rfl,trivial⟩⟩ (by exact fun S hn h hh=>aops_lend_callv (iV y34) [(V.agg [(V.imap (a6.map encM9_98)),(V.imap (a7.map encM9_4))]),(V.iptr [(V.lst 1 (a3.map KV.enc))] 0),(V.iptr [(iV a4)] 0)] fOk57 (Ghost.trans (ghost_frzMx (es:=a6.map encM9_98) 2 hh.2.1 encM9_98_imm (.put (t:=16) h.2.1 (Sub.agg (.cons Sub.frzM (.cons Sub.keepM .nil))) .refl) (.put (t:=0) (v:=(Ob.arr 165 5 [[(V.own 1 a5.length),(V.imap (a2.map encM9_169)),(V.imap (a6.map encM9_98)),(V.map 3),(V.fn (.func 57) [] [(V.iptr [(V.lst 1 (a3.map KV.enc))] 0),(V.iptr [(iV a4)] 0)])]])) hh.1 (ObSub.box (.cons Sub.keepM (.cons Sub.keepM (.cons Sub.frzM (.cons Sub.keepM (.cons Sub.keepM .nil)))))) .refl)) (ghost_frzMx (es:=a7.map encM9_4) 3 hh.2.2.1 encM9_4_imm (.put (t:=16) rfl (Sub.agg (.cons Sub.keepM (.cons Sub.frzM .nil))) .refl) (.put (t:=0) (v:=(Ob.arr 165 5 [[(V.own 1 a5.length),(V.imap (a2.map encM9_169)),(V.imap (a6.map encM9_98)),(V.imap (a7.map encM9_4)),(V.fn (.func 57) [] [(V.iptr [(V.lst 1 (a3.map KV.enc))] 0),(V.iptr [(iV a4)] 0)])]])) rfl (ObSub.box (.cons Sub.keepM (.cons Sub.keepM (.cons Sub.keepM (.cons Sub.frzM (.cons Sub.keepM .nil)))))) .refl))) (Flat.con _) wants_none h.1 (evmc (evm_cons rfl evm_nil)) (.cons (Imm.agg (.cons (Imm.imap _) (.cons (Imm.imap _) .nil))) (.cons (Imm.iptr _ _) (.cons (Imm.iptr _ _) .nil))) (W57 F (Tpolicy_values.mk a6 (some a7)) a3 a4 y34 hx35) rfl (aops_nil ⟨rfl,rfl⟩)) rfl (vs 1 rfl .nil))) (by kernel_rfl) ?_
 refine rn 7 rfl ?_
 refine spC h rfl (fun hb36 h=>?_) (fun hb36 h=>?_)
 ·refine rn 4 rfl ?_
  replace h:=Option.some.inj h
  subst h
  exact wR ⟨.inl rfl,[(4,(bV true))],(gr [0,1,2,3] rfl (hB rfl rfl rfl (hR rfl rfl (hM rfl rfl (hM rfl rfl .nil)))) rfl),(.cons (.tmp rfl) .nil)⟩
 refine rn 5 rfl ?_
 refine spO 24 h rfl (fun hb37 h=>?_) (fun hb37 h=>?_)
 ·refine rn 15 rfl ?_
  replace h:=Option.some.inj h
  subst h
  exact wR ⟨.inl rfl,[(4,(bV false))],(gr [0,1,2,3] rfl (hB rfl rfl rfl (hR rfl rfl (hM rfl rfl (hM rfl rfl .nil)))) rfl),(.cons (.tmp rfl) .nil)⟩
 refine rn 10 rfl ?_
 refine spC h rfl (fun hb38 h=>?_) (fun hb38 h=>?_)
 ·refine rn 4 rfl ?_
  replace h:=Option.some.inj h
  subst h
  exact wR ⟨.inl rfl,[(4,(bV false))],(gr [0,1,2,3] rfl (hB rfl rfl rfl (hR rfl rfl (hM rfl rfl (hM rfl rfl .nil)))) rfl),(.cons (.tmp rfl) .nil)⟩
 refine rn 9 rfl ?_
 refine ixo (a:=a5) h rfl rfl rfl (fun x39 hx40 h=>?_)
 refine ldp hx40 rfl rfl rfl rfl ?_
 refine rn 10 rfl ?_
 refine aops_mapUpdate (es:=a7.map encM9_4) ((mput a7 x39 true).map encM9_4) tMap92 tKey9 wants_none rfl rfl (.con rfl) ⟨_,rfl⟩ encM9_4_good rfl (encM9_4_puts a7 x39 true) ?_
 refine fo (rn 9 rfl ?_)
 refine aops_lookup _ (V.lst 4 (([]:(List Tpolicy_value)).map encTpolicy_value)) (V.lst 4 (((mget a2 x39).getD ([]:(List Tpolicy_value))).map encTpolicy_value)) tMap163 tKey9 tZo169 (fun _=>.nil _ _ _) wants_none rfl .imm (.con rfl) ⟨_,rfl⟩ encM9_169_good (encM9_169_look a2 x39) (getD_map (encM9_169_val) (mget a2 x39) ([]:(List Tpolicy_value))) rfl ?_
 refine fo ?_
 refine ln rfl rfl ?_
 refine rn 2 rfl ?_
 refine jK h (fun(p:(List ((List UInt8)×Tpolicy_value))×(List ((List UInt8)×Bool)))=>(⟨[(0,(V.ptr 0 5 0 0)),(6,(sV x39))],[(0,(Ob.arr 165 5 [[(V.own 1 a5.length),(V.imap (a2.map encM9_169)),(V.map 2),(V.map 3),(V.fn (.func 57) [] [(V.iptr [(V.lst 1 (a3.map KV.enc))] 0),(V.iptr [(iV a4)] 0)])]])),(1,(Ob.arr 9 1 (a5.map encS))),(2,(Ob.map ((p.1).map encM9_98))),(3,(Ob.map ((p.2).map encM9_4)))],4⟩:St)) (fun k41 p=>k41 p.1 p.2=some r) (fun k41 h=>?_) ?_
 ·refine rn 1 rfl ?_
  refine wl (A:=((mget a2 x39).getD ([]:(List Tpolicy_value)))) 51 rfl (fun hA56=>?_)
  refine lC (fun(p:Int×(List ((List UInt8)×Tpolicy_value))×(List ((List UInt8)×Bool)))=>(⟨[(0,(V.ptr 0 5 0 0)),(1,(iV a1)),(6,(sV x39)),(51,(V.lst 4 (((mget a2 x39).getD ([]:(List Tpolicy_value))).map encTpolicy_value))),(52,(iV ((((mget a2 x39).getD ([]:(List Tpolicy_value))).length:Nat):Int))),(53,(iV (p.1)))],[(0,(Ob.arr 165 5 [[(V.own 1 a5.length),(V.imap (a2.map encM9_169)),(V.map 2),(V.map 3),(V.fn (.func 57) [] [(V.iptr [(V.lst 1 (a3.map KV.enc))] 0),(V.iptr [(iV a4)] 0)])]])),(1,(Ob.arr 9 1 (a5.map encS))),(2,(Ob.map ((p.2.1).map encM9_98))),(3,(Ob.map ((p.2.2).map encM9_4)))],4⟩:St)) (fun n p=>RG ((mget a2 x39).getD ([]:(List Tpolicy_value))) (fun tl nn=>M36_L1 R36 F a1 a2 a3 a4 a5 x39 k41 tl p.2.1 p.2.2=some r) n p.1) (fun p h=>RG.zero h) (((mget a2 x39).getD ([]:(List Tpolicy_value))).length+1) (0,a6,(mput a7 x39 true)) (RG.start h) (gr [0,1,2,3] rfl (hB rfl rfl rfl (hR rfl rfl (hM rfl rfl (hM rfl rfl .nil)))) rfl) (fun n p h=>?_)
  obtain⟨n47,m48,m49⟩:=p
  refine rn 5 rfl ?_
  refine spL rfl (fun hb50=>?_) (fun hb50=>?_)
  ·obtain⟨x51,tl,hx52,h,hk1⟩:=RG.t hA56 h hb50
   unfold M36_L1 at h
   refine rn 5 rfl ?_
   refine ixh hx52 rfl rfl ?_
   refine rn 5 rfl ?_
   refine dr mixed (vs 7 rfl (xD (OD.mk [(61,(V.map 2)),(62,(sV x39)),(63,(V.agg (encTpolicy_value x51)))] [(2,(Ob.map (m48.map encM9_98)))] [] [(2,(Ob.map ((mput m48 x39 x51).map encM9_98)))]) ⟨⟨rfl,rfl,rfl,trivial⟩,⟨rfl,trivial⟩⟩ (by exact fun S hn h hh=>aops_mapUpdate (es:=m48.map encM9_98) ((mput m48 x39 x51).map encM9_98) tMap91 tKey9 wants_none h.1 hh.1 (.con h.2.1) ⟨_,rfl⟩ encM9_98_good h.2.2.1 (encM9_98_puts m48 x39 x51) (aops_nil ⟨rfl,rfl⟩)) rfl .nil)) (by kernel_rfl) ?_
   obtain⟨y53,hx54,h⟩:=bind_some h
   refine rn 5 rfl ?_
   refine aops_mcallS (bV (y53.1)) [(V.ptr 0 5 0 0),(iV (w64 (a1+1)))] (fun i=>([0,1,2,3]:List Nat).getD i 0) (fun i=>([0,1,2,3]:List Nat).getD i 0) 5 5 [(0,(Ob.arr 165 5 [[(V.own 1 a5.length),(V.imap (a2.map encM9_169)),(V.map 2),(V.map 3),(V.fn (.func 57) [] [(V.iptr [(V.lst 1 (a3.map KV.enc))] 0),(V.iptr [(iV a4)] 0)])]])),(1,(Ob.arr 9 1 (a5.map encS))),(2,(Ob.map ((y53.2.1).map encM9_98))),(3,(Ob.map ((y53.2.2).map encM9_4)))] fOk36 wants_none rfl (evm_cons rfl (evm_cons rfl evm_nil)) (.cons (Sub.ptr rfl rfl) (.cons (Sub.imm (Imm.con _)) .nil)) (.cons rfl (ObSub.box (.cons (Sub.own rfl rfl) (.cons (Sub.imm (Imm.imap _)) (.cons (Sub.map rfl rfl) (.cons (Sub.map rfl rfl) (.cons (Sub.imm (Imm.fn .nil (.cons (Imm.iptr _ _) (.cons (Imm.iptr _ _) .nil)))) .nil)))))) (.cons rfl (ObSub.rows (rows_imm imms_encS)) (.cons rfl (ObSub.maps encM9_98_imm) (.cons rfl (ObSub.maps encM9_4_imm) .nil)))) (hR36 (w64 (a1+1)) a2 a3 a4 a5 (mput m48 x39 x51) m49 _ hx54) rfl rfl rfl rfl (Sub.immT (Imm.con _)) (.cons rfl (ObSub.box (.cons (Sub.ownT rfl rfl) (.cons (Sub.immT (Imm.imap _)) (.cons (Sub.mapT rfl rfl) (.cons (Sub.mapT rfl rfl) (.cons (Sub.immT (Imm.fn .nil (.cons (Imm.iptr _ _) (.cons (Imm.iptr _ _) .nil)))) .nil)))))) (.cons rfl (ObSub.rowsT (rows_imm imms_encS)) (.cons rfl (ObSub.mapsT encM9_98_imm) (.cons rfl (ObSub.mapsT encM9_4_imm) .nil)))) _ rfl ?_
   refine fo (rn 1 rfl ?_)
   refine spC h rfl (fun hb55 h=>?_) (fun hb55 h=>?_)
   ·refine rn 4 rfl ?_
    replace h:=Option.some.inj h
    subst h
    exact wR ⟨.inl rfl,[(4,(bV true))],(gr [0,1,2,3] rfl (hB rfl rfl rfl (hR rfl rfl (hM rfl rfl (hM rfl rfl .nil)))) rfl),(.cons (.tmp rfl) .nil)⟩
   refine rn 6 rfl ?_
   exact jX ((w64 (n47+1)),(y53.2.1),(y53.2.2)) (hk1 _ h) (gr [0,1,2,3] rfl (hB rfl rfl rfl (hR rfl rfl (hM rfl rfl (hM rfl rfl .nil)))) rfl)
  replace h:=RG.f h hb50
  unfold M36_L1 at h
  refine rn 1 rfl ?_
  exact jX (m48,m49) h (gr [0,1,2,3] rfl (hB rfl rfl rfl (hR rfl rfl (hM rfl rfl (hM rfl rfl .nil)))) rfl)
 rintro⟨m42,m43⟩ h
 refine rn 8 rfl ?_
 refine aops_mapDelete (es:=m43.map encM9_4) ((mdel m43 x39).map encM9_4) tMap92 tKey9 wants_none rfl rfl (.con rfl) ⟨_,rfl⟩ encM9_4_good (encM9_4_dels m43 x39) ?_
 refine fo (rn 9 rfl ?_)
 refine aops_mapDelete (es:=m42.map encM9_98) ((mdel m42 x39).map encM9_98) tMap91 tKey9 wants_none rfl rfl (.con rfl) ⟨_,rfl⟩ encM9_98_good (encM9_98_dels m42 x39) ?_
 refine fo (rn 5 rfl ?_)
 replace h:=Option.some.inj h
 subst h
 exact wR ⟨.inl rfl,[(4,(bV false))],(gr [0,1,2,3] rfl (hB rfl rfl rfl (hR rfl rfl (hM rfl rfl (hM rfl rfl .nil)))) rfl),(.cons (.tmp rfl) .nil)⟩
theorem W36:∀(F:Nat) (a1:Int) (a2:(List ((List UInt8)×(List Tpolicy_value)))) (a3:List KV) (a4:Int) (a5:List (List UInt8)) (a6:List ((List UInt8)×Tpolicy_value)) (a7:List ((List UInt8)×Bool)) (r:(Bool×(List ((List UInt8)×Tpolicy_value))×(List ((List UInt8)×Bool)))) (h:M36 F a1 a2 a3 a4 a5 a6 a7=some r),Mut Tryz.prog 36 [(V.ptr 0 5 0 0),(iV a1)] 4 [(0,(Ob.arr 165 5 [[(V.own 1 a5.length),(V.imap (a2.map encM9_169)),(V.map 2),(V.map 3),(V.fn (.func 57) [] [(V.iptr [(V.lst 1 (a3.map KV.enc))] 0),(V.iptr [(iV a4)] 0)])]])),(1,(Ob.arr 9 1 (a5.map encS))),(2,(Ob.map (a6.map encM9_98))),(3,(Ob.map (a7.map encM9_4)))] (resV [(bV (r.1))]) 4 [(0,(Ob.arr 165 5 [[(V.own 1 a5.length),(V.imap (a2.map encM9_169)),(V.map 2),(V.map 3),(V.fn (.func 57) [] [(V.iptr [(V.lst 1 (a3.map KV.enc))] 0),(V.iptr [(iV a4)] 0)])]])),(1,(Ob.arr 9 1 (a5.map encS))),(2,(Ob.map ((r.2.1).map encM9_98))),(3,(Ob.map ((r.2.2).map encM9_4)))]:=by
 intro F
 induction F with
 |zero=>intros;simp[M36] at *
 |succ F ih=>exact fun a1 a2 a3 a4 a5 a6 a7 r h=>W36_B (M36 F) ih F a1 a2 a3 a4 a5 a6 a7 r h
theorem W18(F:Nat)(a1:TPolicy)(r:((List Int)×Int))(h:M18 F a1=some r):Pure Tryz.prog 18 [(V.agg (encTPolicy a1))] (V.tup [(V.lst 1 ((r.1).map encI_i64)),(iV (r.2))]):=by
 refine pin (fun r=>(V.tup [(V.lst 1 ((r.1).map encI_i64)),(iV (r.2))])) r rfl Tryz.func18 rfl rfl rfl rfl rfl (fun w0 m0 hg=>?_)
 unfold M18 at h
 refine rn 10 rfl ?_
 refine cl h rfl rfl rfl (W54 _ _) rfl (fun y2 hx3 h=>?_)
 refine rn 7 rfl ?_
 refine spC h rfl (fun hb4 h=>?_) (fun hb4 h=>?_)
 ·refine rn 6 rfl ?_
  exact rt h rfl
 refine rn 15 rfl ?_
 refine ln rfl rfl ?_
 refine rn 2 rfl ?_
 refine jK h (fun(p:(List Int))=>(⟨[(6,(V.own 0 p.length))],[(0,(Ob.arr 3 1 (p.map encI_i64)))],1⟩:St)) (fun k5 p=>k5 p=some r) (fun k5 h=>?_) ?_
 ·refine rn 1 rfl ?_
  refine wl (A:=a1.Rules) 22 rfl (fun hA45=>?_)
  refine lC (fun(p:Int×(List ((List UInt8)×Bool))×(List Int))=>(⟨[(1,(V.ptr 0 2 0 0)),(5,(V.map 1)),(6,(V.own 2 (p.2.2).length)),(22,(V.lst 9 (a1.Rules.map encTPolicyRule))),(23,(iV ((a1.Rules.length:Nat):Int))),(24,(iV (p.1)))],[(0,(Ob.arr 49 2 [(encTPolicy a1)])),(1,(Ob.map ((p.2.1).map encM9_4))),(2,(Ob.arr 3 1 ((p.2.2).map encI_i64)))],3⟩:St)) (fun n p=>RG a1.Rules (fun tl nn=>M18_L1 F a1 k5 tl p.2.1 p.2.2=some r) n p.1) (fun p h=>RG.zero h) (a1.Rules.length+1) (0,([]:List ((List UInt8)×Bool)),([]:List Int)) (RG.start h) (Ghost.trans (ghost_nilE 6 3 1 rfl) (ghost_ren 3 (fun i=>([0,1,2]:List Nat).getD i 0) _ _ (by decide) (EnvSub.get (.cons (Sub.ptr rfl rfl) (.cons (Sub.map rfl rfl) (.cons (Sub.ownE rfl rfl (by simp)) (.cons (Sub.imm (Imm.lst _ _)) (.cons (Sub.imm (Imm.con _)) (.cons (Sub.imm (Imm.con _)) .nil))))))) (HpSub.get (.cons rfl (ObSub.box (.cons (Sub.imm (Imm.lst _ _)) (.cons (Sub.imm (Imm.lst _ _)) .nil))) (.cons rfl (ObSub.maps encM9_4_imm) (.cons rfl (ObSub.rows (rows_imm imms_encI_i64)) .nil)))) rfl)) (fun n p h=>?_)
  obtain⟨n10,m11,l12⟩:=p
  refine rn 5 rfl ?_
  refine spL rfl (fun hb13=>?_) (fun hb13=>?_)
  ·obtain⟨x17,tl,hx18,h,hk1⟩:=RG.t hA45 h hb13
   unfold M18_L1 at h
   refine rn 2 rfl ?_
   refine jK h (fun(p:(List ((List UInt8)×Bool))×(List Int))=>(⟨[(1,(V.ptr 0 2 0 0)),(5,(V.map 1)),(6,(V.own 2 (p.2).length)),(22,(V.lst 9 (a1.Rules.map encTPolicyRule))),(23,(iV ((a1.Rules.length:Nat):Int))),(24,(iV n10))],[(0,(Ob.arr 49 2 [(encTPolicy a1)])),(1,(Ob.map ((p.1).map encM9_4))),(2,(Ob.arr 3 1 ((p.2).map encI_i64)))],3⟩:St)) (fun k14 p=>k14 p.1 p.2=some r) (fun k14 h=>?_) ?_
   ·refine rn 3 rfl ?_
    refine ixh hx18 rfl rfl ?_
    refine rn 10 rfl ?_
    refine aops_lookup _ (bV false) (bV ((mget m11 x17.About).getD false)) tMap92 tKey9 tZo4 (irel_con _) wants_none rfl (.own rfl) (.con rfl) ⟨_,rfl⟩ encM9_4_good (encM9_4_look m11 x17.About) (getD_map (encM9_4_val) (mget m11 x17.About) false) rfl ?_
    refine fo (rn 1 rfl ?_)
    refine spC h rfl (fun hb19 h=>?_) (fun hb19 h=>?_)
    ·refine rn 1 rfl ?_
     exact jX (m11,l12) h (gr [0,1,2] rfl (hB rfl rfl rfl (hM rfl rfl (hR rfl rfl .nil))) rfl)
    refine rn 6 rfl ?_
    refine aops_mapUpdate (es:=m11.map encM9_4) ((mput m11 x17.About true).map encM9_4) tMap92 tKey9 wants_none rfl rfl (.con rfl) ⟨_,rfl⟩ encM9_4_good rfl (encM9_4_puts m11 x17.About true) ?_
    refine fo (rn 6 rfl ?_)
    refine cl h rfl rfl rfl (W55 _ _ _) rfl (fun y20 hx21 h=>?_)
    obtain⟨y22,hx23,h⟩:=bind_some h
    refine rn 9 rfl ?_
    refine aops_mcallS (V.own 5 (y22.2).length) [(V.agg (encTPolicy a1)),(V.lst 1 (y20.map encI_i64)),(V.map 4)] (fun i=>([4]:List Nat).getD i 0) (fun i=>([4,5]:List Nat).getD i 0) 5 6 [(4,(Ob.map ((y22.1).map encM9_335))),(5,(Ob.arr 75 1 ((y22.2).map KV.enc)))] fOk56 wants_none rfl (evm_cons rfl (evm_cons rfl (evm_cons rfl evm_nil))) (.cons (Sub.imm (Imm.agg (imms_encTPolicy _))) (.cons (Sub.imm (Imm.lst _ _)) (.cons (Sub.map rfl rfl) .nil))) (.cons rfl (ObSub.mapsK ents_keepK) .nil) (W56 F a1 y20 ([]:List ((List UInt8)×(Option Tpolicy_subject))) y22 hx23) rfl rfl rfl rfl (Sub.ownT rfl rfl) (.cons rfl (ObSub.mapsTK ents_keepK) (.cons rfl (ObSub.rowsT (rows_imm KV.enc_imm)) .nil)) _ rfl ?_
    refine fo (rn 5 rfl ?_)
    refine awp_ghost (ghost_frzDM 4 10 ((y22.1).map encM9_103) rfl (by simp) (und_map encM9_335_und _) rfl) ?_
    refine fa (rn 2 rfl ?_)
    refine cl h rfl rfl rfl (W34 _ _) rfl (fun y24 hx25 h=>?_)
    refine rn 2 rfl ?_
    refine spC h rfl (fun hb26 h=>?_) (fun hb26 h=>?_)
    ·refine rn 5 rfl ?_
     exact rt h rfl
    refine rn 2 rfl ?_
    refine awp_ghost (ghost_frzC 5 6 (Ob.arr 109 1 [[(V.lst 1 ((y22.2).map KV.enc))]]) rfl (rows_imm KV.enc_imm) (ObSub.box (.cons (Sub.frzAll (rows:=(y22.2).map KV.enc) (List.length_map ..).symm) .nil))) ?_
    refine awp_ghost (ghost_frzP 6 11 rfl (imms_rows (.cons (.cons (Imm.lst _ _) .nil) .nil)) rfl rfl) ?_
    refine fa (rn 2 rfl ?_)
    refine ln rfl rfl ?_
    refine rn 2 rfl ?_
    refine jK h (fun(p:(List Int))=>(⟨[(1,(V.ptr 0 2 0 0)),(5,(V.map 1)),(6,(V.own 2 p.length)),(22,(V.lst 9 (a1.Rules.map encTPolicyRule))),(23,(iV ((a1.Rules.length:Nat):Int))),(24,(iV n10))],[(0,(Ob.arr 49 2 [(encTPolicy a1)])),(1,(Ob.map ((mput m11 x17.About true).map encM9_4))),(2,(Ob.arr 3 1 (p.map encI_i64)))],3⟩:St)) (fun k27 p=>k27 p=some r) (fun k27 h=>?_) ?_
    ·refine rn 1 rfl ?_
     refine wl (A:=y20) 38 rfl (fun hA44=>?_)
     refine lC (fun(p:Int×(List Int))=>(⟨[(1,(V.ptr 0 2 0 0)),(5,(V.map 1)),(6,(V.own 2 (p.2).length)),(10,(V.imap ((y22.1).map encM9_103))),(11,(V.iptr [(V.lst 1 ((y22.2).map KV.enc))] 0)),(22,(V.lst 9 (a1.Rules.map encTPolicyRule))),(23,(iV ((a1.Rules.length:Nat):Int))),(24,(iV n10)),(47,(V.lst 1 (y20.map encI_i64))),(48,(iV ((y20.length:Nat):Int))),(49,(iV (p.1)))],[(0,(Ob.arr 49 2 [(encTPolicy a1)])),(1,(Ob.map ((mput m11 x17.About true).map encM9_4))),(2,(Ob.arr 3 1 ((p.2).map encI_i64)))],3⟩:St)) (fun n p=>RG y20 (fun tl nn=>M18_L2 F y22 k27 tl nn p.2=some r) n p.1) (fun p h=>RG.zero h) (y20.length+1) (0,l12) (RG.start h) (gr [0,1,2] rfl (hB rfl rfl rfl (hM rfl rfl (hR rfl rfl .nil))) rfl) (fun n p h=>?_)
     obtain⟨n31,l32⟩:=p
     refine rn 5 rfl ?_
     refine spL rfl (fun hb33=>?_) (fun hb33=>?_)
     ·obtain⟨x34,tl,hx35,h,hk2⟩:=RG.t hA44 h hb33
      unfold M18_L2 at h
      refine rn 6 rfl ?_
      refine ixh hx35 rfl rfl ?_
      obtain⟨y36,hx37,h⟩:=bind_some h
      refine rn 9 rfl ?_
      refine aops_ghost (ghost_frzV 3 55 (V.fn (.func 57) [] [(V.iptr [(V.lst 1 ((y22.2).map KV.enc))] 0),(V.iptr [(iV n31)] 0)]) rfl (imms_rows (.cons (.cons (Imm.con _) .nil) .nil)) rfl (Sub.fnc (.cons Sub.keep (.cons (Sub.frzptr rfl) .nil)))) ?_
      refine aops_mcallS (V.ptr 4 5 0 0) [(V.imap ((y22.1).map encM9_103)),(V.con (.map none)),(V.fn (.func 57) [] [(V.iptr [(V.lst 1 ((y22.2).map KV.enc))] 0),(V.iptr [(iV n31)] 0)])] (fun i=>([]:List Nat).getD i 0) (fun i=>([4,5,6,7]:List Nat).getD i 0) 4 8 [(4,(Ob.arr 165 5 [[(V.own 5 (y36.2).length),(V.imap ((y36.1).map encM9_169)),(V.map 6),(V.map 7),(V.fn (.func 57) [] [(V.iptr [(V.lst 1 ((y22.2).map KV.enc))] 0),(V.iptr [(iV n31)] 0)])]])),(5,(Ob.arr 9 1 ((y36.2).map encS))),(6,(Ob.map (([]:List ((List UInt8)×Tpolicy_value)).map encM9_98))),(7,(Ob.map (([]:List ((List UInt8)×Bool)).map encM9_4)))] fOk35 wants_none rfl (evm_cons rfl (evm_cons rfl (evm_cons rfl evm_nil))) (.cons (Sub.imm (Imm.imap _)) (.cons (Sub.imm (Imm.con _)) (.cons (Sub.imm (Imm.fn .nil (.cons (Imm.iptr _ _) (.cons (Imm.iptr _ _) .nil)))) .nil))) .nil (W35 F (y22.1) (y22.2) n31 y36 hx37) rfl rfl rfl rfl (Sub.ptrT rfl rfl) (.cons rfl (ObSub.box (.cons (Sub.ownT rfl rfl) (.cons (Sub.immT (Imm.imap _)) (.cons (Sub.mapT rfl rfl) (.cons (Sub.mapT rfl rfl) (.cons (Sub.immT (Imm.fn .nil (.cons (Imm.iptr _ _) (.cons (Imm.iptr _ _) .nil)))) .nil)))))) (.cons rfl (ObSub.rowsT (rows_imm imms_encS)) (.cons rfl (ObSub.mapsT encM9_98_imm) (.cons rfl (ObSub.mapsT encM9_4_imm) .nil)))) _ rfl ?_
      obtain⟨y38,hx39,h⟩:=bind_some h
      refine fo (rn 5 rfl ?_)
      refine aops_mcallS (bV (y38.1)) [(V.ptr 4 5 0 0),(iV 0)] (fun i=>([4,5,6,7]:List Nat).getD i 0) (fun i=>([4,5,6,7]:List Nat).getD i 0) 8 8 [(4,(Ob.arr 165 5 [[(V.own 5 (y36.2).length),(V.imap ((y36.1).map encM9_169)),(V.map 6),(V.map 7),(V.fn (.func 57) [] [(V.iptr [(V.lst 1 ((y22.2).map KV.enc))] 0),(V.iptr [(iV n31)] 0)])]])),(5,(Ob.arr 9 1 ((y36.2).map encS))),(6,(Ob.map ((y38.2.1).map encM9_98))),(7,(Ob.map ((y38.2.2).map encM9_4)))] fOk36 wants_none rfl (evm_cons rfl (evm_cons rfl evm_nil)) (.cons (Sub.ptr rfl rfl) (.cons (Sub.imm (Imm.con _)) .nil)) (.cons rfl (ObSub.box (.cons (Sub.own rfl rfl) (.cons (Sub.imm (Imm.imap _)) (.cons (Sub.map rfl rfl) (.cons (Sub.map rfl rfl) (.cons (Sub.imm (Imm.fn .nil (.cons (Imm.iptr _ _) (.cons (Imm.iptr _ _) .nil)))) .nil)))))) (.cons rfl (ObSub.rows (rows_imm imms_encS)) (.cons rfl (ObSub.maps encM9_98_imm) (.cons rfl (ObSub.maps encM9_4_imm) .nil)))) (W36 F 0 (y36.1) (y22.2) n31 (y36.2) ([]:List ((List UInt8)×Tpolicy_value)) ([]:List ((List UInt8)×Bool)) y38 hx39) rfl rfl rfl rfl (Sub.immT (Imm.con _)) (.cons rfl (ObSub.box (.cons (Sub.ownT rfl rfl) (.cons (Sub.immT (Imm.imap _)) (.cons (Sub.mapT rfl rfl) (.cons (Sub.mapT rfl rfl) (.cons (Sub.immT (Imm.fn .nil (.cons (Imm.iptr _ _) (.cons (Imm.iptr _ _) .nil)))) .nil)))))) (.cons rfl (ObSub.rowsT (rows_imm imms_encS)) (.cons rfl (ObSub.mapsT encM9_98_imm) (.cons rfl (ObSub.mapsT encM9_4_imm) .nil)))) _ rfl ?_
      refine fo (rn 2 rfl ?_)
      refine jK h (fun(p:(List Int))=>(⟨[(1,(V.ptr 0 2 0 0)),(5,(V.map 1)),(6,(V.own 2 p.length)),(10,(V.imap ((y22.1).map encM9_103))),(11,(V.iptr [(V.lst 1 ((y22.2).map KV.enc))] 0)),(22,(V.lst 9 (a1.Rules.map encTPolicyRule))),(23,(iV ((a1.Rules.length:Nat):Int))),(24,(iV n10)),(47,(V.lst 1 (y20.map encI_i64))),(48,(iV ((y20.length:Nat):Int))),(49,(iV n31))],[(0,(Ob.arr 49 2 [(encTPolicy a1)])),(1,(Ob.map ((mput m11 x17.About true).map encM9_4))),(2,(Ob.arr 3 1 (p.map encI_i64)))],3⟩:St)) (fun k40 p=>k40 p=some r) (fun k40 h=>?_) ?_
      ·refine spC h rfl (fun hb42 h=>?_) (fun hb42 h=>?_)
       ·refine rn 3 rfl ?_
        refine aops_buildSlice [(0,(iV x34))] [[(iV x34)]] tEl51 tZ3 rfl rfl rfl rfl wants_none (evp_cons rfl evp_nil) rfl rfl (by simp) rfl ?_
        refine fo ?_
        refine apO encI_i64 h rfl rfl rfl rfl rfl rfl rfl rfl (fun h=>?_)
        refine rn 2 rfl ?_
        exact jX (l32++([x34]:List Int)) h (gr [0,1,9] rfl (hB rfl rfl rfl (hM rfl rfl (hR rfl rfl .nil))) rfl)
       refine rn 1 rfl ?_
       exact jX l32 h (gr [0,1,2] rfl (hB rfl rfl rfl (hM rfl rfl (hR rfl rfl .nil))) rfl)
      intro l41 h
      refine rn 5 rfl ?_
      exact jX ((w64 (n31+1)),l41) (hk2 _ h) (gr [0,1,2] rfl (hB rfl rfl rfl (hM rfl rfl (hR rfl rfl .nil))) rfl)
     replace h:=RG.f h hb33
     unfold M18_L2 at h
     refine rn 1 rfl ?_
     exact jX l32 h (gr [0,1,2] rfl (hB rfl rfl rfl (hM rfl rfl (hR rfl rfl .nil))) rfl)
    intro l28 h
    refine rn 1 rfl ?_
    exact jX ((mput m11 x17.About true),l28) h (gr [0,1,2] rfl (hB rfl rfl rfl (hM rfl rfl (hR rfl rfl .nil))) rfl)
   rintro⟨m15,l16⟩ h
   refine rn 4 rfl ?_
   exact jX ((w64 (n10+1)),m15,l16) (hk1 _ h) (gr [0,1,2] rfl (hB rfl rfl rfl (hM rfl rfl (hR rfl rfl .nil))) rfl)
  replace h:=RG.f h hb13
  unfold M18_L1 at h
  refine rn 1 rfl ?_
  exact jX l12 h (gr [2] rfl (hR rfl rfl .nil) rfl)
 intro l6 h
 obtain⟨y46,hx47,h⟩:=bind_some h
 refine rn 3 rfl ?_
 refine ck h (fun hc48 h=>?_)
 refine aops_mcallS (V.tup []) [(V.own 0 l6.length)] (fun i=>([0]:List Nat).getD i 0) (fun i=>([0]:List Nat).getD i 0) 1 1 [(0,(Ob.arr 3 1 (y46.map encI_i64)))] fOk59 wants_none rfl (evm_cons rfl evm_nil) (.cons (Sub.own rfl rfl) .nil) (.cons rfl (ObSub.rows (rows_imm imms_encI_i64)) .nil) (W59 F l6 y46 hx47) rfl rfl rfl rfl (Sub.immT (Imm.tup .nil)) (.cons rfl (ObSub.rowsT (rows_imm imms_encI_i64)) .nil) _ rfl ?_
 refine aops_ghost (ghost_tell 6 (V.own 0 y46.length) rfl (Sub.ownI hc48)) ?_
 refine aops_ghost (ghost_tell 66 (V.own 0 y46.length) rfl (Sub.ownI hc48)) ?_
 refine fo (rn 7 rfl ?_)
 refine awp_ghost (ghost_frzEs 0 [2,6,66,68] rfl (rows_imm imms_encI_i64) (List.forall_mem_cons.2 ⟨rfl,(List.forall_mem_cons.2 ⟨rfl,(List.forall_mem_cons.2 ⟨rfl,(List.forall_mem_cons.2 ⟨rfl,(fun _ hx=>nomatch hx)⟩)⟩)⟩)⟩) (List.length_map ..).symm) ?_
 refine fa ?_
 exact rt h rfl
theorem W43(F:Nat)(a1:TFact)(r:Int)(h:M43 F a1=some r):Pure Tryz.prog 43 [(V.agg (encTFact a1))] (iV r):=by
 refine pin (fun r=>(iV r)) r rfl Tryz.func43 rfl rfl rfl rfl rfl (fun w0 m0 hg=>?_)
 unfold M43 at h
 refine rn 11 rfl ?_
 refine cl h rfl rfl rfl (W31 _ _) rfl (fun y2 hx3 h=>?_)
 refine rn 3 rfl ?_
 refine spC h rfl (fun hb4 h=>?_) (fun hb4 h=>?_)
 ·refine rn 4 rfl ?_
  exact rt h rfl
 refine rn 4 rfl ?_
 refine cl h rfl rfl rfl (W105 _ _) rfl (fun y5 hx6 h=>?_)
 refine rn 3 rfl ?_
 refine spC h rfl (fun hb7 h=>?_) (fun hb7 h=>?_)
 ·refine rn 4 rfl ?_
  exact rt h rfl
 refine rn 4 rfl ?_
 refine ln rfl rfl ?_
 refine rn 3 rfl ?_
 refine spC h rfl (fun hb8 h=>?_) (fun hb8 h=>?_)
 ·refine rn 4 rfl ?_
  exact rt h rfl
 refine rn 7 rfl ?_
 refine ln rfl rfl ?_
 refine rn 2 rfl ?_
 refine jK h (fun _:Unit=>(⟨[(1,(V.ptr 0 4 0 0))],[(0,(Ob.arr 29 4 [(encTFact a1)]))],1⟩:St)) (fun k9 (_:Unit)=>k9=some r) (fun k9 h=>?_) ?_
 ·refine rn 1 rfl ?_
  refine wl (A:=a1.Texts) 19 rfl (fun hA26=>?_)
  refine lC (fun(p:Int)=>(⟨[(1,(V.ptr 0 4 0 0)),(23,(V.lst 2 (a1.Texts.map encTPair))),(24,(iV ((a1.Texts.length:Nat):Int))),(25,(iV p))],[(0,(Ob.arr 29 4 [(encTFact a1)]))],1⟩:St)) (fun n p=>RG a1.Texts (fun tl nn=>M43_L1 F a1 k9 tl nn=some r) n p) (fun p h=>RG.zero h) (a1.Texts.length+1) 0 (RG.start h) (gr [0] rfl (hB rfl rfl rfl .nil) rfl) (fun n n11 h=>?_)
  refine rn 5 rfl ?_
  refine spL rfl (fun hb12=>?_) (fun hb12=>?_)
  ·obtain⟨x13,tl,hx14,h,hk1⟩:=RG.t hA26 h hb12
   unfold M43_L1 at h
   refine rn 6 rfl ?_
   refine ixh hx14 rfl rfl ?_
   refine rn 10 rfl ?_
   refine cl h rfl rfl rfl (W31 _ _) rfl (fun y15 hx16 h=>?_)
   refine rn 3 rfl ?_
   refine jK h (fun _:Unit=>(⟨[(1,(V.ptr 0 4 0 0)),(23,(V.lst 2 (a1.Texts.map encTPair))),(24,(iV ((a1.Texts.length:Nat):Int))),(25,(iV n11))],[(0,(Ob.arr 29 4 [(encTFact a1)]))],1⟩:St)) (fun k17 (_:Unit)=>k17=some r) (fun k17 h=>?_) ?_
   ·refine spC h rfl (fun hb18 h=>?_) (fun hb18 h=>?_)
    ·refine rn 4 rfl ?_
     exact rt h rfl
    refine rn 4 rfl ?_
    refine cl h rfl rfl rfl (W105 _ _) rfl (fun y19 hx20 h=>?_)
    refine rn 3 rfl ?_
    refine spC h rfl (fun hb21 h=>?_) (fun hb21 h=>?_)
    ·refine rn 4 rfl ?_
     exact rt h rfl
    refine rn 1 rfl ?_
    refine bs h (fun hb22 h=>?_) (fun hb22 h=>?_)
    ·obtain⟨x23,hx24,h⟩:=bind_some h
     refine dr mixed (vs 2 rfl (vb hb22 rfl (vs 6 rfl (iD hx24 rfl rfl rfl (vs 5 rfl .nil))))) (by kernel_rfl) ?_
     refine spC h rfl (fun hb25 h=>?_) (fun hb25 h=>?_)
     ·refine rn 4 rfl ?_
      exact rt h rfl
     refine rn 1 rfl ?_
     exact jX () h (gr [0] rfl (hB rfl rfl rfl .nil) rfl)
    refine dr mixed (vs 2 rfl (vb hb22 rfl (vs 12 rfl .nil))) (by kernel_rfl) ?_
    refine rn 2 rfl ?_
    exact jX () h (gr [0] rfl (hB rfl rfl rfl .nil) rfl)
   intro _ h
   refine rn 6 rfl ?_
   exact jX (w64 (n11+1)) (hk1 _ h) (gr [0] rfl (hB rfl rfl rfl .nil) rfl)
  replace h:=RG.f h hb12
  unfold M43_L1 at h
  refine rn 1 rfl ?_
  exact jX () h (gr [0] rfl (hB rfl rfl rfl .nil) rfl)
 intro _ h
 refine rn 5 rfl ?_
 refine ln rfl rfl ?_
 refine rn 2 rfl ?_
 refine spC h rfl (fun hb27 h=>?_) (fun hb27 h=>?_)
 ·refine rn 4 rfl ?_
  exact rt h rfl
 refine rn 6 rfl ?_
 refine ln rfl rfl ?_
 refine rn 2 rfl ?_
 refine jK h (fun _:Unit=>(⟨[],[],0⟩:St)) (fun k28 (_:Unit)=>k28=some r) (fun k28 h=>?_) ?_
 ·refine rn 1 rfl ?_
  refine wl (A:=a1.Numbers) 57 rfl (fun hA45=>?_)
  refine lC (fun(p:Int)=>(⟨[(1,(V.ptr 0 4 0 0)),(61,(V.lst 2 (a1.Numbers.map encTAmount))),(62,(iV ((a1.Numbers.length:Nat):Int))),(63,(iV p))],[(0,(Ob.arr 29 4 [(encTFact a1)]))],1⟩:St)) (fun n p=>RG a1.Numbers (fun tl nn=>M43_L2 F a1 k28 tl nn=some r) n p) (fun p h=>RG.zero h) (a1.Numbers.length+1) 0 (RG.start h) (gr [0] rfl (hB rfl rfl rfl .nil) rfl) (fun n n30 h=>?_)
  refine rn 5 rfl ?_
  refine spL rfl (fun hb31=>?_) (fun hb31=>?_)
  ·obtain⟨x32,tl,hx33,h,hk2⟩:=RG.t hA45 h hb31
   unfold M43_L2 at h
   refine rn 6 rfl ?_
   refine ixh hx33 rfl rfl ?_
   refine rn 10 rfl ?_
   refine cl h rfl rfl rfl (W31 _ _) rfl (fun y34 hx35 h=>?_)
   refine rn 3 rfl ?_
   refine jK h (fun _:Unit=>(⟨[(1,(V.ptr 0 4 0 0)),(61,(V.lst 2 (a1.Numbers.map encTAmount))),(62,(iV ((a1.Numbers.length:Nat):Int))),(63,(iV n30))],[(0,(Ob.arr 29 4 [(encTFact a1)]))],1⟩:St)) (fun k36 (_:Unit)=>k36=some r) (fun k36 h=>?_) ?_
   ·refine spC h rfl (fun hb37 h=>?_) (fun hb37 h=>?_)
    ·refine rn 4 rfl ?_
     exact rt h rfl
    refine rn 4 rfl ?_
    refine cl h rfl rfl rfl (W106 _ _) rfl (fun y38 hx39 h=>?_)
    refine rn 3 rfl ?_
    refine spC h rfl (fun hb40 h=>?_) (fun hb40 h=>?_)
    ·refine rn 4 rfl ?_
     exact rt h rfl
    refine rn 1 rfl ?_
    refine bs h (fun hb41 h=>?_) (fun hb41 h=>?_)
    ·obtain⟨x42,hx43,h⟩:=bind_some h
     refine dr mixed (vs 2 rfl (vb hb41 rfl (vs 6 rfl (iD hx43 rfl rfl rfl (vs 5 rfl .nil))))) (by kernel_rfl) ?_
     refine spC h rfl (fun hb44 h=>?_) (fun hb44 h=>?_)
     ·refine rn 4 rfl ?_
      exact rt h rfl
     refine rn 1 rfl ?_
     exact jX () h (gr [0] rfl (hB rfl rfl rfl .nil) rfl)
    refine dr mixed (vs 2 rfl (vb hb41 rfl (vs 12 rfl .nil))) (by kernel_rfl) ?_
    refine rn 2 rfl ?_
    exact jX () h (gr [0] rfl (hB rfl rfl rfl .nil) rfl)
   intro _ h
   refine rn 6 rfl ?_
   exact jX (w64 (n30+1)) (hk2 _ h) (gr [0] rfl (hB rfl rfl rfl .nil) rfl)
  replace h:=RG.f h hb31
  unfold M43_L2 at h
  refine rn 1 rfl ?_
  exact jX () h (g0 rfl rfl)
 intro _ h
 refine rn 4 rfl ?_
 exact rt h rfl
theorem W116(F:Nat)(a1:(List TFact))(r:Int)(h:M116 F a1=some r):Pure Tryz.prog 116 [(V.lst 4 (a1.map encTFact))] (iV r):=by
 refine pin (fun r=>(iV r)) r rfl Tryz.func116 rfl rfl rfl rfl rfl (fun w0 m0 hg=>?_)
 unfold M116 at h
 refine rn 8 rfl ?_
 refine ln rfl rfl ?_
 refine rn 2 rfl ?_
 refine spC h rfl (fun hb2 h=>?_) (fun hb2 h=>?_)
 ·refine rn 4 rfl ?_
  exact rt h rfl
 refine rn 5 rfl ?_
 refine ln rfl rfl ?_
 refine rn 2 rfl ?_
 refine jK h (fun _:Unit=>(⟨[],[],0⟩:St)) (fun k3 (_:Unit)=>k3=some r) (fun k3 h=>?_) ?_
 ·refine rn 1 rfl ?_
  refine wl (A:=a1) 0 rfl (fun hA12=>?_)
  refine lC (fun(p:Int)=>(⟨[(9,(V.lst 4 (a1.map encTFact))),(10,(iV ((a1.length:Nat):Int))),(11,(iV p))],[],0⟩:St)) (fun n p=>RG a1 (fun tl nn=>M116_L1 F k3 tl=some r) n p) (fun p h=>RG.zero h) (a1.length+1) 0 (RG.start h) (g0 rfl rfl) (fun n n5 h=>?_)
  refine rn 5 rfl ?_
  refine spL rfl (fun hb6=>?_) (fun hb6=>?_)
  ·obtain⟨x7,tl,hx8,h,hk1⟩:=RG.t hA12 h hb6
   unfold M116_L1 at h
   refine rn 5 rfl ?_
   refine ixh hx8 rfl rfl ?_
   refine rn 7 rfl ?_
   refine cl h rfl rfl rfl (W43 _ _) rfl (fun y9 hx10 h=>?_)
   refine rn 7 rfl ?_
   refine spC h rfl (fun hb11 h=>?_) (fun hb11 h=>?_)
   ·refine rn 5 rfl ?_
    exact rt h rfl
   refine rn 6 rfl ?_
   exact jX (w64 (n5+1)) (hk1 _ h) (g0 rfl rfl)
  replace h:=RG.f h hb6
  unfold M116_L1 at h
  refine rn 1 rfl ?_
  exact jX () h (g0 rfl rfl)
 intro _ h
 refine rn 4 rfl ?_
 exact rt h rfl
theorem W60(F:Nat)(a1:TPolicy)(a2:(List TFact))(a3:Int)(r:Int)(h:M60 F a1 a2 a3=some r):Pure Tryz.prog 60 [(V.agg (encTPolicy a1)),(V.lst 4 (a2.map encTFact)),(iV a3)] (iV r):=by
 refine pin (fun r=>(iV r)) r rfl Tryz.func60 rfl rfl rfl rfl rfl (fun w0 m0 hg=>?_)
 unfold M60 at h
 refine rn 9 rfl ?_
 refine cl h rfl rfl rfl (W54 _ _) rfl (fun y4 hx5 h=>?_)
 refine rn 7 rfl ?_
 refine spC h rfl (fun hb6 h=>?_) (fun hb6 h=>?_)
 ·refine rn 5 rfl ?_
  exact rt h rfl
 refine rn 5 rfl ?_
 refine cl h rfl rfl rfl (W116 _ _) rfl (fun y7 hx8 h=>?_)
 refine rn 7 rfl ?_
 refine spC h rfl (fun hb9 h=>?_) (fun hb9 h=>?_)
 ·refine rn 5 rfl ?_
  exact rt h rfl
 refine rn 7 rfl ?_
 refine spO 21 h rfl (fun hb10 h=>?_) (fun hb10 h=>?_)
 ·refine rn 9 rfl ?_
  exact rt h rfl
 refine rn 4 rfl ?_
 refine spC h rfl (fun hb11 h=>?_) (fun hb11 h=>?_)
 ·refine rn 4 rfl ?_
  exact rt h rfl
 refine rn 5 rfl ?_
 exact rt h rfl
theorem W44(F:Nat)(a1:TFact)(r:Tpolicy_values)(h:M44 F a1=some r):Pure Tryz.prog 44 [(V.agg (encTFact a1))] (V.agg (encTpolicy_values r)):=by
 refine pin (fun r=>(V.agg (encTpolicy_values r))) r rfl Tryz.func44 rfl rfl rfl rfl rfl (fun w0 m0 hg=>?_)
 unfold M44 at h
 refine rn 17 rfl ?_
 refine ln rfl rfl ?_
 refine rn 2 rfl ?_
 refine jK h (fun(p:(List ((List UInt8)×Tpolicy_value)))=>(⟨[(1,(V.ptr 0 4 0 0)),(2,(V.ptr 1 2 0 0)),(3,(V.ptr 2 2 0 0))],[(0,(Ob.arr 29 4 [(encTFact a1)])),(1,(Ob.arr 94 2 [[(V.con (.map none)),(V.con (.map none))]])),(2,(Ob.arr 94 2 [[(V.map 3),(V.con (.map none))]])),(3,(Ob.map (p.map encM9_98)))],4⟩:St)) (fun k2 p=>k2 p=some r) (fun k2 h=>?_) ?_
 ·refine rn 1 rfl ?_
  refine wl (A:=a1.Texts) 13 rfl (fun hA11=>?_)
  refine lC (fun(p:Int×(List ((List UInt8)×Tpolicy_value)))=>(⟨[(1,(V.ptr 0 4 0 0)),(2,(V.ptr 1 2 0 0)),(3,(V.ptr 2 2 0 0)),(13,(V.lst 2 (a1.Texts.map encTPair))),(14,(iV ((a1.Texts.length:Nat):Int))),(15,(iV (p.1)))],[(0,(Ob.arr 29 4 [(encTFact a1)])),(1,(Ob.arr 94 2 [[(V.con (.map none)),(V.con (.map none))]])),(2,(Ob.arr 94 2 [[(V.map 3),(V.con (.map none))]])),(3,(Ob.map ((p.2).map encM9_98)))],4⟩:St)) (fun n p=>RG a1.Texts (fun tl nn=>M44_L1 F k2 tl p.2=some r) n p.1) (fun p h=>RG.zero h) (a1.Texts.length+1) (0,([]:List ((List UInt8)×Tpolicy_value))) (RG.start h) (gr [0,1,3,2] rfl (hB rfl rfl rfl (hB rfl rfl rfl (hB rfl rfl rfl (hM rfl rfl .nil)))) rfl) (fun n p h=>?_)
  obtain⟨n6,m7⟩:=p
  refine rn 5 rfl ?_
  refine spL rfl (fun hb8=>?_) (fun hb8=>?_)
  ·obtain⟨x9,tl,hx10,h,hk1⟩:=RG.t hA11 h hb8
   unfold M44_L1 at h
   refine rn 5 rfl ?_
   refine ixh hx10 rfl rfl ?_
   refine rn 10 rfl ?_
   refine aops_lookup _ (V.agg [(bV false),(bV false),(sV ([]:List UInt8)),(iV 0)]) (V.agg (encTpolicy_value ((mget m7 x9.Name).getD (Tpolicy_value.mk false false ([]:List UInt8) 0)))) tMap91 tKey9 tZo98 (irel_conAgg [.bool false,.bool false,str ([]:List UInt8),.int .i64 0]) wants_none rfl (.own rfl) (.con rfl) ⟨_,rfl⟩ encM9_98_good (encM9_98_look m7 x9.Name) (getD_map (encM9_98_val) (mget m7 x9.Name) (Tpolicy_value.mk false false ([]:List UInt8) 0)) rfl ?_
   refine fo (rn 4 rfl ?_)
   refine dr mixed (vs 6 rfl .nil) (by kernel_rfl) ?_
   refine rn 6 rfl ?_
   refine aops_mapUpdate (es:=m7.map encM9_98) ((mput m7 x9.Name (Tpolicy_value.mk true ((mget m7 x9.Name).getD (Tpolicy_value.mk false false ([]:List UInt8) 0)).hasNumber x9.Value ((mget m7 x9.Name).getD (Tpolicy_value.mk false false ([]:List UInt8) 0)).number)).map encM9_98) tMap91 tKey9 wants_none rfl rfl (.con rfl) ⟨_,rfl⟩ encM9_98_good rfl (encM9_98_puts m7 x9.Name (Tpolicy_value.mk true ((mget m7 x9.Name).getD (Tpolicy_value.mk false false ([]:List UInt8) 0)).hasNumber x9.Value ((mget m7 x9.Name).getD (Tpolicy_value.mk false false ([]:List UInt8) 0)).number)) ?_
   refine fo (rn 6 rfl ?_)
   exact jX ((w64 (n6+1)),(mput m7 x9.Name (Tpolicy_value.mk true ((mget m7 x9.Name).getD (Tpolicy_value.mk false false ([]:List UInt8) 0)).hasNumber x9.Value ((mget m7 x9.Name).getD (Tpolicy_value.mk false false ([]:List UInt8) 0)).number))) (hk1 _ h) (gr [0,1,2,3] rfl (hB rfl rfl rfl (hB rfl rfl rfl (hB rfl rfl rfl (hM rfl rfl .nil)))) rfl)
  replace h:=RG.f h hb8
  unfold M44_L1 at h
  refine rn 1 rfl ?_
  exact jX m7 h (gr [0,1,2,3] rfl (hB rfl rfl rfl (hB rfl rfl rfl (hB rfl rfl rfl (hM rfl rfl .nil)))) rfl)
 intro m3 h
 refine rn 5 rfl ?_
 refine ln rfl rfl ?_
 refine rn 2 rfl ?_
 refine jK h (fun(p:(List ((List UInt8)×Tpolicy_value)))=>(⟨[(2,(V.ptr 0 2 0 0)),(3,(V.ptr 1 2 0 0))],[(0,(Ob.arr 94 2 [[(V.con (.map none)),(V.con (.map none))]])),(1,(Ob.arr 94 2 [[(V.map 2),(V.con (.map none))]])),(2,(Ob.map (p.map encM9_98)))],3⟩:St)) (fun k12 p=>k12 p=some r) (fun k12 h=>?_) ?_
 ·refine rn 1 rfl ?_
  refine wl (A:=a1.Numbers) 35 rfl (fun hA21=>?_)
  refine lC (fun(p:Int×(List ((List UInt8)×Tpolicy_value)))=>(⟨[(2,(V.ptr 0 2 0 0)),(3,(V.ptr 1 2 0 0)),(35,(V.lst 2 (a1.Numbers.map encTAmount))),(36,(iV ((a1.Numbers.length:Nat):Int))),(37,(iV (p.1)))],[(0,(Ob.arr 94 2 [[(V.con (.map none)),(V.con (.map none))]])),(1,(Ob.arr 94 2 [[(V.map 2),(V.con (.map none))]])),(2,(Ob.map ((p.2).map encM9_98)))],3⟩:St)) (fun n p=>RG a1.Numbers (fun tl nn=>M44_L2 F k12 tl p.2=some r) n p.1) (fun p h=>RG.zero h) (a1.Numbers.length+1) (0,m3) (RG.start h) (gr [1,2,3] rfl (hB rfl rfl rfl (hB rfl rfl rfl (hM rfl rfl .nil))) rfl) (fun n p h=>?_)
  obtain⟨n16,m17⟩:=p
  refine rn 5 rfl ?_
  refine spL rfl (fun hb18=>?_) (fun hb18=>?_)
  ·obtain⟨x19,tl,hx20,h,hk2⟩:=RG.t hA21 h hb18
   unfold M44_L2 at h
   refine rn 5 rfl ?_
   refine ixh hx20 rfl rfl ?_
   refine rn 10 rfl ?_
   refine aops_lookup _ (V.agg [(bV false),(bV false),(sV ([]:List UInt8)),(iV 0)]) (V.agg (encTpolicy_value ((mget m17 x19.Name).getD (Tpolicy_value.mk false false ([]:List UInt8) 0)))) tMap91 tKey9 tZo98 (irel_conAgg [.bool false,.bool false,str ([]:List UInt8),.int .i64 0]) wants_none rfl (.own rfl) (.con rfl) ⟨_,rfl⟩ encM9_98_good (encM9_98_look m17 x19.Name) (getD_map (encM9_98_val) (mget m17 x19.Name) (Tpolicy_value.mk false false ([]:List UInt8) 0)) rfl ?_
   refine fo (rn 4 rfl ?_)
   refine dr mixed (vs 6 rfl .nil) (by kernel_rfl) ?_
   refine rn 6 rfl ?_
   refine aops_mapUpdate (es:=m17.map encM9_98) ((mput m17 x19.Name (Tpolicy_value.mk ((mget m17 x19.Name).getD (Tpolicy_value.mk false false ([]:List UInt8) 0)).hasText true ((mget m17 x19.Name).getD (Tpolicy_value.mk false false ([]:List UInt8) 0)).text x19.N)).map encM9_98) tMap91 tKey9 wants_none rfl rfl (.con rfl) ⟨_,rfl⟩ encM9_98_good rfl (encM9_98_puts m17 x19.Name (Tpolicy_value.mk ((mget m17 x19.Name).getD (Tpolicy_value.mk false false ([]:List UInt8) 0)).hasText true ((mget m17 x19.Name).getD (Tpolicy_value.mk false false ([]:List UInt8) 0)).text x19.N)) ?_
   refine fo (rn 6 rfl ?_)
   exact jX ((w64 (n16+1)),(mput m17 x19.Name (Tpolicy_value.mk ((mget m17 x19.Name).getD (Tpolicy_value.mk false false ([]:List UInt8) 0)).hasText true ((mget m17 x19.Name).getD (Tpolicy_value.mk false false ([]:List UInt8) 0)).text x19.N))) (hk2 _ h) (gr [0,1,2] rfl (hB rfl rfl rfl (hB rfl rfl rfl (hM rfl rfl .nil))) rfl)
  replace h:=RG.f h hb18
  unfold M44_L2 at h
  refine rn 1 rfl ?_
  exact jX m17 h (gr [0,1,2] rfl (hB rfl rfl rfl (hB rfl rfl rfl (hM rfl rfl .nil))) rfl)
 intro m13 h
 refine rn 5 rfl ?_
 refine awp_ghost (ghost_frzMC 2 0 (Ob.arr 94 2 [[(V.imap (m13.map encM9_98)),(V.con (.map none))]]) rfl encM9_98_imm (ObSub.box (.cons Sub.frzM (.cons Sub.keepM .nil)))) ?_
 refine fa ?_
 exact rt h rfl
theorem W164(F:Nat)(a1:TPolicyRule)(a2:List UInt8)(a3:List UInt8)(a4:List TPair)(a5:List TAmount)(r:Bool)(h:M164 F a1 a2 a3 a4 a5=some r):Pure Tryz.prog 164 [(V.agg (encTPolicyRule a1)),(V.iptr [(sV a2),(sV a3),(V.lst 2 (a4.map encTPair)),(V.lst 2 (a5.map encTAmount))] 0)] (bV r):=by
 refine pin (fun r=>(bV r)) r rfl Tryz.func164 rfl rfl rfl rfl rfl (fun w0 m0 hg=>?_)
 unfold M164 at h
 refine rn 6 rfl ?_
 refine bs h (fun hb6 h=>?_) (fun hb6 h=>?_)
 ·obtain⟨y7,hx8,h⟩:=bind_some h
  obtain⟨y9,hx10,h⟩:=bind_some h
  refine ck h (fun hc11 h=>?_)
  obtain⟨y12,hx13,h⟩:=bind_some h
  refine dr mixed (vs 5 rfl (vb hb6 rfl (vs 2 rfl (cD rfl rfl rfl rfl (W32 _ _ _ hx8) rfl (vs 1 rfl (cD rfl rfl rfl rfl (W44 _ _ _ hx10) rfl (xD (OD.mk [(9,(bV true)),(12,(V.ifc y7.t y7.d))] [] [(15,(V.fn (.method "provender/policy.holds") [(V.ifc y7.t y7.d)] []))] []) ⟨⟨rfl,rfl,trivial⟩,trivial⟩ (by exact fun S hn h hh=>aops_mkMethI (wants_some (c:=true) (b:=true) 9 rfl h.1 rfl) h.2.1 rfl (aops_nil ⟨rfl,rfl⟩)) rfl (xD (OD.mk [(9,(bV true)),(15,(V.fn (.method "provender/policy.holds") [(V.ifc y7.t y7.d)] []))] [] [(16,(V.fn (.method "provender/policy.holds") [(V.ifc y7.t y7.d)] []))] []) ⟨⟨rfl,rfl,trivial⟩,trivial⟩ (by exact fun S hn h hh=>aops_nilMethI (tNil_holds _ hc11) (wants_some (c:=true) (b:=true) 9 rfl h.1 rfl) h.2.1 rfl (aops_nil ⟨rfl,rfl⟩)) rfl (vs 1 rfl (xD (OD.mk [(9,(bV true)),(17,(V.ifc y7.t y7.d)),(14,(V.agg (encTpolicy_values y9)))] [] [(18,(iV y12))] []) ⟨⟨rfl,rfl,rfl,trivial⟩,trivial⟩ (by exact fun S hn h hh=>aops_invokeD (iV y12) [(V.agg (encTpolicy_values y9))] (wants_some (c:=true) (b:=true) 9 rfl h.1 rfl) h.2.1 (evm_cons h.2.2.1 evm_nil) (.cons (Imm.agg (imms_encTpolicy_values _)) .nil) (Wiholds F y7 y9 _ hx13) rfl (aops_nil ⟨rfl,rfl⟩)) rfl (vs 3 rfl .nil))))))))))) (by kernel_rfl) ?_
  exact rt h rfl
 refine dr mixed (vs 5 rfl (vb hb6 rfl (vs 12 rfl .nil))) (by kernel_rfl) ?_
 exact rt h rfl
theorem W163_1(F:Nat)(a1:(List TPolicyRule))(a2:List UInt8)(a3:List UInt8)(a4:List TPair)(a5:List TAmount)(r:Int)(h:M163_1 F a1 a2 a3 a4 a5=some r):Pure Tryz.prog 163 [(V.lst 9 (a1.map encTPolicyRule)),(V.fn (.func 164) [] [(V.iptr [(sV a2),(sV a3),(V.lst 2 (a4.map encTPair)),(V.lst 2 (a5.map encTAmount))] 0)])] (iV r):=by
 refine pin (fun r=>(iV r)) r rfl Tryz.func163 rfl rfl rfl rfl rfl (fun w0 m0 hg=>?_)
 unfold M163_1 at h
 refine rn 8 rfl ?_
 refine ln rfl rfl ?_
 refine rn 2 rfl ?_
 refine jK h (fun _:Unit=>(⟨[],[],0⟩:St)) (fun k6 (_:Unit)=>k6=some r) (fun k6 h=>?_) ?_
 ·refine rn 1 rfl ?_
  refine wl (A:=a1) 0 rfl (fun hA15=>?_)
  refine lC (fun(p:Int)=>(⟨[(0,(V.lst 9 (a1.map encTPolicyRule))),(1,(V.fn (.func 164) [] [(V.iptr [(sV a2),(sV a3),(V.lst 2 (a4.map encTPair)),(V.lst 2 (a5.map encTAmount))] 0)])),(7,(iV ((a1.length:Nat):Int))),(8,(iV p))],[],0⟩:St)) (fun n p=>RG a1 (fun tl nn=>M163_1_L1 F a2 a3 a4 a5 k6 tl nn=some r) n p) (fun p h=>RG.zero h) (a1.length+1) 0 (RG.start h) (g0 rfl rfl) (fun n n8 h=>?_)
  refine rn 5 rfl ?_
  refine spL rfl (fun hb9=>?_) (fun hb9=>?_)
  ·obtain⟨x10,tl,hx11,h,hk1⟩:=RG.t hA15 h hb9
   unfold M163_1_L1 at h
   refine rn 13 rfl ?_
   refine ixh hx11 rfl rfl ?_
   refine rn 1 rfl ?_
   refine cl h rfl rfl rfl (W164 _ _ _ _ _ _) rfl (fun y12 hx13 h=>?_)
   refine rn 1 rfl ?_
   refine spC h rfl (fun hb14 h=>?_) (fun hb14 h=>?_)
   ·refine rn 5 rfl ?_
    exact rt h rfl
   refine rn 6 rfl ?_
   exact jX (w64 (n8+1)) (hk1 _ h) (g0 rfl rfl)
  replace h:=RG.f h hb9
  unfold M163_1_L1 at h
  refine rn 1 rfl ?_
  exact jX () h (g0 rfl rfl)
 intro _ h
 refine rn 4 rfl ?_
 exact rt h rfl
theorem W117(F:Nat)(a1:TPolicy)(a2:TFact)(r:Int)(h:M117 F a1 a2=some r):Pure Tryz.prog 117 [(V.agg (encTPolicy a1)),(V.agg (encTFact a2))] (iV r):=by
 refine pin (fun r=>(iV r)) r rfl Tryz.func117 rfl rfl rfl rfl rfl (fun w0 m0 hg=>?_)
 unfold M117 at h
 obtain⟨y3,hx4,h⟩:=bind_some h
 refine rn 11 rfl ?_
 refine aops_lend_call (iV y3) [(V.lst 9 (a1.Rules.map encTPolicyRule)),(V.fn (.func 164) [] [(V.iptr (encTFact a2) 0)])] fOk163 (ghost_frzV 1 7 (V.fn (.func 164) [] [(V.iptr (encTFact a2) 0)]) rfl (imms_rows (.cons (imms_encTFact _) .nil)) rfl (Sub.fnc (.cons (Sub.frzptr rfl) .nil))) (Flat.con _) wants_none (evm_cons rfl (evm_cons rfl evm_nil)) (.cons (Imm.lst _ _) (.cons (Imm.fn .nil (.cons (Imm.iptr _ _) .nil)) .nil)) (W163_1 F a1.Rules a2.Kind a2.Subject a2.Texts a2.Numbers y3 hx4) rfl ?_
 refine fo (rn 2 rfl ?_)
 exact rt h rfl
theorem W234(F:Nat)(a1:(List UInt8))(a2:(List UInt8))(r:Bool)(h:M234 F a1 a2=some r):Pure Tryz.prog 234 [(sV a1),(sV a2)] (bV r):=by
 refine pin (fun r=>(bV r)) r rfl Tryz.func234 rfl rfl rfl rfl rfl (fun w0 m0 hg=>?_)
 unfold M234 at h
 refine rn 12 rfl ?_
 refine spO 10 h rfl (fun hb3 h=>?_) (fun hb3 h=>?_)
 ·refine rn 6 rfl ?_
  refine ck h (fun hc4 h=>?_)
  refine aops_sliceT ((w64 ((a1.length:Int) - (a2.length:Int))).toNat) (a1.length) (a1.drop (w64 ((a1.length:Int) - (a2.length:Int))).toNat) tStr9 (wants_some (c:=true) (b:=true) 10 rfl rfl rfl) rfl ⟨_,(by rw[Int.toNat_of_nonneg hc4.1];exact rfl)⟩ rfl hc4.2 (Nat.le_refl _) slT_hi rfl ?_
  refine fo (rn 5 rfl ?_)
  exact rt h rfl
 refine rn 12 rfl ?_
 exact rt h rfl
theorem W214(F:Nat)(a1:(List UInt8))(a2:(List UInt8))(r:((List UInt8)×Bool))(h:M214 F a1 a2=some r):Pure Tryz.prog 214 [(sV a1),(sV a2)] (V.tup [(sV (r.1)),(bV (r.2))]):=by
 refine pin (fun r=>(V.tup [(sV (r.1)),(bV (r.2))])) r rfl Tryz.func214 rfl rfl rfl rfl rfl (fun w0 m0 hg=>?_)
 unfold M214 at h
 refine rn 10 rfl ?_
 refine cl h rfl rfl rfl (W234 _ _ _) rfl (fun y3 hx4 h=>?_)
 refine rn 2 rfl ?_
 refine spC h rfl (fun hb5 h=>?_) (fun hb5 h=>?_)
 ·refine rn 6 rfl ?_
  exact rt h rfl
 refine rn 9 rfl ?_
 refine ck h (fun hc6 h=>?_)
 refine aops_sliceT (0) ((w64 ((a1.length:Int) - (a2.length:Int))).toNat) (a1.take (w64 ((a1.length:Int) - (a2.length:Int))).toNat) tStr9 wants_none rfl rfl ⟨_,(by rw[Int.toNat_of_nonneg hc6.1];exact rfl)⟩ (Nat.zero_le _) hc6.2 slT_lo rfl ?_
 refine fo (rn 3 rfl ?_)
 exact rt h rfl
theorem W165(F:Nat)(a1:(List UInt8))(a2:(List UInt8))(r:((List UInt8)×Bool))(h:M165 F a1 a2=some r):Pure Tryz.prog 165 [(sV a1),(sV a2)] (V.tup [(sV (r.1)),(bV (r.2))]):=by
 refine pin (fun r=>(V.tup [(sV (r.1)),(bV (r.2))])) r rfl Tryz.func165 rfl rfl rfl rfl rfl (fun w0 m0 hg=>?_)
 unfold M165 at h
 refine rn 9 rfl ?_
 refine cl h rfl rfl rfl (W214 _ _ _) rfl (fun y3 hx4 h=>?_)
 refine rn 5 rfl ?_
 exact rt h rfl
theorem W118(F:Nat)(a1:TWaiver)(a2:(List UInt8))(r:Bool)(h:M118 F a1 a2=some r):Pure Tryz.prog 118 [(V.agg (encTWaiver a1)),(sV a2)] (bV r):=by
 refine pin (fun r=>(bV r)) r rfl Tryz.func118 rfl rfl rfl rfl rfl (fun w0 m0 hg=>?_)
 unfold M118 at h
 refine rn 10 rfl ?_
 refine cl h rfl rfl rfl (W165 _ _ _) rfl (fun y3 hx4 h=>?_)
 refine rn 10 rfl ?_
 refine spC h rfl (fun hb5 h=>?_) (fun hb5 h=>?_)
 ·refine rn 4 rfl ?_
  refine cl h rfl rfl rfl (W138 _ _ _) rfl (fun y6 hx7 h=>?_)
  refine rn 2 rfl ?_
  exact rt h rfl
 refine rn 9 rfl ?_
 exact rt h rfl
theorem W62(F:Nat)(a1:TPolicy)(a2:(List TFact))(r:(List Tpolicy_ruling))(h:M62 F a1 a2=some r):Pure Tryz.prog 62 [(V.agg (encTPolicy a1)),(V.lst 4 (a2.map encTFact))] (V.lst 3 (r.map encTpolicy_ruling)):=by
 refine pin (fun r=>(V.lst 3 (r.map encTpolicy_ruling))) r rfl Tryz.func62 rfl rfl rfl rfl rfl (fun w0 m0 hg=>?_)
 unfold M62 at h
 refine rn 13 rfl ?_
 refine ln rfl rfl ?_
 refine rn 2 rfl ?_
 refine jK h (fun(p:(List Tpolicy_ruling))=>(⟨[(5,(V.own 0 p.length))],[(0,(Ob.arr 197 3 (p.map encTpolicy_ruling)))],1⟩:St)) (fun k3 p=>k3 p=some r) (fun k3 h=>?_) ?_
 ·refine rn 1 rfl ?_
  refine wl (A:=a2) 1 rfl (fun hA43=>?_)
  refine lC (fun(p:Int×(List Tpolicy_ruling))=>(⟨[(2,(V.ptr 0 2 0 0)),(5,(V.own 1 (p.2).length)),(12,(V.lst 4 (a2.map encTFact))),(13,(iV ((a2.length:Nat):Int))),(14,(iV (p.1)))],[(0,(Ob.arr 49 2 [(encTPolicy a1)])),(1,(Ob.arr 197 3 ((p.2).map encTpolicy_ruling)))],2⟩:St)) (fun n p=>RG a2 (fun tl nn=>M62_L1 F a1 k3 tl p.2=some r) n p.1) (fun p h=>RG.zero h) (a2.length+1) (0,([]:List Tpolicy_ruling)) (RG.start h) (Ghost.trans (ghost_nilE 5 197 3 rfl) (ghost_ren 2 (fun i=>([0,1]:List Nat).getD i 0) _ _ (by decide) (EnvSub.get (.cons (Sub.ptr rfl rfl) (.cons (Sub.ownE rfl rfl (by simp)) (.cons (Sub.imm (Imm.lst _ _)) (.cons (Sub.imm (Imm.con _)) (.cons (Sub.imm (Imm.con _)) .nil)))))) (HpSub.get (.cons rfl (ObSub.box (.cons (Sub.imm (Imm.lst _ _)) (.cons (Sub.imm (Imm.lst _ _)) .nil))) (.cons rfl (ObSub.rows (rows_imm imms_encTpolicy_ruling)) .nil))) rfl)) (fun n p h=>?_)
  obtain⟨n7,l8⟩:=p
  refine rn 5 rfl ?_
  refine spL rfl (fun hb9=>?_) (fun hb9=>?_)
  ·obtain⟨x12,tl,hx13,h,hk1⟩:=RG.t hA43 h hb9
   unfold M62_L1 at h
   refine rn 2 rfl ?_
   refine jK h (fun(p:(List Tpolicy_ruling))=>(⟨[(2,(V.ptr 0 2 0 0)),(5,(V.own 1 p.length)),(12,(V.lst 4 (a2.map encTFact))),(13,(iV ((a2.length:Nat):Int))),(14,(iV n7))],[(0,(Ob.arr 49 2 [(encTPolicy a1)])),(1,(Ob.arr 197 3 (p.map encTpolicy_ruling)))],2⟩:St)) (fun k10 p=>k10 p=some r) (fun k10 h=>?_) ?_
   ·refine rn 3 rfl ?_
    refine ixh hx13 rfl rfl ?_
    refine rn 8 rfl ?_
    refine cl h rfl rfl rfl (W117 _ _ _) rfl (fun y14 hx15 h=>?_)
    refine rn 11 rfl ?_
    refine jK h (fun(p:Int×(List Int))=>(⟨[(2,(V.ptr 0 2 0 0)),(5,(V.own 1 l8.length)),(8,(V.ptr 2 3 0 0)),(12,(V.lst 4 (a2.map encTFact))),(13,(iV ((a2.length:Nat):Int))),(14,(iV n7))],[(0,(Ob.arr 49 2 [(encTPolicy a1)])),(1,(Ob.arr 197 3 (l8.map encTpolicy_ruling))),(2,(Ob.arr 197 3 [[(iV y14),(iV (p.1)),(V.own 3 (p.2).length)]])),(3,(Ob.arr 3 1 ((p.2).map encI_i64)))],4⟩:St)) (fun k16 p=>k16 p.1 p.2=some r) (fun k16 h=>?_) ?_
    ·refine spC h rfl (fun hb19 h=>?_) (fun hb19 h=>?_)
     ·refine rn 6 rfl ?_
      refine ixl h rfl rfl (fun x20 hx21 h=>?_)
      refine rn 15 rfl ?_
      refine ln rfl rfl ?_
      refine rn 2 rfl ?_
      refine jK h (fun(p:(List Int))=>(⟨[(2,(V.ptr 0 2 0 0)),(5,(V.own 1 l8.length)),(8,(V.ptr 2 3 0 0)),(12,(V.lst 4 (a2.map encTFact))),(13,(iV ((a2.length:Nat):Int))),(14,(iV n7))],[(0,(Ob.arr 49 2 [(encTPolicy a1)])),(1,(Ob.arr 197 3 (l8.map encTpolicy_ruling))),(2,(Ob.arr 197 3 [[(iV y14),(iV x20.Level),(V.own 3 p.length)]])),(3,(Ob.arr 3 1 (p.map encI_i64)))],4⟩:St)) (fun k22 p=>k22 p=some r) (fun k22 h=>?_) ?_
      ·refine rn 1 rfl ?_
       refine wl (A:=a1.Waivers) 35 rfl (fun hA41=>?_)
       refine lC (fun(p:Int×(List Int))=>(⟨[(2,(V.ptr 0 2 0 0)),(5,(V.own 1 l8.length)),(7,(V.ptr 2 4 0 0)),(8,(V.ptr 3 3 0 0)),(9,(V.ptr 4 9 0 0)),(12,(V.lst 4 (a2.map encTFact))),(13,(iV ((a2.length:Nat):Int))),(14,(iV n7)),(35,(V.lst 6 (a1.Waivers.map encTWaiver))),(36,(iV ((a1.Waivers.length:Nat):Int))),(37,(iV (p.1)))],[(0,(Ob.arr 49 2 [(encTPolicy a1)])),(1,(Ob.arr 197 3 (l8.map encTpolicy_ruling))),(2,(Ob.arr 29 4 [(encTFact x12)])),(3,(Ob.arr 197 3 [[(iV y14),(iV x20.Level),(V.own 5 (p.2).length)]])),(4,(Ob.arr 58 9 [(encTPolicyRule x20)])),(5,(Ob.arr 3 1 ((p.2).map encI_i64)))],6⟩:St)) (fun n p=>RG a1.Waivers (fun tl nn=>M62_L2 F x12 x20 k22 tl nn p.2=some r) n p.1) (fun p h=>RG.zero h) (a1.Waivers.length+1) (0,([]:List Int)) (RG.start h) (Ghost.trans (ghost_nilC 3 3 1 (Ob.arr 197 3 [[(iV y14),(iV x20.Level),(V.own 5 0)]]) (ObSub.box (.cons Sub.keepNil (.cons Sub.keepNil (.cons Sub.mkNil .nil))))) (ghost_ren 6 (fun i=>([0,1,2,3,4,5]:List Nat).getD i 0) _ _ (by decide) (EnvSub.get (.cons (Sub.ptr rfl rfl) (.cons (Sub.own rfl rfl) (.cons (Sub.ptr rfl rfl) (.cons (Sub.ptr rfl rfl) (.cons (Sub.ptr rfl rfl) (.cons (Sub.imm (Imm.lst _ _)) (.cons (Sub.imm (Imm.con _)) (.cons (Sub.imm (Imm.con _)) (.cons (Sub.imm (Imm.lst _ _)) (.cons (Sub.imm (Imm.con _)) (.cons (Sub.imm (Imm.con _)) .nil)))))))))))) (HpSub.get (.cons rfl (ObSub.box (.cons (Sub.imm (Imm.lst _ _)) (.cons (Sub.imm (Imm.lst _ _)) .nil))) (.cons rfl (ObSub.rows (rows_imm imms_encTpolicy_ruling)) (.cons rfl (ObSub.box (.cons (Sub.imm (Imm.con _)) (.cons (Sub.imm (Imm.con _)) (.cons (Sub.imm (Imm.lst _ _)) (.cons (Sub.imm (Imm.lst _ _)) .nil))))) (.cons rfl (ObSub.box (.cons (Sub.imm (Imm.con _)) (.cons (Sub.imm (Imm.con _)) (.cons (Sub.ownE rfl rfl (by simp)) .nil)))) (.cons rfl (ObSub.box (.cons (Sub.imm (Imm.con _)) (.cons (Sub.imm (Imm.con _)) (.cons (Sub.imm (Imm.con _)) (.cons (Sub.imm (Imm.con _)) (.cons (Sub.imm (Imm.lst _ _)) (.cons (Sub.imm (Imm.con _)) (.cons (Sub.imm (Imm.con _)) (.cons (Sub.imm (Imm.lst _ _)) (.cons (Sub.imm (Imm.con _)) .nil)))))))))) (.cons rfl (ObSub.rows (rows_imm imms_encI_i64)) .nil))))))) rfl)) (fun n p h=>?_)
       obtain⟨n26,l27⟩:=p
       refine rn 5 rfl ?_
       refine spL rfl (fun hb28=>?_) (fun hb28=>?_)
       ·obtain⟨x31,tl,hx32,h,hk2⟩:=RG.t hA41 h hb28
        unfold M62_L2 at h
        refine rn 2 rfl ?_
        refine jK h (fun(p:(List Int))=>(⟨[(2,(V.ptr 0 2 0 0)),(5,(V.own 1 l8.length)),(7,(V.ptr 2 4 0 0)),(8,(V.ptr 3 3 0 0)),(9,(V.ptr 4 9 0 0)),(12,(V.lst 4 (a2.map encTFact))),(13,(iV ((a2.length:Nat):Int))),(14,(iV n7)),(35,(V.lst 6 (a1.Waivers.map encTWaiver))),(36,(iV ((a1.Waivers.length:Nat):Int))),(37,(iV n26))],[(0,(Ob.arr 49 2 [(encTPolicy a1)])),(1,(Ob.arr 197 3 (l8.map encTpolicy_ruling))),(2,(Ob.arr 29 4 [(encTFact x12)])),(3,(Ob.arr 197 3 [[(iV y14),(iV x20.Level),(V.own 5 p.length)]])),(4,(Ob.arr 58 9 [(encTPolicyRule x20)])),(5,(Ob.arr 3 1 (p.map encI_i64)))],6⟩:St)) (fun k29 p=>k29 p=some r) (fun k29 h=>?_) ?_
        ·refine rn 4 rfl ?_
         refine ixh hx32 rfl rfl ?_
         refine rn 13 rfl ?_
         refine spO 47 h rfl (fun hb33 h=>?_) (fun hb33 h=>?_)
         ·refine rn 7 rfl ?_
          refine spO 54 h rfl (fun hb34 h=>?_) (fun hb34 h=>?_)
          ·refine rn 3 rfl ?_
           refine cl h rfl rfl rfl (W118 _ _ _) rfl (fun y35 hx36 h=>?_)
           refine rn 2 rfl ?_
           refine jK h (fun(p:(List Int))=>(⟨[(2,(V.ptr 0 2 0 0)),(5,(V.own 1 l8.length)),(7,(V.ptr 2 4 0 0)),(8,(V.ptr 3 3 0 0)),(9,(V.ptr 4 9 0 0)),(12,(V.lst 4 (a2.map encTFact))),(13,(iV ((a2.length:Nat):Int))),(14,(iV n7)),(35,(V.lst 6 (a1.Waivers.map encTWaiver))),(36,(iV ((a1.Waivers.length:Nat):Int))),(37,(iV n26)),(52,(bV (decide (x31.Level<x20.Level)))),(58,(bV y35))],[(0,(Ob.arr 49 2 [(encTPolicy a1)])),(1,(Ob.arr 197 3 (l8.map encTpolicy_ruling))),(2,(Ob.arr 29 4 [(encTFact x12)])),(3,(Ob.arr 197 3 [[(iV y14),(iV x20.Level),(V.own 5 p.length)]])),(4,(Ob.arr 58 9 [(encTPolicyRule x20)])),(5,(Ob.arr 3 1 (p.map encI_i64)))],6⟩:St)) (fun k37 p=>k37 p=some r) (fun k37 h=>?_) ?_
           ·refine spC h rfl (fun hb39 h=>?_) (fun hb39 h=>?_)
            ·refine rn 4 rfl ?_
             refine aops_buildSlice [(0,(iV n26))] [[(iV n26)]] tEl51 tZ3 rfl rfl rfl rfl wants_none (evp_cons rfl evp_nil) rfl rfl (by simp) rfl ?_
             refine fo ?_
             refine apO encI_i64 h rfl rfl rfl rfl rfl rfl rfl rfl (fun h=>?_)
             refine rn 3 rfl ?_
             exact jX (l27++([n26]:List Int)) h (gr [0,1,2,3,4,8] rfl (hB rfl rfl rfl (hR rfl rfl (hB rfl rfl rfl (hB rfl rfl rfl (hB rfl rfl rfl (hR rfl rfl .nil)))))) rfl)
            refine rn 1 rfl ?_
            exact jX l27 h (gr [0,1,2,3,4,5] rfl (hB rfl rfl rfl (hR rfl rfl (hB rfl rfl rfl (hB rfl rfl rfl (hB rfl rfl rfl (hR rfl rfl .nil)))))) rfl)
           intro l38 h
           refine rn 1 rfl ?_
           exact jX l38 h (gr [0,1,2,3,4,5] rfl (hB rfl rfl rfl (hR rfl rfl (hB rfl rfl rfl (hB rfl rfl rfl (hB rfl rfl rfl (hR rfl rfl .nil)))))) rfl)
          refine rn 9 rfl ?_
          exact jX l27 h (gr [0,1,2,3,4,5] rfl (hB rfl rfl rfl (hR rfl rfl (hB rfl rfl rfl (hB rfl rfl rfl (hB rfl rfl rfl (hR rfl rfl .nil)))))) rfl)
         refine rn 16 rfl ?_
         exact jX l27 h (gr [0,1,2,3,4,5] rfl (hB rfl rfl rfl (hR rfl rfl (hB rfl rfl rfl (hB rfl rfl rfl (hB rfl rfl rfl (hR rfl rfl .nil)))))) rfl)
        intro l30 h
        refine rn 4 rfl ?_
        exact jX ((w64 (n26+1)),l30) (hk2 _ h) (gr [0,1,2,3,4,5] rfl (hB rfl rfl rfl (hR rfl rfl (hB rfl rfl rfl (hB rfl rfl rfl (hB rfl rfl rfl (hR rfl rfl .nil)))))) rfl)
       replace h:=RG.f h hb28
       unfold M62_L2 at h
       refine rn 1 rfl ?_
       exact jX l27 h (gr [0,1,3,5] rfl (hB rfl rfl rfl (hR rfl rfl (hB rfl rfl rfl (hR rfl rfl .nil)))) rfl)
      intro l23 h
      exact jX (x20.Level,l23) h (gr [0,1,2,3] rfl (hB rfl rfl rfl (hR rfl rfl (hB rfl rfl rfl (hR rfl rfl .nil)))) rfl)
     refine rn 1 rfl ?_
     exact jX (1,([]:List Int)) h (Ghost.trans (ghost_nilC 3 3 1 (Ob.arr 197 3 [[(iV y14),(iV 1),(V.own 4 0)]]) (ObSub.box (.cons Sub.keepNil (.cons Sub.keepNil (.cons Sub.mkNil .nil))))) (ghost_ren 4 (fun i=>([0,1,3,4]:List Nat).getD i 0) _ _ (by decide) (EnvSub.get (.cons (Sub.ptr rfl rfl) (.cons (Sub.own rfl rfl) (.cons (Sub.ptr rfl rfl) (.cons (Sub.imm (Imm.lst _ _)) (.cons (Sub.imm (Imm.con _)) (.cons (Sub.imm (Imm.con _)) .nil))))))) (HpSub.get (.cons rfl (ObSub.box (.cons (Sub.imm (Imm.lst _ _)) (.cons (Sub.imm (Imm.lst _ _)) .nil))) (.cons rfl (ObSub.rows (rows_imm imms_encTpolicy_ruling)) (.cons rfl (ObSub.box (.cons (Sub.imm (Imm.con _)) (.cons (Sub.imm (Imm.con _)) (.cons (Sub.ownE rfl rfl (by simp)) .nil)))) (.cons rfl (ObSub.rows (rows_imm imms_encI_i64)) .nil))))) rfl))
    rintro⟨n17,l18⟩ h
    refine rn 3 rfl ?_
    refine aops_ghost (ghost_frzV 3 68 (V.agg [(iV y14),(iV n17),(V.lst 1 (l18.map encI_i64))]) rfl (rows_imm imms_encI_i64) rfl (Sub.agg (.cons Sub.keep (.cons Sub.keep (.cons (Sub.frzAll (rows:=l18.map encI_i64) (List.length_map ..).symm) .nil))))) ?_
    refine aops_buildSlice [(0,(V.agg [(iV y14),(iV n17),(V.lst 1 (l18.map encI_i64))]))] [[(iV y14),(iV n17),(V.lst 1 (l18.map encI_i64))]] tEl115 tZ197 rfl rfl rfl rfl wants_none (evp_cons rfl evp_nil) rfl rfl (by simp) rfl ?_
    refine fo ?_
    refine apO encTpolicy_ruling h rfl rfl rfl rfl rfl rfl rfl rfl (fun h=>?_)
    refine rn 3 rfl ?_
    exact jX (l8++([(Tpolicy_ruling.mk y14 n17 l18)]:List Tpolicy_ruling)) h (gr [0,5] rfl (hB rfl rfl rfl (hR rfl rfl .nil)) rfl)
   intro l11 h
   refine rn 4 rfl ?_
   exact jX ((w64 (n7+1)),l11) (hk1 _ h) (gr [0,1] rfl (hB rfl rfl rfl (hR rfl rfl .nil)) rfl)
  replace h:=RG.f h hb9
  unfold M62_L1 at h
  refine rn 1 rfl ?_
  exact jX l8 h (gr [1] rfl (hR rfl rfl .nil) rfl)
 intro l4 h
 refine rn 5 rfl ?_
 refine awp_ghost (ghost_frzEs 0 [4,5,72] rfl (rows_imm imms_encTpolicy_ruling) (List.forall_mem_cons.2 ⟨rfl,(List.forall_mem_cons.2 ⟨rfl,(List.forall_mem_cons.2 ⟨rfl,(fun _ hx=>nomatch hx)⟩)⟩)⟩) (List.length_map ..).symm) ?_
 refine fa ?_
 exact rt h rfl
theorem W61(F:Nat)(a1:TPolicy)(a2:(List Tpolicy_ruling))(a3:Int)(r:(List TDecision))(h:M61 F a1 a2 a3=some r):Pure Tryz.prog 61 [(V.agg (encTPolicy a1)),(V.lst 3 (a2.map encTpolicy_ruling)),(iV a3)] (V.lst 4 (r.map encTDecision)):=by
 refine pin (fun r=>(V.lst 4 (r.map encTDecision))) r rfl Tryz.func61 rfl rfl rfl rfl rfl (fun w0 m0 hg=>?_)
 unfold M61 at h
 refine rn 13 rfl ?_
 refine ln rfl rfl ?_
 refine rn 2 rfl ?_
 refine jK h (fun(p:(List TDecision))=>(⟨[(7,(V.own 0 p.length))],[(0,(Ob.arr 61 4 (p.map encTDecision)))],1⟩:St)) (fun k4 p=>k4 p=some r) (fun k4 h=>?_) ?_
 ·refine rn 1 rfl ?_
  refine wl (A:=a2) 1 rfl (fun hA30=>?_)
  refine lC (fun(p:Int×(List TDecision))=>(⟨[(2,(iV a3)),(3,(V.ptr 0 2 0 0)),(7,(V.own 1 (p.2).length)),(14,(V.lst 3 (a2.map encTpolicy_ruling))),(15,(iV ((a2.length:Nat):Int))),(16,(iV (p.1)))],[(0,(Ob.arr 49 2 [(encTPolicy a1)])),(1,(Ob.arr 61 4 ((p.2).map encTDecision)))],2⟩:St)) (fun n p=>RG a2 (fun tl nn=>M61_L1 F a1 a3 k4 tl nn p.2=some r) n p.1) (fun p h=>RG.zero h) (a2.length+1) (0,([]:List TDecision)) (RG.start h) (Ghost.trans (ghost_nilE 7 61 4 rfl) (ghost_ren 2 (fun i=>([0,1]:List Nat).getD i 0) _ _ (by decide) (EnvSub.get (.cons (Sub.imm (Imm.con _)) (.cons (Sub.ptr rfl rfl) (.cons (Sub.ownE rfl rfl (by simp)) (.cons (Sub.imm (Imm.lst _ _)) (.cons (Sub.imm (Imm.con _)) (.cons (Sub.imm (Imm.con _)) .nil))))))) (HpSub.get (.cons rfl (ObSub.box (.cons (Sub.imm (Imm.lst _ _)) (.cons (Sub.imm (Imm.lst _ _)) .nil))) (.cons rfl (ObSub.rows (rows_imm imms_encTDecision)) .nil))) rfl)) (fun n p h=>?_)
  obtain⟨n8,l9⟩:=p
  refine rn 5 rfl ?_
  refine spL rfl (fun hb10=>?_) (fun hb10=>?_)
  ·obtain⟨x13,tl,hx14,h,hk1⟩:=RG.t hA30 h hb10
   unfold M61_L1 at h
   refine rn 2 rfl ?_
   refine jK h (fun(p:(List TDecision))=>(⟨[(2,(iV a3)),(3,(V.ptr 0 2 0 0)),(7,(V.own 1 p.length)),(14,(V.lst 3 (a2.map encTpolicy_ruling))),(15,(iV ((a2.length:Nat):Int))),(16,(iV n8))],[(0,(Ob.arr 49 2 [(encTPolicy a1)])),(1,(Ob.arr 61 4 (p.map encTDecision)))],2⟩:St)) (fun k11 p=>k11 p=some r) (fun k11 h=>?_) ?_
   ·refine rn 4 rfl ?_
    refine ixh hx14 rfl rfl ?_
    refine rn 21 rfl ?_
    refine ln rfl rfl ?_
    refine rn 2 rfl ?_
    refine jK h (fun(p:Int×Int)=>(⟨[(2,(iV a3)),(3,(V.ptr 0 2 0 0)),(7,(V.own 1 l9.length)),(10,(V.ptr 2 4 0 0)),(14,(V.lst 3 (a2.map encTpolicy_ruling))),(15,(iV ((a2.length:Nat):Int))),(16,(iV n8))],[(0,(Ob.arr 49 2 [(encTPolicy a1)])),(1,(Ob.arr 61 4 (l9.map encTDecision))),(2,(Ob.arr 61 4 [[(iV n8),(iV x13.rule),(iV (p.1)),(iV (p.2))]]))],3⟩:St)) (fun k15 p=>k15 p.1 p.2=some r) (fun k15 h=>?_) ?_
    ·refine rn 1 rfl ?_
     refine wl (A:=x13.waivers) 28 rfl (fun hA28=>?_)
     refine lC (fun(p:Int)=>(⟨[(2,(iV a3)),(3,(V.ptr 0 2 0 0)),(7,(V.own 1 l9.length)),(10,(V.ptr 2 4 0 0)),(14,(V.lst 3 (a2.map encTpolicy_ruling))),(15,(iV ((a2.length:Nat):Int))),(16,(iV n8)),(28,(V.lst 1 (x13.waivers.map encI_i64))),(29,(iV ((x13.waivers.length:Nat):Int))),(30,(iV p))],[(0,(Ob.arr 49 2 [(encTPolicy a1)])),(1,(Ob.arr 61 4 (l9.map encTDecision))),(2,(Ob.arr 61 4 [[(iV n8),(iV x13.rule),(iV (-1)),(iV x13.level)]]))],3⟩:St)) (fun n p=>RG x13.waivers (fun tl nn=>M61_L2 F a1 a3 x13 k15 tl=some r) n p) (fun p h=>RG.zero h) (x13.waivers.length+1) 0 (RG.start h) (gr [0,1,3] rfl (hB rfl rfl rfl (hR rfl rfl (hB rfl rfl rfl .nil))) rfl) (fun n n19 h=>?_)
     refine rn 5 rfl ?_
     refine spL rfl (fun hb20=>?_) (fun hb20=>?_)
     ·obtain⟨x22,tl,hx23,h,hk2⟩:=RG.t hA28 h hb20
      unfold M61_L2 at h
      refine rn 2 rfl ?_
      refine jK h (fun _:Unit=>(⟨[(2,(iV a3)),(3,(V.ptr 0 2 0 0)),(7,(V.own 1 l9.length)),(10,(V.ptr 2 4 0 0)),(14,(V.lst 3 (a2.map encTpolicy_ruling))),(15,(iV ((a2.length:Nat):Int))),(16,(iV n8)),(28,(V.lst 1 (x13.waivers.map encI_i64))),(29,(iV ((x13.waivers.length:Nat):Int))),(30,(iV n19))],[(0,(Ob.arr 49 2 [(encTPolicy a1)])),(1,(Ob.arr 61 4 (l9.map encTDecision))),(2,(Ob.arr 61 4 [[(iV n8),(iV x13.rule),(iV (-1)),(iV x13.level)]]))],3⟩:St)) (fun k21 (_:Unit)=>k21=some r) (fun k21 h=>?_) ?_
      ·refine rn 3 rfl ?_
       refine ixh hx23 rfl rfl ?_
       refine rn 8 rfl ?_
       refine ixl h rfl rfl (fun x24 hx25 h=>?_)
       refine rn 11 rfl ?_
       refine spO 43 h rfl (fun hb26 h=>?_) (fun hb26 h=>?_)
       ·refine rn 6 rfl ?_
        refine spC h rfl (fun hb27 h=>?_) (fun hb27 h=>?_)
        ·refine rn 1 rfl ?_
         refine dr mixed (vs 7 rfl .nil) (by kernel_rfl) ?_
         refine rn 1 rfl ?_
         exact jX (x22,x24.Level) h (gr [0,1,2] rfl (hB rfl rfl rfl (hR rfl rfl (hB rfl rfl rfl .nil))) rfl)
        refine rn 2 rfl ?_
        exact jX () h (gr [0,1,2] rfl (hB rfl rfl rfl (hR rfl rfl (hB rfl rfl rfl .nil))) rfl)
       refine rn 9 rfl ?_
       exact jX () h (gr [0,1,2] rfl (hB rfl rfl rfl (hR rfl rfl (hB rfl rfl rfl .nil))) rfl)
      intro _ h
      refine rn 4 rfl ?_
      exact jX (w64 (n19+1)) (hk2 _ h) (gr [0,1,2] rfl (hB rfl rfl rfl (hR rfl rfl (hB rfl rfl rfl .nil))) rfl)
     replace h:=RG.f h hb20
     unfold M61_L2 at h
     refine rn 1 rfl ?_
     exact jX ((-1),x13.level) h (gr [0,1,2] rfl (hB rfl rfl rfl (hR rfl rfl (hB rfl rfl rfl .nil))) rfl)
    rintro⟨n16,n17⟩ h
    refine rn 3 rfl ?_
    refine aops_buildSlice [(0,(V.agg [(iV n8),(iV x13.rule),(iV n16),(iV n17)]))] [[(iV n8),(iV x13.rule),(iV n16),(iV n17)]] tEl54 tZ61 rfl rfl rfl rfl wants_none (evp_cons rfl evp_nil) rfl rfl (by simp) rfl ?_
    refine fo ?_
    refine apO encTDecision h rfl rfl rfl rfl rfl rfl rfl rfl (fun h=>?_)
    refine rn 3 rfl ?_
    exact jX (l9++([(TDecision.mk n8 x13.rule n16 n17)]:List TDecision)) h (gr [0,4] rfl (hB rfl rfl rfl (hR rfl rfl .nil)) rfl)
   intro l12 h
   refine rn 4 rfl ?_
   exact jX ((w64 (n8+1)),l12) (hk1 _ h) (gr [0,1] rfl (hB rfl rfl rfl (hR rfl rfl .nil)) rfl)
  replace h:=RG.f h hb10
  unfold M61_L1 at h
  refine rn 1 rfl ?_
  exact jX l9 h (gr [1] rfl (hR rfl rfl .nil) rfl)
 intro l5 h
 refine rn 5 rfl ?_
 refine awp_ghost (ghost_frzEs 0 [6,7,60] rfl (rows_imm imms_encTDecision) (List.forall_mem_cons.2 ⟨rfl,(List.forall_mem_cons.2 ⟨rfl,(List.forall_mem_cons.2 ⟨rfl,(fun _ hx=>nomatch hx)⟩)⟩)⟩) (List.length_map ..).symm) ?_
 refine fa ?_
 exact rt h rfl
theorem W19(F:Nat)(a1:TPolicy)(a2:(List TFact))(a3:Int)(r:((List TDecision)×Int))(h:M19 F a1 a2 a3=some r):Pure Tryz.prog 19 [(V.agg (encTPolicy a1)),(V.lst 4 (a2.map encTFact)),(iV a3)] (V.tup [(V.lst 4 ((r.1).map encTDecision)),(iV (r.2))]):=by
 refine pin (fun r=>(V.tup [(V.lst 4 ((r.1).map encTDecision)),(iV (r.2))])) r rfl Tryz.func19 rfl rfl rfl rfl rfl (fun w0 m0 hg=>?_)
 unfold M19 at h
 refine rn 12 rfl ?_
 refine cl h rfl rfl rfl (W60 _ _ _ _) rfl (fun y4 hx5 h=>?_)
 refine rn 7 rfl ?_
 refine spC h rfl (fun hb6 h=>?_) (fun hb6 h=>?_)
 ·refine rn 6 rfl ?_
  exact rt h rfl
 obtain⟨y7,hx8,h⟩:=bind_some h
 obtain⟨y9,hx10,h⟩:=bind_some h
 refine rn 2 rfl ?_
 refine dr mixed (vs 3 rfl (cD rfl rfl rfl rfl (W62 _ _ _ _ hx8) rfl (vs 1 rfl (cD rfl rfl rfl rfl (W61 _ _ _ _ _ hx10) rfl (vs 2 rfl .nil))))) (by kernel_rfl) ?_
 exact rt h rfl
theorem W11(F:Nat)(r:Bool)(h:M11 F=some r):Pure Tryz.prog 11 [] (bV r):=by
 unfold M11 at h
 replace h:=Option.some.inj h
 subst h
 exact told_pure
theorem W63(F:Nat)(a1:(List Int))(a2:Int)(r:Int)(h:M63 F a1 a2=some r):Pure Tryz.prog 63 [(V.lst 1 (a1.map encI_i64)),(iV a2)] (iV r):=by
 refine pin (fun r=>(iV r)) r rfl Tryz.func63 rfl rfl rfl rfl rfl (fun w0 m0 hg=>?_)
 unfold M63 at h
 refine rn 8 rfl ?_
 refine ln rfl rfl ?_
 refine rn 2 rfl ?_
 refine jK h (fun _:Unit=>(⟨[],[],0⟩:St)) (fun k3 (_:Unit)=>k3=some r) (fun k3 h=>?_) ?_
 ·refine rn 1 rfl ?_
  refine wl (A:=a1) 0 rfl (fun hA10=>?_)
  refine lC (fun(p:Int)=>(⟨[(0,(V.lst 1 (a1.map encI_i64))),(1,(iV a2)),(7,(iV ((a1.length:Nat):Int))),(8,(iV p))],[],0⟩:St)) (fun n p=>RG a1 (fun tl nn=>M63_L1 F a2 k3 tl nn=some r) n p) (fun p h=>RG.zero h) (a1.length+1) 0 (RG.start h) (g0 rfl rfl) (fun n n5 h=>?_)
  refine rn 5 rfl ?_
  refine spL rfl (fun hb6=>?_) (fun hb6=>?_)
  ·obtain⟨x7,tl,hx8,h,hk1⟩:=RG.t hA10 h hb6
   unfold M63_L1 at h
   refine rn 13 rfl ?_
   refine ixh hx8 rfl rfl ?_
   refine rn 3 rfl ?_
   refine spC h rfl (fun hb9 h=>?_) (fun hb9 h=>?_)
   ·refine rn 5 rfl ?_
    exact rt h rfl
   refine rn 6 rfl ?_
   exact jX (w64 (n5+1)) (hk1 _ h) (g0 rfl rfl)
  replace h:=RG.f h hb6
  unfold M63_L1 at h
  refine rn 1 rfl ?_
  exact jX () h (g0 rfl rfl)
 intro _ h
 refine rn 4 rfl ?_
 exact rt h rfl
theorem W20(F:Nat)(a1:(List Int))(a2:Int)(r:Bool)(h:M20 F a1 a2=some r):Pure Tryz.prog 20 [(V.lst 1 (a1.map encI_i64)),(iV a2)] (bV r):=by
 refine pin (fun r=>(bV r)) r rfl Tryz.func20 rfl rfl rfl rfl rfl (fun w0 m0 hg=>?_)
 unfold M20 at h
 refine rn 8 rfl ?_
 refine cl h rfl rfl rfl (W63 _ _ _) rfl (fun y3 hx4 h=>?_)
 refine rn 3 rfl ?_
 exact rt h rfl
theorem W5(F:Nat)(a1:TPolicy)(a2:(List TFact))(r:Bool)(h:M5 F a1 a2=some r):Pure Tryz.prog 5 [(V.agg (encTPolicy a1)),(V.lst 4 (a2.map encTFact))] (bV r):=by
 refine pin (fun r=>(bV r)) r rfl Tryz.func5 rfl rfl rfl rfl rfl (fun w0 m0 hg=>?_)
 unfold M5 at h
 refine rn 8 rfl ?_
 refine cl h rfl rfl rfl (W18 _ _) rfl (fun y3 hx4 h=>?_)
 refine rn 15 rfl ?_
 refine cl h rfl rfl rfl (W19 _ _ _ _) rfl (fun y5 hx6 h=>?_)
 refine rn 12 rfl ?_
 refine spO 31 h rfl (fun hb7 h=>?_) (fun hb7 h=>?_)
 ·refine rn 7 rfl ?_
  refine cl h rfl rfl rfl (W11 _) rfl (fun y8 hx9 h=>?_)
  refine rn 2 rfl ?_
  exact rt h rfl
 refine rn 4 rfl ?_
 refine spC h rfl (fun hb10 h=>?_) (fun hb10 h=>?_)
 ·refine rn 2 rfl ?_
  refine cl h rfl rfl rfl (W11 _) rfl (fun y11 hx12 h=>?_)
  refine rn 2 rfl ?_
  exact rt h rfl
 refine rn 12 rfl ?_
 refine ln rfl rfl ?_
 refine rn 2 rfl ?_
 refine jK h (fun(p:(List TPolicyRule))=>(⟨[(1,(V.lst 4 (a2.map encTFact))),(5,(V.lst 1 ((y3.1).map encI_i64))),(7,(V.lst 4 ((y5.1).map encTDecision))),(9,(V.ptr 0 2 0 0))],[(0,(Ob.arr 49 2 [[(V.own 1 p.length),nV]])),(1,(Ob.arr 58 9 (p.map encTPolicyRule)))],2⟩:St)) (fun k13 p=>k13 p=some r) (fun k13 h=>?_) ?_
 ·refine rn 1 rfl ?_
  refine wl (A:=a1.Rules) 38 rfl (fun hA28=>?_)
  refine lC (fun(p:Int×(List TPolicyRule))=>(⟨[(1,(V.lst 4 (a2.map encTFact))),(5,(V.lst 1 ((y3.1).map encI_i64))),(7,(V.lst 4 ((y5.1).map encTDecision))),(9,(V.ptr 0 2 0 0)),(38,(V.lst 9 (a1.Rules.map encTPolicyRule))),(39,(iV ((a1.Rules.length:Nat):Int))),(40,(iV (p.1)))],[(0,(Ob.arr 49 2 [[(V.own 1 (p.2).length),nV]])),(1,(Ob.arr 58 9 ((p.2).map encTPolicyRule)))],2⟩:St)) (fun n p=>RG a1.Rules (fun tl nn=>M5_L1 F y3 k13 tl nn p.2=some r) n p.1) (fun p h=>RG.zero h) (a1.Rules.length+1) (0,([]:List TPolicyRule)) (RG.start h) (Ghost.trans (ghost_nilC 1 58 9 (Ob.arr 49 2 [[(V.own 2 0),nV]]) (ObSub.box (.cons Sub.mkNil (.cons Sub.keepNil .nil)))) (ghost_ren 2 (fun i=>([1,2]:List Nat).getD i 0) _ _ (by decide) (EnvSub.get (.cons (Sub.imm (Imm.lst _ _)) (.cons (Sub.imm (Imm.lst _ _)) (.cons (Sub.imm (Imm.lst _ _)) (.cons (Sub.ptr rfl rfl) (.cons (Sub.imm (Imm.lst _ _)) (.cons (Sub.imm (Imm.con _)) (.cons (Sub.imm (Imm.con _)) .nil)))))))) (HpSub.get (.cons rfl (ObSub.box (.cons (Sub.ownE rfl rfl (by simp)) (.cons (Sub.imm (Imm.con _)) .nil))) (.cons rfl (ObSub.rows (rows_imm imms_encTPolicyRule)) .nil))) rfl)) (fun n p h=>?_)
  obtain⟨n17,l18⟩:=p
  refine rn 5 rfl ?_
  refine spL rfl (fun hb19=>?_) (fun hb19=>?_)
  ·obtain⟨x20,tl,hx21,h,hk1⟩:=RG.t hA28 h hb19
   unfold M5_L1 at h
   refine rn 6 rfl ?_
   refine ixh hx21 rfl rfl ?_
   refine rn 9 rfl ?_
   refine cl h rfl rfl rfl (W20 _ _ _) rfl (fun y22 hx23 h=>?_)
   refine rn 2 rfl ?_
   refine jK h (fun(p:(List TPolicyRule))=>(⟨[(1,(V.lst 4 (a2.map encTFact))),(5,(V.lst 1 ((y3.1).map encI_i64))),(7,(V.lst 4 ((y5.1).map encTDecision))),(9,(V.ptr 0 2 0 0)),(38,(V.lst 9 (a1.Rules.map encTPolicyRule))),(39,(iV ((a1.Rules.length:Nat):Int))),(40,(iV n17))],[(0,(Ob.arr 49 2 [[(V.own 1 p.length),nV]])),(1,(Ob.arr 58 9 (p.map encTPolicyRule)))],2⟩:St)) (fun k24 p=>k24 p=some r) (fun k24 h=>?_) ?_
   ·refine spC h rfl (fun hb26 h=>?_) (fun hb26 h=>?_)
    ·refine rn 4 rfl ?_
     refine aops_buildSlice [(0,(V.agg (encTPolicyRule x20)))] [(encTPolicyRule x20)] tEl46 tZ58 rfl rfl rfl rfl wants_none (evp_cons rfl evp_nil) rfl rfl (by simp) rfl ?_
     refine fo ?_
     refine apO encTPolicyRule h rfl rfl rfl rfl rfl rfl rfl rfl (fun h=>?_)
     refine rn 3 rfl ?_
     exact jX (l18++([x20]:List TPolicyRule)) h (gr [0,4] rfl (hB rfl rfl rfl (hR rfl rfl .nil)) rfl)
    refine rn 1 rfl ?_
    exact jX l18 h (gr [0,1] rfl (hB rfl rfl rfl (hR rfl rfl .nil)) rfl)
   intro l25 h
   refine rn 5 rfl ?_
   exact jX ((w64 (n17+1)),l25) (hk1 _ h) (gr [0,1] rfl (hB rfl rfl rfl (hR rfl rfl .nil)) rfl)
  replace h:=RG.f h hb19
  unfold M5_L1 at h
  refine rn 1 rfl ?_
  exact jX l18 h (gr [0,1] rfl (hB rfl rfl rfl (hR rfl rfl .nil)) rfl)
 intro l14 h
 refine rn 2 rfl ?_
 refine aops_ghost (ghost_frzC 1 0 (Ob.arr 49 2 [[(V.lst 9 (l14.map encTPolicyRule)),nV]]) rfl (rows_imm imms_encTPolicyRule) (ObSub.box (.cons (Sub.frzAll (rows:=l14.map encTPolicyRule) (List.length_map ..).symm) (.cons Sub.keep .nil)))) ?_
 refine fo (rn 2 rfl ?_)
 refine cl h rfl rfl rfl (W19 _ _ _ _) rfl (fun y29 hx30 h=>?_)
 refine rn 10 rfl ?_
 refine ln rfl rfl ?_
 refine rn 2 rfl ?_
 refine jK h (fun _:Unit=>(⟨[(9,(V.ptr 0 2 0 0))],[(0,(Ob.arr 49 2 [[(V.lst 9 (l14.map encTPolicyRule)),nV]]))],1⟩:St)) (fun k31 (_:Unit)=>k31=some r) (fun k31 h=>?_) ?_
 ·refine rn 1 rfl ?_
  refine wl (A:=(y5.1)) 7 rfl (fun hA46=>?_)
  refine lC (fun(p:Int)=>(⟨[(5,(V.lst 1 ((y3.1).map encI_i64))),(7,(V.lst 4 ((y5.1).map encTDecision))),(9,(V.ptr 0 2 0 0)),(12,(V.lst 4 ((y29.1).map encTDecision))),(13,(iV (y29.2))),(63,(iV (((y5.1).length:Nat):Int))),(64,(iV p))],[(0,(Ob.arr 49 2 [[(V.lst 9 (l14.map encTPolicyRule)),nV]]))],1⟩:St)) (fun n p=>RG (y5.1) (fun tl nn=>M5_L2 F y3 y5 y29 k31 tl nn=some r) n p) (fun p h=>RG.zero h) ((y5.1).length+1) 0 (RG.start h) (gr [0] rfl (hB rfl rfl rfl .nil) rfl) (fun n n33 h=>?_)
  refine rn 5 rfl ?_
  refine spL rfl (fun hb34=>?_) (fun hb34=>?_)
  ·obtain⟨x35,tl,hx36,h,hk2⟩:=RG.t hA46 h hb34
   unfold M5_L2 at h
   obtain⟨y37,hx38,h⟩:=bind_some h
   refine rn 9 rfl ?_
   refine bs h (fun hb39 h=>?_) (fun hb39 h=>?_)
   ·refine dr mixed (vs 3 rfl (iD hx36 rfl rfl rfl (vs 2 rfl (cD rfl rfl rfl rfl (W20 _ _ _ _ hx38) rfl (vb hb39 rfl (vs 16 rfl .nil)))))) (by kernel_rfl) ?_
    refine rn 5 rfl ?_
    exact rt h rfl
   refine bs h (fun hb40 h=>?_) (fun hb40 h=>?_)
   ·refine dr mixed (vs 3 rfl (iD hx36 rfl rfl rfl (vs 2 rfl (cD rfl rfl rfl rfl (W20 _ _ _ _ hx38) rfl (vb hb39 rfl (vs 3 rfl (vb hb40 rfl (vs 12 rfl .nil)))))))) (by kernel_rfl) ?_
    refine rn 5 rfl ?_
    exact rt h rfl
   obtain⟨x41,hx42,h⟩:=bind_some h
   obtain⟨x43,hx44,h⟩:=bind_some h
   refine dr mixed (vs 3 rfl (iD hx36 rfl rfl rfl (vs 2 rfl (cD rfl rfl rfl rfl (W20 _ _ _ _ hx38) rfl (vb hb39 rfl (vs 3 rfl (vb hb40 rfl (vs 2 rfl (iD hx42 rfl rfl rfl (vs 4 rfl (iD hx44 rfl rfl rfl (vs 4 rfl .nil)))))))))))) (by kernel_rfl) ?_
   refine spC h rfl (fun hb45 h=>?_) (fun hb45 h=>?_)
   ·refine rn 4 rfl ?_
    exact rt h rfl
   refine rn 6 rfl ?_
   exact jX (w64 (n33+1)) (hk2 _ h) (gr [0] rfl (hB rfl rfl rfl .nil) rfl)
  replace h:=RG.f h hb34
  unfold M5_L2 at h
  refine rn 1 rfl ?_
  exact jX () h (gr [0] rfl (hB rfl rfl rfl .nil) rfl)
 intro _ h
 refine rn 3 rfl ?_
 refine cl h rfl rfl rfl (W18 _ _) rfl (fun y47 hx48 h=>?_)
 refine rn 11 rfl ?_
 refine spO 99 h rfl (fun hb49 h=>?_) (fun hb49 h=>?_)
 ·refine rn 1 rfl ?_
  refine ln rfl rfl ?_
  refine rn 3 rfl ?_
  refine spO 104 h rfl (fun hb50 h=>?_) (fun hb50 h=>?_)
  ·refine cl h rfl rfl rfl (W11 _) rfl (fun y51 hx52 h=>?_)
   refine rn 3 rfl ?_
   exact rt h rfl
  refine rn 4 rfl ?_
  exact rt h rfl
 refine rn 9 rfl ?_
 exact rt h rfl
end Go.Proofs.YtelmfadihfcgnaaGreatDoor
