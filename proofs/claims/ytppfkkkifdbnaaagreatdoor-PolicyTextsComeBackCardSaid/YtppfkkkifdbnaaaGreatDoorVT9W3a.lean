/- Part of the proof. -/
import Derived.Test.YtppfkkkifdbnaaaGreatDoorVT9Rep
import Derived.Test.YtppfkkkifdbnaaaGreatDoorVTcE
set_option linter.unusedSimpArgs false
set_option linter.unusedVariables false
namespace Go.Proofs.YtppfkkkifdbnaaaGreatDoor
open Go Go.Pv
set_option maxRecDepth 100000
theorem W59(F:Nat)(a1:(List UInt8))(r:Bool)(h:M59 F a1=some r):PureG gl Tryz.prog 59 [(sV a1)] (bV r):=by
 refine pin (fun r=>(bV r)) r rfl Tryz.func59 rfl rfl rfl rfl rfl (fun w0 m0 hg=>?_)
 unfold M59 at h
 refine rn 16 rfl ?_
 refine jK h (fun(p:Bool)=>(⟨[(4,(bV p))],[],0⟩:St)) (fun k2 p=>k2 p=some r) (fun k2 h=>?_) ?_
 ·refine spC h rfl (fun hb4 h=>?_) (fun hb4 h=>?_)
  ·refine rn 1 rfl ?_
   exact jX (a1==([114,117,108,101]:List UInt8)) h (g0 rfl rfl)
  refine rn 5 rfl ?_
  refine spC h rfl (fun hb5 h=>?_) (fun hb5 h=>?_)
  ·refine rn 1 rfl ?_
   exact jX (a1==([97,98,111,117,116]:List UInt8)) h (g0 rfl rfl)
  refine rn 5 rfl ?_
  refine spC h rfl (fun hb6 h=>?_) (fun hb6 h=>?_)
  ·refine rn 1 rfl ?_
   exact jX (a1==([119,104,101,110]:List UInt8)) h (g0 rfl rfl)
  refine rn 5 rfl ?_
  refine spC h rfl (fun hb7 h=>?_) (fun hb7 h=>?_)
  ·refine rn 1 rfl ?_
   exact jX (a1==([119,97,105,118,101]:List UInt8)) h (g0 rfl rfl)
  refine rn 5 rfl ?_
  refine spC h rfl (fun hb8 h=>?_) (fun hb8 h=>?_)
  ·refine rn 1 rfl ?_
   exact jX (a1==([102,111,114]:List UInt8)) h (g0 rfl rfl)
  refine rn 5 rfl ?_
  refine spC h rfl (fun hb9 h=>?_) (fun hb9 h=>?_)
  ·refine rn 1 rfl ?_
   exact jX (a1==([102,114,111,109]:List UInt8)) h (g0 rfl rfl)
  refine rn 5 rfl ?_
  refine spC h rfl (fun hb10 h=>?_) (fun hb10 h=>?_)
  ·refine rn 1 rfl ?_
   exact jX (a1==([116,111]:List UInt8)) h (g0 rfl rfl)
  refine rn 5 rfl ?_
  refine spC h rfl (fun hb11 h=>?_) (fun hb11 h=>?_)
  ·refine rn 1 rfl ?_
   exact jX (a1==([98,121]:List UInt8)) h (g0 rfl rfl)
  refine rn 5 rfl ?_
  refine spC h rfl (fun hb12 h=>?_) (fun hb12 h=>?_)
  ·refine rn 1 rfl ?_
   exact jX (a1==([97,115]:List UInt8)) h (g0 rfl rfl)
  refine rn 5 rfl ?_
  refine spC h rfl (fun hb13 h=>?_) (fun hb13 h=>?_)
  ·refine rn 1 rfl ?_
   exact jX (a1==([112,97,115,115]:List UInt8)) h (g0 rfl rfl)
  refine rn 5 rfl ?_
  refine spC h rfl (fun hb14 h=>?_) (fun hb14 h=>?_)
  ·refine rn 1 rfl ?_
   exact jX (a1==([110,111,116,101]:List UInt8)) h (g0 rfl rfl)
  refine rn 5 rfl ?_
  refine spC h rfl (fun hb15 h=>?_) (fun hb15 h=>?_)
  ·refine rn 1 rfl ?_
   exact jX (a1==([119,97,114,110]:List UInt8)) h (g0 rfl rfl)
  refine rn 5 rfl ?_
  refine spC h rfl (fun hb16 h=>?_) (fun hb16 h=>?_)
  ·refine rn 1 rfl ?_
   exact jX (a1==([100,101,110,121]:List UInt8)) h (g0 rfl rfl)
  refine rn 5 rfl ?_
  refine spC h rfl (fun hb17 h=>?_) (fun hb17 h=>?_)
  ·refine rn 1 rfl ?_
   exact jX (a1==([111,114]:List UInt8)) h (g0 rfl rfl)
  refine rn 5 rfl ?_
  refine spC h rfl (fun hb18 h=>?_) (fun hb18 h=>?_)
  ·refine rn 1 rfl ?_
   exact jX (a1==([97,110,100]:List UInt8)) h (g0 rfl rfl)
  refine rn 5 rfl ?_
  refine spC h rfl (fun hb19 h=>?_) (fun hb19 h=>?_)
  ·refine rn 1 rfl ?_
   exact jX (a1==([116,114,117,101]:List UInt8)) h (g0 rfl rfl)
  refine rn 5 rfl ?_
  refine spC h rfl (fun hb20 h=>?_) (fun hb20 h=>?_)
  ·refine rn 1 rfl ?_
   exact jX (a1==([105,115]:List UInt8)) h (g0 rfl rfl)
  refine rn 5 rfl ?_
  refine spC h rfl (fun hb21 h=>?_) (fun hb21 h=>?_)
  ·refine rn 1 rfl ?_
   exact jX (a1==([98,101,103,105,110,115]:List UInt8)) h (g0 rfl rfl)
  refine rn 5 rfl ?_
  refine spC h rfl (fun hb22 h=>?_) (fun hb22 h=>?_)
  ·refine rn 1 rfl ?_
   exact jX (a1==([104,97,115]:List UInt8)) h (g0 rfl rfl)
  refine rn 4 rfl ?_
  exact jX (a1==([110,111,116]:List UInt8)) h (g0 rfl rfl)
 intro b3 h
 refine spC h rfl (fun hb23 h=>?_) (fun hb23 h=>?_)
 ·refine rn 4 rfl ?_
  exact rt h rfl
 refine rn 6 rfl ?_
 exact rt h rfl
theorem W30(F:Nat)(a1:(List UInt8))(r:Bool)(h:M30 F a1=some r):PureG gl Tryz.prog 30 [(sV a1)] (bV r):=by
 refine pin (fun r=>(bV r)) r rfl Tryz.func30 rfl rfl rfl rfl rfl (fun w0 m0 hg=>?_)
 unfold M30 at h
 refine rn 11 rfl ?_
 refine jK h (fun _:Unit=>(⟨[(0,(sV a1))],[],0⟩:St)) (fun k2 (_:Unit)=>k2=some r) (fun k2 h=>?_) ?_
 ·refine rn 1 rfl ?_
  refine ck h (fun hA21 h=>?_)
  refine lC (fun(p:Int)=>(⟨[(0,(sV a1)),(6,(iV (a1.length:Int))),(7,(iV p))],[],0⟩:St)) (fun n p=>RC (a1.length:Int) (fun tl nn=>M30_L1 F a1 k2 tl nn=some r) n p) (fun p h=>RC.zero h) (Int.toNat (a1.length:Int)+1) 0 (RC.start h) (g0 rfl rfl) (fun n n4 h=>?_)
  refine rn 5 rfl ?_
  refine spL rfl (fun hb5=>?_) (fun hb5=>?_)
  ·obtain⟨tl,h,hk1⟩:=RC.t hA21 h hb5
   unfold M30_L1 at h
   refine rn 2 rfl ?_
   refine jK h (fun _:Unit=>(⟨[(0,(sV a1)),(6,(iV (a1.length:Int))),(7,(iV n4))],[],0⟩:St)) (fun k6 (_:Unit)=>k6=some r) (fun k6 h=>?_) ?_
   ·refine rn 10 rfl ?_
    refine ixs h rfl rfl (fun c7 hx8 h=>?_)
    refine rn 7 rfl ?_
    refine spO 15 h rfl (fun hb9 h=>?_) (fun hb9 h=>?_)
    ·refine rn 4 rfl ?_
     refine spO 19 h rfl (fun hb10 h=>?_) (fun hb10 h=>?_)
     ·refine rn 20 rfl ?_
      exact jX () h (g0 rfl rfl)
     refine rn 3 rfl ?_
     refine spO 22 h rfl (fun hb11 h=>?_) (fun hb11 h=>?_)
     ·refine rn 3 rfl ?_
      refine spO 25 h rfl (fun hb12 h=>?_) (fun hb12 h=>?_)
      ·refine rn 4 rfl ?_
       refine spO 29 h rfl (fun hb13 h=>?_) (fun hb13 h=>?_)
       ·refine rn 10 rfl ?_
        exact jX () h (g0 rfl rfl)
       refine rn 7 rfl ?_
       refine spC h rfl (fun hb14 h=>?_) (fun hb14 h=>?_)
       ·refine rn 4 rfl ?_
        exact rt h rfl
       refine rn 2 rfl ?_
       exact jX () h (g0 rfl rfl)
      refine rn 11 rfl ?_
      refine spC h rfl (fun hb15 h=>?_) (fun hb15 h=>?_)
      ·refine rn 4 rfl ?_
       exact rt h rfl
      refine rn 2 rfl ?_
      exact jX () h (g0 rfl rfl)
     refine rn 19 rfl ?_
     exact rt h rfl
    refine rn 7 rfl ?_
    refine spO 22 h rfl (fun hb16 h=>?_) (fun hb16 h=>?_)
    ·refine rn 3 rfl ?_
     refine spO 25 h rfl (fun hb17 h=>?_) (fun hb17 h=>?_)
     ·refine rn 4 rfl ?_
      refine spO 29 h rfl (fun hb18 h=>?_) (fun hb18 h=>?_)
      ·refine rn 10 rfl ?_
       exact jX () h (g0 rfl rfl)
      refine rn 7 rfl ?_
      refine spC h rfl (fun hb19 h=>?_) (fun hb19 h=>?_)
      ·refine rn 4 rfl ?_
       exact rt h rfl
      refine rn 2 rfl ?_
      exact jX () h (g0 rfl rfl)
     refine rn 11 rfl ?_
     refine spC h rfl (fun hb20 h=>?_) (fun hb20 h=>?_)
     ·refine rn 4 rfl ?_
      exact rt h rfl
     refine rn 2 rfl ?_
     exact jX () h (g0 rfl rfl)
    refine rn 19 rfl ?_
    exact rt h rfl
   intro _ h
   refine rn 4 rfl ?_
   exact jX (w64 (n4+1)) (hk1 _ h) (g0 rfl rfl)
  replace h:=RC.f h hb5
  unfold M30_L1 at h
  refine rn 1 rfl ?_
  exact jX () h (g0 rfl rfl)
 intro _ h
 refine rn 5 rfl ?_
 refine spO 39 h rfl (fun hb22 h=>?_) (fun hb22 h=>?_)
 ·refine rn 5 rfl ?_
  refine spO 44 h rfl (fun hb23 h=>?_) (fun hb23 h=>?_)
  ·refine rn 1 rfl ?_
   refine cl h rfl rfl rfl (W59 _ _) rfl (fun y24 hx25 h=>?_)
   refine rn 4 rfl ?_
   exact rt h rfl
  refine rn 6 rfl ?_
  exact rt h rfl
 refine rn 11 rfl ?_
 exact rt h rfl
theorem W60_B(R60:TTest->Int->Option (Int×Int))(hR60:∀(a1:TTest) (a2:Int) (r:(Int×Int)),R60 a1 a2=some r->PureG gl Tryz.prog 60 [(V.agg (encTTest a1)),(iV a2)] (V.tup [(iV (r.1)),(iV (r.2))]))(F:Nat)(a1:TTest)(a2:Int)(r:(Int×Int))(h:M60_B R60 F a1 a2=some r):PureG gl Tryz.prog 60 [(V.agg (encTTest a1)),(iV a2)] (V.tup [(iV (r.1)),(iV (r.2))]):=by
 refine pin (fun r=>(V.tup [(iV (r.1)),(iV (r.2))])) r rfl Tryz.func60 rfl rfl rfl rfl rfl (fun w0 m0 hg=>?_)
 unfold M60_B at h
 refine rn 18 rfl ?_
 refine spC h rfl (fun hb3 h=>?_) (fun hb3 h=>?_)
 ·refine rn 7 rfl ?_
  exact rt h rfl
 refine rn 6 rfl ?_
 refine ln rfl rfl ?_
 refine rn 2 rfl ?_
 refine jK h (fun(p:Int×Int)=>(⟨[(4,(iV (p.1))),(5,(iV (p.2)))],[],0⟩:St)) (fun k4 p=>k4 p.1 p.2=some r) (fun k4 h=>?_) ?_
 ·refine rn 1 rfl ?_
  refine wl (A:=a1.Kids) 16 rfl (fun hA20=>?_)
  refine lC (fun(p:Int×Int×Int)=>(⟨[(1,(iV a2)),(4,(iV (p.1))),(5,(iV (p.2.1))),(16,(V.lst 6 (a1.Kids.map KRow.row))),(17,(iV ((a1.Kids.length:Nat):Int))),(18,(iV (p.2.2)))],[],0⟩:St)) (fun n p=>RG a1.Kids (fun tl nn=>M60_L1 R60 F a2 k4 tl p.1 p.2.1=some r) n p.2.2) (fun p h=>RG.zero h) (a1.Kids.length+1) (1,a2,0) (RG.start h) (g0 rfl rfl) (fun n p h=>?_)
  obtain⟨n10,n11,n12⟩:=p
  refine rn 5 rfl ?_
  refine spL rfl (fun hb13=>?_) (fun hb13=>?_)
  ·obtain⟨x14,tl,hx15,h,hk1⟩:=RG.t hA20 h hb13
   unfold M60_L1 at h
   refine rn 5 rfl ?_
   refine ixh hx15 rfl rfl ?_
   obtain⟨y16,hx17,h⟩:=bind_some h
   refine kroO 20 hx17 rfl ?_
   refine rn 9 rfl ?_
   refine cl h rfl rfl rfl (hR60 _ _) rfl (fun y18 hx19 h=>?_)
   refine rn 22 rfl ?_
   exact jX ((if 61<(w64 (n10+(y18.1))) then 61 else (w64 (n10+(y18.1)))),(if (y18.2)>n11 then (y18.2) else n11),(w64 (n12+1))) (hk1 _ h) (g0 rfl rfl)
  replace h:=RG.f h hb13
  unfold M60_L1 at h
  refine rn 1 rfl ?_
  exact jX (n10,n11) h (g0 rfl rfl)
 rintro⟨n5,n6⟩ h
 refine rn 7 rfl ?_
 exact rt h rfl
theorem W60:∀(F:Nat) (a1:TTest) (a2:Int) (r:(Int×Int)) (h:M60 F a1 a2=some r),PureG gl Tryz.prog 60 [(V.agg (encTTest a1)),(iV a2)] (V.tup [(iV (r.1)),(iV (r.2))]):=by
 intro F
 induction F with
 |zero=>intros;simp[M60] at *
 |succ F ih=>exact fun a1 a2 r h=>W60_B (M60 F) ih F a1 a2 r h
theorem W89(F:Nat)(r:(Nat->Tpolicy_uses))(h:M89 F  = some r):PureG gl Tryz.prog 89 [] (V.agg [(bV (r 0).name),(bV (r 0).texts),(bV (r 0).number),(iV (r 0).kids),(bV (r 1).name),(bV (r 1).texts),(bV (r 1).number),(iV (r 1).kids),(bV (r 2).name),(bV (r 2).texts),(bV (r 2).number),(iV (r 2).kids),(bV (r 3).name),(bV (r 3).texts),(bV (r 3).number),(iV (r 3).kids),(bV (r 4).name),(bV (r 4).texts),(bV (r 4).number),(iV (r 4).kids),(bV (r 5).name),(bV (r 5).texts),(bV (r 5).number),(iV (r 5).kids),(bV (r 6).name),(bV (r 6).texts),(bV (r 6).number),(iV (r 6).kids),(bV (r 7).name),(bV (r 7).texts),(bV (r 7).number),(iV (r 7).kids),(bV (r 8).name),(bV (r 8).texts),(bV (r 8).number),(iV (r 8).kids)]):=by
 refine pin (fun r=>(V.agg [(bV (r 0).name),(bV (r 0).texts),(bV (r 0).number),(iV (r 0).kids),(bV (r 1).name),(bV (r 1).texts),(bV (r 1).number),(iV (r 1).kids),(bV (r 2).name),(bV (r 2).texts),(bV (r 2).number),(iV (r 2).kids),(bV (r 3).name),(bV (r 3).texts),(bV (r 3).number),(iV (r 3).kids),(bV (r 4).name),(bV (r 4).texts),(bV (r 4).number),(iV (r 4).kids),(bV (r 5).name),(bV (r 5).texts),(bV (r 5).number),(iV (r 5).kids),(bV (r 6).name),(bV (r 6).texts),(bV (r 6).number),(iV (r 6).kids),(bV (r 7).name),(bV (r 7).texts),(bV (r 7).number),(iV (r 7).kids),(bV (r 8).name),(bV (r 8).texts),(bV (r 8).number),(iV (r 8).kids)])) r rfl Tryz.func89 rfl rfl rfl rfl rfl (fun w0 m0 hg=>?_)
 unfold M89 at h
 refine rn 13 rfl ?_
 refine aops_buildA [(2,(V.agg [(bV true),(bV true),(bV false),(iV 0)])),(3,(V.agg [(bV true),(bV true),(bV false),(iV 0)])),(4,(V.agg [(bV true),(bV false),(bV false),(iV 0)])),(5,(V.agg [(bV true),(bV false),(bV true),(iV 0)])),(6,(V.agg [(bV false),(bV false),(bV false),(iV 1)])),(7,(V.agg [(bV false),(bV false),(bV false),(iV (-1))])),(8,(V.agg [(bV false),(bV false),(bV false),(iV (-1))]))] [(bV false),(bV false),(bV false),(iV 0),(bV false),(bV false),(bV false),(iV 0),(bV true),(bV true),(bV false),(iV 0),(bV true),(bV true),(bV false),(iV 0),(bV true),(bV false),(bV false),(iV 0),(bV true),(bV false),(bV true),(iV 0),(bV false),(bV false),(bV false),(iV 1),(bV false),(bV false),(bV false),(iV (-1)),(bV false),(bV false),(bV false),(iV (-1))] tZ150 tArr150 rfl wants_none (evp_cons rfl (evp_cons rfl (evp_cons rfl (evp_cons rfl (evp_cons rfl (evp_cons rfl (evp_cons rfl evp_nil))))))) rfl rfl ?_
 refine fo (rn 2 rfl ?_)
 exact rt h rfl
theorem W90(F:Nat)(a1:TTest)(r:Bool)(h:M90 F a1=some r):PureG gl Tryz.prog 90 [(V.agg (encTTest a1))] (bV r):=by
 refine pin (fun r=>(bV r)) r rfl Tryz.func90 rfl rfl rfl rfl rfl (fun w0 m0 hg=>?_)
 unfold M90 at h
 obtain⟨y2,hx3,h⟩:=bind_some h
 refine rn 6 rfl ?_
 refine ck h (fun hc4 h=>?_)
 refine awp_ghost ghost_res ?_
 refine fa ?_
 refine dr mixed (cD rfl rfl rfl rfl (W89 _ _ hx3) rfl (vs 2 rfl (xD (OD.mk [(4,(V.agg [(bV (y2 0).name),(bV (y2 0).texts),(bV (y2 0).number),(iV (y2 0).kids),(bV (y2 1).name),(bV (y2 1).texts),(bV (y2 1).number),(iV (y2 1).kids),(bV (y2 2).name),(bV (y2 2).texts),(bV (y2 2).number),(iV (y2 2).kids),(bV (y2 3).name),(bV (y2 3).texts),(bV (y2 3).number),(iV (y2 3).kids),(bV (y2 4).name),(bV (y2 4).texts),(bV (y2 4).number),(iV (y2 4).kids),(bV (y2 5).name),(bV (y2 5).texts),(bV (y2 5).number),(iV (y2 5).kids),(bV (y2 6).name),(bV (y2 6).texts),(bV (y2 6).number),(iV (y2 6).kids),(bV (y2 7).name),(bV (y2 7).texts),(bV (y2 7).number),(iV (y2 7).kids),(bV (y2 8).name),(bV (y2 8).texts),(bV (y2 8).number),(iV (y2 8).kids)])),(6,(iV a1.Kind))] [] [(7,(V.agg (encTpolicy_uses (y2 a1.Kind.toNat))))] []) ⟨⟨rfl,rfl,trivial⟩,trivial⟩ (by exact fun S hn h hh=>aops_indexA (encTpolicy_uses (y2 a1.Kind.toNat)) tAA150 wants_none h.1 h.2.1 hc4 rfl (arr_row (f:=y2) rfl (fun x=>rfl) hc4.2) rfl (aops_nil ⟨rfl,rfl⟩)) rfl (xD (OD.mk [] [(1,Ob.res)] [(3,(V.ptr 1 4 0 0))] [(1,(Ob.arr 149 4 [[(bV false),(bV false),(bV false),(iV 0)]]))]) ⟨trivial,⟨rfl,trivial⟩⟩ (by exact fun S hn h hh=>aops_alloc_at 1 rfl hn hh.1 tZ149 rfl rfl wants_none rfl (aops_nil ⟨rfl,rfl⟩)) rfl (vs 1 rfl .nil))))) (by kernel_rfl) ?_
 refine rn 7 rfl ?_
 refine spO 11 h rfl (fun hb5 h=>?_) (fun hb5 h=>?_)
 ·refine rn 5 rfl ?_
  refine spO 16 h rfl (fun hb6 h=>?_) (fun hb6 h=>?_)
  ·refine rn 31 rfl ?_
   exact rt h rfl
  refine rn 4 rfl ?_
  refine spO 20 h rfl (fun hb7 h=>?_) (fun hb7 h=>?_)
  ·refine rn 2 rfl ?_
   refine ln rfl rfl ?_
   refine rn 4 rfl ?_
   refine spO 27 h rfl (fun hb8 h=>?_) (fun hb8 h=>?_)
   ·refine rn 20 rfl ?_
    exact rt h rfl
   refine rn 4 rfl ?_
   refine spO 31 h rfl (fun hb9 h=>?_) (fun hb9 h=>?_)
   ·refine rn 4 rfl ?_
    refine spO 35 h rfl (fun hb10 h=>?_) (fun hb10 h=>?_)
    ·refine rn 12 rfl ?_
     exact rt h rfl
    refine rn 7 rfl ?_
    refine spC h rfl (fun hb11 h=>?_) (fun hb11 h=>?_)
    ·refine rn 4 rfl ?_
     exact rt h rfl
    refine rn 8 rfl ?_
    refine spC h rfl (fun hb12 h=>?_) (fun hb12 h=>?_)
    ·refine rn 4 rfl ?_
     refine ln rfl rfl ?_
     refine rn 3 rfl ?_
     exact rt h rfl
    refine rn 5 rfl ?_
    refine ln rfl rfl ?_
    refine rn 5 rfl ?_
    exact rt h rfl
   refine rn 20 rfl ?_
   refine spC h rfl (fun hb13 h=>?_) (fun hb13 h=>?_)
   ·refine rn 4 rfl ?_
    refine ln rfl rfl ?_
    refine rn 3 rfl ?_
    exact rt h rfl
   refine rn 5 rfl ?_
   refine ln rfl rfl ?_
   refine rn 5 rfl ?_
   exact rt h rfl
  refine rn 11 rfl ?_
  refine spO 31 h rfl (fun hb14 h=>?_) (fun hb14 h=>?_)
  ·refine rn 4 rfl ?_
   refine spO 35 h rfl (fun hb15 h=>?_) (fun hb15 h=>?_)
   ·refine rn 12 rfl ?_
    exact rt h rfl
   refine rn 7 rfl ?_
   refine spC h rfl (fun hb16 h=>?_) (fun hb16 h=>?_)
   ·refine rn 4 rfl ?_
    exact rt h rfl
   refine rn 8 rfl ?_
   refine spC h rfl (fun hb17 h=>?_) (fun hb17 h=>?_)
   ·refine rn 4 rfl ?_
    refine ln rfl rfl ?_
    refine rn 3 rfl ?_
    exact rt h rfl
   refine rn 5 rfl ?_
   refine ln rfl rfl ?_
   refine rn 5 rfl ?_
   exact rt h rfl
  refine rn 20 rfl ?_
  refine spC h rfl (fun hb18 h=>?_) (fun hb18 h=>?_)
  ·refine rn 4 rfl ?_
   refine ln rfl rfl ?_
   refine rn 3 rfl ?_
   exact rt h rfl
  refine rn 5 rfl ?_
  refine ln rfl rfl ?_
  refine rn 5 rfl ?_
  exact rt h rfl
 refine rn 9 rfl ?_
 refine spO 20 h rfl (fun hb19 h=>?_) (fun hb19 h=>?_)
 ·refine rn 2 rfl ?_
  refine ln rfl rfl ?_
  refine rn 4 rfl ?_
  refine spO 27 h rfl (fun hb20 h=>?_) (fun hb20 h=>?_)
  ·refine rn 20 rfl ?_
   exact rt h rfl
  refine rn 4 rfl ?_
  refine spO 31 h rfl (fun hb21 h=>?_) (fun hb21 h=>?_)
  ·refine rn 4 rfl ?_
   refine spO 35 h rfl (fun hb22 h=>?_) (fun hb22 h=>?_)
   ·refine rn 12 rfl ?_
    exact rt h rfl
   refine rn 7 rfl ?_
   refine spC h rfl (fun hb23 h=>?_) (fun hb23 h=>?_)
   ·refine rn 4 rfl ?_
    exact rt h rfl
   refine rn 8 rfl ?_
   refine spC h rfl (fun hb24 h=>?_) (fun hb24 h=>?_)
   ·refine rn 4 rfl ?_
    refine ln rfl rfl ?_
    refine rn 3 rfl ?_
    exact rt h rfl
   refine rn 5 rfl ?_
   refine ln rfl rfl ?_
   refine rn 5 rfl ?_
   exact rt h rfl
  refine rn 20 rfl ?_
  refine spC h rfl (fun hb25 h=>?_) (fun hb25 h=>?_)
  ·refine rn 4 rfl ?_
   refine ln rfl rfl ?_
   refine rn 3 rfl ?_
   exact rt h rfl
  refine rn 5 rfl ?_
  refine ln rfl rfl ?_
  refine rn 5 rfl ?_
  exact rt h rfl
 refine rn 11 rfl ?_
 refine spO 31 h rfl (fun hb26 h=>?_) (fun hb26 h=>?_)
 ·refine rn 4 rfl ?_
  refine spO 35 h rfl (fun hb27 h=>?_) (fun hb27 h=>?_)
  ·refine rn 12 rfl ?_
   exact rt h rfl
  refine rn 7 rfl ?_
  refine spC h rfl (fun hb28 h=>?_) (fun hb28 h=>?_)
  ·refine rn 4 rfl ?_
   exact rt h rfl
  refine rn 8 rfl ?_
  refine spC h rfl (fun hb29 h=>?_) (fun hb29 h=>?_)
  ·refine rn 4 rfl ?_
   refine ln rfl rfl ?_
   refine rn 3 rfl ?_
   exact rt h rfl
  refine rn 5 rfl ?_
  refine ln rfl rfl ?_
  refine rn 5 rfl ?_
  exact rt h rfl
 refine rn 20 rfl ?_
 refine spC h rfl (fun hb30 h=>?_) (fun hb30 h=>?_)
 ·refine rn 4 rfl ?_
  refine ln rfl rfl ?_
  refine rn 3 rfl ?_
  exact rt h rfl
 refine rn 5 rfl ?_
 refine ln rfl rfl ?_
 refine rn 5 rfl ?_
 exact rt h rfl
theorem W65(F:Nat)(a1:(List UInt8))(r:Bool)(h:M65 F a1=some r):PureG gl Tryz.prog 65 [(sV a1)] (bV r):=by
 refine pin (fun r=>(bV r)) r rfl Tryz.func65 rfl rfl rfl rfl rfl (fun w0 m0 hg=>?_)
 unfold M65 at h
 refine rn 11 rfl ?_
 refine jK h (fun _:Unit=>(⟨[(0,(sV a1))],[],0⟩:St)) (fun k2 (_:Unit)=>k2=some r) (fun k2 h=>?_) ?_
 ·refine rn 1 rfl ?_
  refine ck h (fun hA12 h=>?_)
  refine lC (fun(p:Int)=>(⟨[(0,(sV a1)),(5,(iV (a1.length:Int))),(6,(iV p))],[],0⟩:St)) (fun n p=>RC (a1.length:Int) (fun tl nn=>M65_L1 F a1 k2 tl nn=some r) n p) (fun p h=>RC.zero h) (Int.toNat (a1.length:Int)+1) 0 (RC.start h) (g0 rfl rfl) (fun n n4 h=>?_)
  refine rn 5 rfl ?_
  refine spL rfl (fun hb5=>?_) (fun hb5=>?_)
  ·obtain⟨tl,h,hk1⟩:=RC.t hA12 h hb5
   unfold M65_L1 at h
   refine rn 12 rfl ?_
   refine ixs h rfl rfl (fun c6 hx7 h=>?_)
   refine rn 2 rfl ?_
   refine spO 13 h rfl (fun hb8 h=>?_) (fun hb8 h=>?_)
   ·refine rn 11 rfl ?_
    exact rt h rfl
   refine rn 2 rfl ?_
   refine ixs h rfl rfl (fun c9 hx10 h=>?_)
   refine rn 3 rfl ?_
   refine spC h rfl (fun hb11 h=>?_) (fun hb11 h=>?_)
   ·refine rn 4 rfl ?_
    exact rt h rfl
   refine rn 6 rfl ?_
   exact jX (w64 (n4+1)) (hk1 _ h) (g0 rfl rfl)
  replace h:=RC.f h hb5
  unfold M65_L1 at h
  refine rn 1 rfl ?_
  exact jX () h (g0 rfl rfl)
 intro _ h
 refine rn 7 rfl ?_
 exact rt h rfl
theorem W91(F:Nat)(a1:(List (List UInt8)))(r:Int)(h:M91 F a1=some r):PureG gl Tryz.prog 91 [(V.lst 1 (a1.map encS))] (iV r):=by
 refine pin (fun r=>(iV r)) r rfl Tryz.func91 rfl rfl rfl rfl rfl (fun w0 m0 hg=>?_)
 unfold M91 at h
 refine rn 9 rfl ?_
 refine ln rfl rfl ?_
 refine rn 3 rfl ?_
 refine spC h rfl (fun hb2 h=>?_) (fun hb2 h=>?_)
 ·refine rn 4 rfl ?_
  exact rt h rfl
 refine rn 3 rfl ?_
 refine ln rfl rfl ?_
 refine rn 3 rfl ?_
 refine spC h rfl (fun hb3 h=>?_) (fun hb3 h=>?_)
 ·refine rn 4 rfl ?_
  exact rt h rfl
 refine rn 6 rfl ?_
 refine ln rfl rfl ?_
 refine rn 2 rfl ?_
 refine jK h (fun _:Unit=>(⟨[],[],0⟩:St)) (fun k4 (_:Unit)=>k4=some r) (fun k4 h=>?_) ?_
 ·refine rn 1 rfl ?_
  refine wl (A:=a1) 0 rfl (fun hA18=>?_)
  refine lC (fun(p:Int)=>(⟨[(0,(V.lst 1 (a1.map encS))),(13,(V.lst 1 (a1.map encS))),(14,(iV ((a1.length:Nat):Int))),(15,(iV p))],[],0⟩:St)) (fun n p=>RG a1 (fun tl nn=>M91_L1 F a1 k4 tl nn=some r) n p) (fun p h=>RG.zero h) (a1.length+1) 0 (RG.start h) (g0 rfl rfl) (fun n n6 h=>?_)
  refine rn 5 rfl ?_
  refine spL rfl (fun hb7=>?_) (fun hb7=>?_)
  ·obtain⟨x8,tl,hx9,h,hk1⟩:=RG.t hA18 h hb7
   unfold M91_L1 at h
   refine rn 6 rfl ?_
   refine ixh hx9 rfl rfl ?_
   refine rn 8 rfl ?_
   refine cl h rfl rfl rfl (W65 _ _) rfl (fun y10 hx11 h=>?_)
   refine rn 3 rfl ?_
   refine jK h (fun _:Unit=>(⟨[(0,(V.lst 1 (a1.map encS))),(13,(V.lst 1 (a1.map encS))),(14,(iV ((a1.length:Nat):Int))),(15,(iV n6))],[],0⟩:St)) (fun k12 (_:Unit)=>k12=some r) (fun k12 h=>?_) ?_
   ·refine spC h rfl (fun hb13 h=>?_) (fun hb13 h=>?_)
    ·refine rn 4 rfl ?_
     exact rt h rfl
    refine rn 5 rfl ?_
    refine spO 27 h rfl (fun hb14 h=>?_) (fun hb14 h=>?_)
    ·refine rn 4 rfl ?_
     refine ixl h rfl rfl (fun x15 hx16 h=>?_)
     refine rn 5 rfl ?_
     refine spC h rfl (fun hb17 h=>?_) (fun hb17 h=>?_)
     ·refine rn 4 rfl ?_
      exact rt h rfl
     refine rn 1 rfl ?_
     exact jX () h (g0 rfl rfl)
    refine rn 12 rfl ?_
    exact jX () h (g0 rfl rfl)
   intro _ h
   refine rn 6 rfl ?_
   exact jX (w64 (n6+1)) (hk1 _ h) (g0 rfl rfl)
  replace h:=RG.f h hb7
  unfold M91_L1 at h
  refine rn 1 rfl ?_
  exact jX () h (g0 rfl rfl)
 intro _ h
 refine rn 4 rfl ?_
 exact rt h rfl
theorem W92(F:Nat)(a1:Int)(r:Bool)(h:M92 F a1=some r):PureG gl Tryz.prog 92 [(iV a1)] (bV r):=by
 refine pin (fun r=>(bV r)) r rfl Tryz.func92 rfl rfl rfl rfl rfl (fun w0 m0 hg=>?_)
 unfold M92 at h
 refine rn 9 rfl ?_
 refine spO 5 h rfl (fun hb2 h=>?_) (fun hb2 h=>?_)
 ·refine rn 5 rfl ?_
  exact rt h rfl
 refine rn 5 rfl ?_
 exact rt h rfl
theorem W61_B(R61:TTest->Option Int)(hR61:∀(a1:TTest) (r:Int),R61 a1=some r->PureG gl Tryz.prog 61 [(V.agg (encTTest a1))] (iV r))(F:Nat)(a1:TTest)(r:Int)(h:M61_B R61 F a1=some r):PureG gl Tryz.prog 61 [(V.agg (encTTest a1))] (iV r):=by
 refine pin (fun r=>(iV r)) r rfl Tryz.func61 rfl rfl rfl rfl rfl (fun w0 m0 hg=>?_)
 unfold M61_B at h
 refine rn 12 rfl ?_
 refine spO 11 h rfl (fun hb2 h=>?_) (fun hb2 h=>?_)
 ·refine rn 10 rfl ?_
  exact rt h rfl
 refine rn 5 rfl ?_
 refine spC h rfl (fun hb3 h=>?_) (fun hb3 h=>?_)
 ·refine rn 4 rfl ?_
  exact rt h rfl
 obtain⟨y4,hx5,h⟩:=bind_some h
 refine rn 2 rfl ?_
 refine ck h (fun hc6 h=>?_)
 refine awp_ghost ghost_res ?_
 refine fa ?_
 refine dr mixed (cD rfl rfl rfl rfl (W89 _ _ hx5) rfl (vs 2 rfl (xD (OD.mk [(16,(V.agg [(bV (y4 0).name),(bV (y4 0).texts),(bV (y4 0).number),(iV (y4 0).kids),(bV (y4 1).name),(bV (y4 1).texts),(bV (y4 1).number),(iV (y4 1).kids),(bV (y4 2).name),(bV (y4 2).texts),(bV (y4 2).number),(iV (y4 2).kids),(bV (y4 3).name),(bV (y4 3).texts),(bV (y4 3).number),(iV (y4 3).kids),(bV (y4 4).name),(bV (y4 4).texts),(bV (y4 4).number),(iV (y4 4).kids),(bV (y4 5).name),(bV (y4 5).texts),(bV (y4 5).number),(iV (y4 5).kids),(bV (y4 6).name),(bV (y4 6).texts),(bV (y4 6).number),(iV (y4 6).kids),(bV (y4 7).name),(bV (y4 7).texts),(bV (y4 7).number),(iV (y4 7).kids),(bV (y4 8).name),(bV (y4 8).texts),(bV (y4 8).number),(iV (y4 8).kids)])),(18,(iV a1.Kind))] [] [(19,(V.agg (encTpolicy_uses (y4 a1.Kind.toNat))))] []) ⟨⟨rfl,rfl,trivial⟩,trivial⟩ (by exact fun S hn h hh=>aops_indexA (encTpolicy_uses (y4 a1.Kind.toNat)) tAA150 wants_none h.1 h.2.1 hc6 rfl (arr_row (f:=y4) rfl (fun x=>rfl) hc6.2) rfl (aops_nil ⟨rfl,rfl⟩)) rfl (xD (OD.mk [] [(1,Ob.res)] [(3,(V.ptr 1 4 0 0))] [(1,(Ob.arr 149 4 [[(bV false),(bV false),(bV false),(iV 0)]]))]) ⟨trivial,⟨rfl,trivial⟩⟩ (by exact fun S hn h hh=>aops_alloc_at 1 rfl hn hh.1 tZ149 rfl rfl wants_none rfl (aops_nil ⟨rfl,rfl⟩)) rfl (vs 1 rfl .nil))))) (by kernel_rfl) ?_
 refine rn 5 rfl ?_
 refine cl h rfl rfl rfl (W90 _ _) rfl (fun y7 hx8 h=>?_)
 refine rn 3 rfl ?_
 refine jK h (fun _:Unit=>(⟨[(1,(V.ptr 0 6 0 0)),(3,(V.ptr 1 4 0 0))],[(0,(Ob.arr 42 6 [(encTTest a1)])),(1,(Ob.arr 149 4 [(encTpolicy_uses (y4 a1.Kind.toNat))]))],2⟩:St)) (fun k9 (_:Unit)=>k9=some r) (fun k9 h=>?_) ?_
 ·refine spC h rfl (fun hb10 h=>?_) (fun hb10 h=>?_)
  ·refine rn 4 rfl ?_
   exact rt h rfl
  refine rn 5 rfl ?_
  refine spO 27 h rfl (fun hb11 h=>?_) (fun hb11 h=>?_)
  ·refine rn 2 rfl ?_
   refine cl h rfl rfl rfl (W30 _ _) rfl (fun y12 hx13 h=>?_)
   refine rn 4 rfl ?_
   refine spC h rfl (fun hb14 h=>?_) (fun hb14 h=>?_)
   ·refine rn 4 rfl ?_
    exact rt h rfl
   refine rn 1 rfl ?_
   exact jX () h (gr [0,1] rfl (hB rfl rfl rfl (hB rfl rfl rfl .nil)) rfl)
  refine rn 9 rfl ?_
  exact jX () h (gr [0,1] rfl (hB rfl rfl rfl (hB rfl rfl rfl .nil)) rfl)
 intro _ h
 refine rn 7 rfl ?_
 refine jK h (fun _:Unit=>(⟨[(1,(V.ptr 0 6 0 0)),(3,(V.ptr 1 4 0 0))],[(0,(Ob.arr 42 6 [(encTTest a1)])),(1,(Ob.arr 149 4 [(encTpolicy_uses (y4 a1.Kind.toNat))]))],2⟩:St)) (fun k15 (_:Unit)=>k15=some r) (fun k15 h=>?_) ?_
 ·refine spC h rfl (fun hb16 h=>?_) (fun hb16 h=>?_)
  ·refine rn 4 rfl ?_
   refine cl h rfl rfl rfl (W91 _ _) rfl (fun y17 hx18 h=>?_)
   refine rn 7 rfl ?_
   refine spC h rfl (fun hb19 h=>?_) (fun hb19 h=>?_)
   ·refine rn 5 rfl ?_
    exact rt h rfl
   refine rn 1 rfl ?_
   exact jX () h (gr [0,1] rfl (hB rfl rfl rfl (hB rfl rfl rfl .nil)) rfl)
  refine rn 1 rfl ?_
  exact jX () h (gr [0,1] rfl (hB rfl rfl rfl (hB rfl rfl rfl .nil)) rfl)
 intro _ h
 refine rn 6 rfl ?_
 refine jK h (fun _:Unit=>(⟨[(1,(V.ptr 0 6 0 0))],[(0,(Ob.arr 42 6 [(encTTest a1)]))],1⟩:St)) (fun k20 (_:Unit)=>k20=some r) (fun k20 h=>?_) ?_
 ·refine spC h rfl (fun hb21 h=>?_) (fun hb21 h=>?_)
  ·refine rn 7 rfl ?_
   refine spO 47 h rfl (fun hb22 h=>?_) (fun hb22 h=>?_)
   ·refine rn 11 rfl ?_
    exact rt h rfl
   refine rn 6 rfl ?_
   refine spC h rfl (fun hb23 h=>?_) (fun hb23 h=>?_)
   ·refine rn 4 rfl ?_
    exact rt h rfl
   refine rn 4 rfl ?_
   refine cl h rfl rfl rfl (W92 _ _) rfl (fun y24 hx25 h=>?_)
   refine rn 3 rfl ?_
   refine spC h rfl (fun hb26 h=>?_) (fun hb26 h=>?_)
   ·refine rn 4 rfl ?_
    exact rt h rfl
   refine rn 2 rfl ?_
   exact jX () h (gr [0] rfl (hB rfl rfl rfl .nil) rfl)
  refine rn 1 rfl ?_
  exact jX () h (gr [0] rfl (hB rfl rfl rfl .nil) rfl)
 intro _ h
 refine rn 5 rfl ?_
 refine ln rfl rfl ?_
 refine rn 2 rfl ?_
 refine jK h (fun _:Unit=>(⟨[],[],0⟩:St)) (fun k27 (_:Unit)=>k27=some r) (fun k27 h=>?_) ?_
 ·refine rn 1 rfl ?_
  refine wl (A:=a1.Kids) 58 rfl (fun hA38=>?_)
  refine lC (fun(p:Int)=>(⟨[(58,(V.lst 6 (a1.Kids.map KRow.row))),(59,(iV ((a1.Kids.length:Nat):Int))),(60,(iV p))],[],0⟩:St)) (fun n p=>RG a1.Kids (fun tl nn=>M61_L1 R61 F k27 tl=some r) n p) (fun p h=>RG.zero h) (a1.Kids.length+1) 0 (RG.start h) (g0 rfl rfl) (fun n n29 h=>?_)
  refine rn 5 rfl ?_
  refine spL rfl (fun hb30=>?_) (fun hb30=>?_)
  ·obtain⟨x31,tl,hx32,h,hk1⟩:=RG.t hA38 h hb30
   unfold M61_L1 at h
   refine rn 5 rfl ?_
   refine ixh hx32 rfl rfl ?_
   obtain⟨y33,hx34,h⟩:=bind_some h
   refine kroO 62 hx34 rfl ?_
   refine rn 7 rfl ?_
   refine cl h rfl rfl rfl (hR61 _) rfl (fun y35 hx36 h=>?_)
   refine rn 7 rfl ?_
   refine spC h rfl (fun hb37 h=>?_) (fun hb37 h=>?_)
   ·refine rn 5 rfl ?_
    exact rt h rfl
   refine rn 6 rfl ?_
   exact jX (w64 (n29+1)) (hk1 _ h) (g0 rfl rfl)
  replace h:=RG.f h hb30
  unfold M61_L1 at h
  refine rn 1 rfl ?_
  exact jX () h (g0 rfl rfl)
 intro _ h
 refine rn 4 rfl ?_
 exact rt h rfl
theorem W61:∀(F:Nat) (a1:TTest) (r:Int) (h:M61 F a1=some r),PureG gl Tryz.prog 61 [(V.agg (encTTest a1))] (iV r):=by
 intro F
 induction F with
 |zero=>intros;simp[M61] at *
 |succ F ih=>exact fun a1 r h=>W61_B (M61 F) ih F a1 r h
theorem W31(F:Nat)(a1:TTest)(r:Int)(h:M31 F a1=some r):PureG gl Tryz.prog 31 [(V.agg (encTTest a1))] (iV r):=by
 refine pin (fun r=>(iV r)) r rfl Tryz.func31 rfl rfl rfl rfl rfl (fun w0 m0 hg=>?_)
 unfold M31 at h
 refine rn 9 rfl ?_
 refine cl h rfl rfl rfl (W60 _ _ _) rfl (fun y2 hx3 h=>?_)
 refine rn 11 rfl ?_
 refine spO 12 h rfl (fun hb4 h=>?_) (fun hb4 h=>?_)
 ·refine rn 9 rfl ?_
  exact rt h rfl
 refine rn 4 rfl ?_
 refine spC h rfl (fun hb5 h=>?_) (fun hb5 h=>?_)
 ·refine rn 4 rfl ?_
  exact rt h rfl
 refine rn 4 rfl ?_
 refine cl h rfl rfl rfl (W61 _ _) rfl (fun y6 hx7 h=>?_)
 refine rn 2 rfl ?_
 exact rt h rfl
theorem W62(F:Nat)(a1:(List UInt8))(a2:Int)(r:Int)(h:M62 F a1 a2=some r):PureG gl Tryz.prog 62 [(sV a1),(V.con (.int .u8 a2))] (iV r):=by
 unfold M62 at h
 replace h:=ae8 h
 subst h
 exact pure_indexByte (fun c w=>Go.Proofs.Tryz.strings_IndexByte _ c w)
theorem W64(F:Nat)(a1:TPolicyRule)(a2:List UInt8)(a3:List UInt8)(a4:Int)(a5:Int)(a6:List UInt8)(a7:Int)(r:Bool)(h:M64 F a1 a2 a3 a4 a5 a6 a7=some r):PureG gl Tryz.prog 64 [(V.agg (encTPolicyRule a1)),(V.iptr [(sV a2),(sV a3),(iV a4),(iV a5),(sV a6),(iV a7)] 0)] (bV r):=by
 refine pin (fun r=>(bV r)) r rfl Tryz.func64 rfl rfl rfl rfl rfl (fun w0 m0 hg=>?_)
 unfold M64 at h
 refine rn 14 rfl ?_
 exact rt h rfl
theorem W94(F:Nat)(a1:(List TPolicyRule))(a2:List UInt8)(a3:List UInt8)(a4:Int)(a5:Int)(a6:List UInt8)(a7:Int)(r:Int)(h:M94 F a1 a2 a3 a4 a5 a6 a7=some r):PureG gl Tryz.prog 94 [(V.lst 9 (a1.map encTPolicyRule)),(V.fn (.func 64) [] [(V.iptr [(sV a2),(sV a3),(iV a4),(iV a5),(sV a6),(iV a7)] 0)])] (iV r):=by
 refine pin (fun r=>(iV r)) r rfl Tryz.func94 rfl rfl rfl rfl rfl (fun w0 m0 hg=>?_)
 unfold M94 at h
 refine rn 8 rfl ?_
 refine ln rfl rfl ?_
 refine rn 2 rfl ?_
 refine jK h (fun _:Unit=>(⟨[],[],0⟩:St)) (fun k8 (_:Unit)=>k8=some r) (fun k8 h=>?_) ?_
 ·refine rn 1 rfl ?_
  refine wl (A:=a1) 0 rfl (fun hA17=>?_)
  refine lC (fun(p:Int)=>(⟨[(0,(V.lst 9 (a1.map encTPolicyRule))),(1,(V.fn (.func 64) [] [(V.iptr [(sV a2),(sV a3),(iV a4),(iV a5),(sV a6),(iV a7)] 0)])),(7,(iV ((a1.length:Nat):Int))),(8,(iV p))],[],0⟩:St)) (fun n p=>RG a1 (fun tl nn=>M94_L1 F a2 a3 a4 a5 a6 a7 k8 tl nn=some r) n p) (fun p h=>RG.zero h) (a1.length+1) 0 (RG.start h) (g0 rfl rfl) (fun n n10 h=>?_)
  refine rn 5 rfl ?_
  refine spL rfl (fun hb11=>?_) (fun hb11=>?_)
  ·obtain⟨x12,tl,hx13,h,hk1⟩:=RG.t hA17 h hb11
   unfold M94_L1 at h
   refine rn 13 rfl ?_
   refine ixh hx13 rfl rfl ?_
   refine rn 1 rfl ?_
   refine cl h rfl rfl rfl (W64 _ _ _ _ _ _ _ _) rfl (fun y14 hx15 h=>?_)
   refine rn 1 rfl ?_
   refine spC h rfl (fun hb16 h=>?_) (fun hb16 h=>?_)
   ·refine rn 5 rfl ?_
    exact rt h rfl
   refine rn 6 rfl ?_
   exact jX (w64 (n10+1)) (hk1 _ h) (g0 rfl rfl)
  replace h:=RG.f h hb11
  unfold M94_L1 at h
  refine rn 1 rfl ?_
  exact jX () h (g0 rfl rfl)
 intro _ h
 refine rn 4 rfl ?_
 exact rt h rfl
theorem W63(F:Nat)(a1:(List TPolicyRule))(a2:List UInt8)(a3:List UInt8)(a4:Int)(a5:Int)(a6:List UInt8)(a7:Int)(r:Bool)(h:M63 F a1 a2 a3 a4 a5 a6 a7=some r):PureG gl Tryz.prog 63 [(V.lst 9 (a1.map encTPolicyRule)),(V.fn (.func 64) [] [(V.iptr [(sV a2),(sV a3),(iV a4),(iV a5),(sV a6),(iV a7)] 0)])] (bV r):=by
 refine pin (fun r=>(bV r)) r rfl Tryz.func63 rfl rfl rfl rfl rfl (fun w0 m0 hg=>?_)
 unfold M63 at h
 refine rn 8 rfl ?_
 refine cl h rfl rfl rfl (W94 _ _ _ _ _ _ _ _) rfl (fun y8 hx9 h=>?_)
 refine rn 3 rfl ?_
 exact rt h rfl
theorem W32(F:Nat)(a1:TPolicy)(a2:TWaiver)(r:Int)(h:M32 F a1 a2=some r):PureG gl Tryz.prog 32 [(V.agg (encTPolicy a1)),(V.agg (encTWaiver a2))] (iV r):=by
 refine pin (fun r=>(iV r)) r rfl Tryz.func32 rfl rfl rfl rfl rfl (fun w0 m0 hg=>?_)
 unfold M32 at h
 refine rn 10 rfl ?_
 refine cl h rfl rfl rfl (W62 _ _ _) rfl (fun y3 hx4 h=>?_)
 obtain⟨y5,hx6,h⟩:=bind_some h
 refine rn 9 rfl ?_
 refine aops_lend_call (bV y5) [(V.lst 9 (a1.Rules.map encTPolicyRule)),(V.fn (.func 64) [] [(V.iptr (encTWaiver a2) 0)])] fOk63 (ghost_frzV 1 12 (V.fn (.func 64) [] [(V.iptr (encTWaiver a2) 0)]) rfl (imms_rows (.cons (imms_encTWaiver _) .nil)) rfl (Sub.fnc (.cons (Sub.frzptr rfl) .nil))) (Flat.con _) wants_none (evm_cons rfl (evm_cons rfl evm_nil)) (.cons (Imm.lst _ _) (.cons (Imm.fn .nil (.cons (Imm.iptr _ _) .nil)) .nil)) (W63 F a1.Rules a2.Rule a2.Subject a2.From a2.To a2.Owner a2.Level y5 hx6) rfl ?_
 refine fo (rn 3 rfl ?_)
 refine jK h (fun _:Unit=>(⟨[],[],0⟩:St)) (fun k7 (_:Unit)=>k7=some r) (fun k7 h=>?_) ?_
 ·refine spC h rfl (fun hb8 h=>?_) (fun hb8 h=>?_)
  ·refine rn 4 rfl ?_
   exact rt h rfl
  refine rn 4 rfl ?_
  refine cl h rfl rfl rfl (W65 _ _) rfl (fun y9 hx10 h=>?_)
  refine rn 2 rfl ?_
  refine spO 20 h rfl (fun hb11 h=>?_) (fun hb11 h=>?_)
  ·refine rn 18 rfl ?_
   exact rt h rfl
  refine rn 3 rfl ?_
  refine spO 23 h rfl (fun hb12 h=>?_) (fun hb12 h=>?_)
  ·refine rn 10 rfl ?_
   refine spC h rfl (fun hb13 h=>?_) (fun hb13 h=>?_)
   ·refine rn 4 rfl ?_
    exact rt h rfl
   refine rn 6 rfl ?_
   refine spO 36 h rfl (fun hb14 h=>?_) (fun hb14 h=>?_)
   ·refine rn 18 rfl ?_
    exact rt h rfl
   refine rn 7 rfl ?_
   refine spO 43 h rfl (fun hb15 h=>?_) (fun hb15 h=>?_)
   ·refine rn 11 rfl ?_
    exact rt h rfl
   refine rn 6 rfl ?_
   refine spC h rfl (fun hb16 h=>?_) (fun hb16 h=>?_)
   ·refine rn 4 rfl ?_
    exact rt h rfl
   refine rn 4 rfl ?_
   refine cl h rfl rfl rfl (W30 _ _) rfl (fun y17 hx18 h=>?_)
   refine rn 3 rfl ?_
   refine spC h rfl (fun hb19 h=>?_) (fun hb19 h=>?_)
   ·refine rn 4 rfl ?_
    exact rt h rfl
   refine rn 6 rfl ?_
   refine spO 57 h rfl (fun hb20 h=>?_) (fun hb20 h=>?_)
   ·refine rn 11 rfl ?_
    exact rt h rfl
   refine rn 6 rfl ?_
   refine spC h rfl (fun hb21 h=>?_) (fun hb21 h=>?_)
   ·refine rn 4 rfl ?_
    exact rt h rfl
   refine rn 1 rfl ?_
   exact jX () h (g0 rfl rfl)
  refine rn 17 rfl ?_
  refine spO 36 h rfl (fun hb22 h=>?_) (fun hb22 h=>?_)
  ·refine rn 18 rfl ?_
   exact rt h rfl
  refine rn 7 rfl ?_
  refine spO 43 h rfl (fun hb23 h=>?_) (fun hb23 h=>?_)
  ·refine rn 11 rfl ?_
   exact rt h rfl
  refine rn 6 rfl ?_
  refine spC h rfl (fun hb24 h=>?_) (fun hb24 h=>?_)
  ·refine rn 4 rfl ?_
   exact rt h rfl
  refine rn 4 rfl ?_
  refine cl h rfl rfl rfl (W30 _ _) rfl (fun y25 hx26 h=>?_)
  refine rn 3 rfl ?_
  refine spC h rfl (fun hb27 h=>?_) (fun hb27 h=>?_)
  ·refine rn 4 rfl ?_
   exact rt h rfl
  refine rn 6 rfl ?_
  refine spO 57 h rfl (fun hb28 h=>?_) (fun hb28 h=>?_)
  ·refine rn 11 rfl ?_
   exact rt h rfl
  refine rn 6 rfl ?_
  refine spC h rfl (fun hb29 h=>?_) (fun hb29 h=>?_)
  ·refine rn 4 rfl ?_
   exact rt h rfl
  refine rn 1 rfl ?_
  exact jX () h (g0 rfl rfl)
 intro _ h
 refine rn 5 rfl ?_
 exact rt h rfl
theorem W9(F:Nat)(a1:TPolicy)(r:Int)(h:M9 F a1=some r):PureG gl Tryz.prog 9 [(V.agg (encTPolicy a1))] (iV r):=by
 refine pin (fun r=>(iV r)) r rfl Tryz.func9 rfl rfl rfl rfl rfl (fun w0 m0 hg=>?_)
 unfold M9 at h
 refine rn 10 rfl ?_
 refine ln rfl rfl ?_
 refine rn 2 rfl ?_
 refine spO 14 h rfl (fun hb2 h=>?_) (fun hb2 h=>?_)
 ·refine rn 11 rfl ?_
  exact rt h rfl
 refine rn 2 rfl ?_
 refine ln rfl rfl ?_
 refine rn 3 rfl ?_
 refine spC h rfl (fun hb3 h=>?_) (fun hb3 h=>?_)
 ·refine rn 4 rfl ?_
  exact rt h rfl
 refine rn 11 rfl ?_
 refine ln rfl rfl ?_
 refine rn 2 rfl ?_
 refine jK h (fun _:Unit=>(⟨[(1,(V.ptr 0 2 0 0))],[(0,(Ob.arr 25 2 [(encTPolicy a1)]))],1⟩:St)) (fun k4 (_:Unit)=>k4=some r) (fun k4 h=>?_) ?_
 ·refine rn 1 rfl ?_
  refine wl (A:=a1.Rules) 11 rfl (fun hA24=>?_)
  refine lC (fun(p:Int×(List ((List UInt8)×Bool)))=>(⟨[(1,(V.ptr 0 2 0 0)),(3,(V.map 1)),(22,(V.lst 9 (a1.Rules.map encTPolicyRule))),(23,(iV ((a1.Rules.length:Nat):Int))),(24,(iV (p.1)))],[(0,(Ob.arr 25 2 [(encTPolicy a1)])),(1,(Ob.map ((p.2).map encM9_4)))],2⟩:St)) (fun n p=>RG a1.Rules (fun tl nn=>M9_L1 F k4 tl p.2=some r) n p.1) (fun p h=>RG.zero h) (a1.Rules.length+1) (0,([]:List ((List UInt8)×Bool))) (RG.start h) (gr [0,1] rfl (hB rfl rfl rfl (hM rfl rfl .nil)) rfl) (fun n p h=>?_)
  obtain⟨n7,m8⟩:=p
  refine rn 5 rfl ?_
  refine spL rfl (fun hb9=>?_) (fun hb9=>?_)
  ·obtain⟨x10,tl,hx11,h,hk1⟩:=RG.t hA24 h hb9
   unfold M9_L1 at h
   refine rn 5 rfl ?_
   refine ixh hx11 rfl rfl ?_
   refine rn 10 rfl ?_
   refine cl h rfl rfl rfl (W30 _ _) rfl (fun y12 hx13 h=>?_)
   refine rn 3 rfl ?_
   refine spC h rfl (fun hb14 h=>?_) (fun hb14 h=>?_)
   ·refine rn 4 rfl ?_
    exact rt h rfl
   refine rn 5 rfl ?_
   refine aops_lookup _ (bV false) (bV ((mget m8 x10.Name).getD false)) tMap81 tKey9 tZo4 (irel_con _) wants_none rfl (.own rfl) (.con rfl) ⟨_,rfl⟩ encM9_4_good (encM9_4_look m8 x10.Name) (getD_map (encM9_4_val) (mget m8 x10.Name) false) rfl ?_
   refine fo (rn 2 rfl ?_)
   refine spC h rfl (fun hb15 h=>?_) (fun hb15 h=>?_)
   ·refine rn 4 rfl ?_
    exact rt h rfl
   refine rn 4 rfl ?_
   refine cl h rfl rfl rfl (W30 _ _) rfl (fun y16 hx17 h=>?_)
   refine rn 3 rfl ?_
   refine spC h rfl (fun hb18 h=>?_) (fun hb18 h=>?_)
   ·refine rn 4 rfl ?_
    exact rt h rfl
   refine rn 7 rfl ?_
   refine aops_mapUpdate (es:=m8.map encM9_4) ((mput m8 x10.Name true).map encM9_4) tMap81 tKey9 wants_none rfl rfl (.con rfl) ⟨_,rfl⟩ encM9_4_good rfl (encM9_4_puts m8 x10.Name true) ?_
   refine fo (rn 6 rfl ?_)
   refine cl h rfl rfl rfl (W31 _ _) rfl (fun y19 hx20 h=>?_)
   refine rn 7 rfl ?_
   refine spC h rfl (fun hb21 h=>?_) (fun hb21 h=>?_)
   ·refine rn 5 rfl ?_
    exact rt h rfl
   refine rn 7 rfl ?_
   refine spO 55 h rfl (fun hb22 h=>?_) (fun hb22 h=>?_)
   ·refine rn 10 rfl ?_
    exact rt h rfl
   refine rn 5 rfl ?_
   refine spC h rfl (fun hb23 h=>?_) (fun hb23 h=>?_)
   ·refine rn 4 rfl ?_
    exact rt h rfl
   refine rn 6 rfl ?_
   exact jX ((w64 (n7+1)),(mput m8 x10.Name true)) (hk1 _ h) (gr [0,1] rfl (hB rfl rfl rfl (hM rfl rfl .nil)) rfl)
  replace h:=RG.f h hb9
  unfold M9_L1 at h
  refine rn 1 rfl ?_
  exact jX () h (gr [0] rfl (hB rfl rfl rfl .nil) rfl)
 intro _ h
 refine rn 5 rfl ?_
 refine ln rfl rfl ?_
 refine rn 2 rfl ?_
 refine jK h (fun _:Unit=>(⟨[],[],0⟩:St)) (fun k25 (_:Unit)=>k25=some r) (fun k25 h=>?_) ?_
 ·refine rn 1 rfl ?_
  refine wl (A:=a1.Waivers) 62 rfl (fun hA34=>?_)
  refine lC (fun(p:Int)=>(⟨[(1,(V.ptr 0 2 0 0)),(62,(V.lst 6 (a1.Waivers.map encTWaiver))),(63,(iV ((a1.Waivers.length:Nat):Int))),(64,(iV p))],[(0,(Ob.arr 25 2 [(encTPolicy a1)]))],1⟩:St)) (fun n p=>RG a1.Waivers (fun tl nn=>M9_L2 F a1 k25 tl=some r) n p) (fun p h=>RG.zero h) (a1.Waivers.length+1) 0 (RG.start h) (gr [0] rfl (hB rfl rfl rfl .nil) rfl) (fun n n27 h=>?_)
  refine rn 5 rfl ?_
  refine spL rfl (fun hb28=>?_) (fun hb28=>?_)
  ·obtain⟨x29,tl,hx30,h,hk2⟩:=RG.t hA34 h hb28
   unfold M9_L2 at h
   refine rn 5 rfl ?_
   refine ixh hx30 rfl rfl ?_
   refine rn 8 rfl ?_
   refine cl h rfl rfl rfl (W32 _ _ _) rfl (fun y31 hx32 h=>?_)
   refine rn 7 rfl ?_
   refine spC h rfl (fun hb33 h=>?_) (fun hb33 h=>?_)
   ·refine rn 5 rfl ?_
    exact rt h rfl
   refine rn 6 rfl ?_
   exact jX (w64 (n27+1)) (hk2 _ h) (gr [0] rfl (hB rfl rfl rfl .nil) rfl)
  replace h:=RG.f h hb28
  unfold M9_L2 at h
  refine rn 1 rfl ?_
  exact jX () h (g0 rfl rfl)
 intro _ h
 refine rn 4 rfl ?_
 exact rt h rfl
theorem W11(F:Nat)(r:(List (List UInt8)))(h:M11 F  = some r):PureG gl Tryz.prog 11 [] (V.lst 1 (r.map encS)):=by
 refine pin (fun r=>(V.lst 1 (r.map encS))) r rfl Tryz.func11 rfl rfl rfl rfl rfl (fun w0 m0 hg=>?_)
 unfold M11 at h
 refine rn 6 rfl ?_
 refine aops_buildSlice [(0,(sV ([]:List UInt8))),(1,(sV ([112,97,115,115]:List UInt8))),(2,(sV ([110,111,116,101]:List UInt8))),(3,(sV ([119,97,114,110]:List UInt8))),(4,(sV ([100,101,110,121]:List UInt8)))] [[(sV ([]:List UInt8))],[(sV ([112,97,115,115]:List UInt8))],[(sV ([110,111,116,101]:List UInt8))],[(sV ([119,97,114,110]:List UInt8))],[(sV ([100,101,110,121]:List UInt8))]] tEl39 tZ9 rfl rfl rfl rfl wants_none (evp_cons rfl (evp_cons rfl (evp_cons rfl (evp_cons rfl (evp_cons rfl evp_nil))))) rfl rfl (by simp) rfl ?_
 refine fo (rn 2 rfl ?_)
 refine awp_ghost (ghost_frzEs 0 [0,1] rfl (imms_rows (.cons (.cons (Imm.con _) .nil) (.cons (.cons (Imm.con _) .nil) (.cons (.cons (Imm.con _) .nil) (.cons (.cons (Imm.con _) .nil) (.cons (.cons (Imm.con _) .nil) .nil)))))) (by8.2 ⟨rfl,(by8.2 ⟨rfl,(fun _ hx=>nomatch hx)⟩)⟩) rfl) ?_
 refine fa ?_
 exact rt h rfl
theorem W13(F:Nat)(a1:(List UInt8))(r:(List UInt8))(h:M13 F a1=some r):PureG gl Tryz.prog 13 [(sV a1)] (sV r):=by
 unfold M13 at h
 obtain⟨hc,h⟩:=chk_some h
 replace h:=ae8 h
 subst h
 exact quoted_pure hc
theorem W37(F:Nat)(a1:(List (List UInt8)))(a2:(List UInt8))(r:(List UInt8))(h:M37 F a1 a2=some r):PureG gl Tryz.prog 37 [(V.lst 1 (a1.map encS)),(sV a2)] (sV r):=by
 unfold M37 at h
 obtain⟨hc,h⟩:=chk_some h
 replace h:=ae8 h
 subst h
 exact pure_join (fun _=>rfl) hc.1 hc.2 (fun a c w=>Go.Proofs.Tryz.strings_Join_none a c _ w) (fun bk o c w h1 h2 h3 h4 h5=>Go.Proofs.Tryz.strings_Join bk o c _ _ w h1 h2 h3 h4 h5)
theorem W34(F:Nat)(a1:(List (List UInt8)))(r:(List UInt8))(h:M34 F a1=some r):PureG gl Tryz.prog 34 [(V.lst 1 (a1.map encS))] (sV r):=by
 refine pin (fun r=>(sV r)) r rfl Tryz.func34 rfl rfl rfl rfl rfl (fun w0 m0 hg=>?_)
 unfold M34 at h
 refine rn 12 rfl ?_
 refine ln rfl rfl ?_
 refine rn 2 rfl ?_
 refine jK h (fun(p:(List (List UInt8)))=>(⟨[(3,(V.own 0 p.length))],[(0,(Ob.arr 9 1 (p.map encS)))],1⟩:St)) (fun k2 p=>k2 p=some r) (fun k2 h=>?_) ?_
 ·refine rn 1 rfl ?_
  refine wl (A:=a1) 0 rfl (fun hA14=>?_)
  refine lC (fun(p:Int×(List (List UInt8)))=>(⟨[(3,(V.own 0 (p.2).length)),(6,(V.lst 1 (a1.map encS))),(7,(iV ((a1.length:Nat):Int))),(8,(iV (p.1)))],[(0,(Ob.arr 9 1 ((p.2).map encS)))],1⟩:St)) (fun n p=>RG a1 (fun tl nn=>M34_L1 F k2 tl p.2=some r) n p.1) (fun p h=>RG.zero h) (a1.length+1) (0,([]:List (List UInt8))) (RG.start h) (Ghost.trans (ghost_nilE 3 9 1 rfl) (ghost_ren 1 (fun i=>([0]:List Nat).getD i 0) _ _ (by decide) (EnvSub.get (.cons (Sub.ownE rfl rfl (by simp)) (.cons (Sub.imm (Imm.lst _ _)) (.cons (Sub.imm (Imm.con _)) (.cons (Sub.imm (Imm.con _)) .nil))))) (HpSub.get (.cons rfl (ObSub.rows (rows_imm imms_encS)) .nil)) rfl)) (fun n p h=>?_)
  obtain⟨n6,l7⟩:=p
  refine rn 5 rfl ?_
  refine spL rfl (fun hb8=>?_) (fun hb8=>?_)
  ·obtain⟨x9,tl,hx10,h,hk1⟩:=RG.t hA14 h hb8
   unfold M34_L1 at h
   refine rn 5 rfl ?_
   refine ixh hx10 rfl rfl ?_
   refine rn 6 rfl ?_
   refine cl h rfl rfl rfl (W13 _ _) rfl (fun y11 hx12 h=>?_)
   refine aops_buildSlice [(0,(sV y11))] [[(sV y11)]] tEl39 tZ9 rfl rfl rfl rfl wants_none (evp_cons rfl evp_nil) rfl rfl (by simp) rfl ?_
   refine fo ?_
   refine apO encS h rfl rfl rfl rfl rfl rfl rfl rfl (fun h=>?_)
   refine rn 7 rfl ?_
   exact jX ((w64 (n6+1)),(l7++([y11]:List (List UInt8)))) (hk1 _ h) (gr [2] rfl (hR rfl rfl .nil) rfl)
  replace h:=RG.f h hb8
  unfold M34_L1 at h
  refine rn 1 rfl ?_
  exact jX l7 h (gr [0] rfl (hR rfl rfl .nil) rfl)
 intro l3 h
 obtain⟨y15,hx16,h⟩:=bind_some h
 refine rn 3 rfl ?_
 refine aops_lend_call (sV y15) [(V.lst 1 (l3.map encS)),(sV ([44,32]:List UInt8))] fOk37 (ghost_frzEs 0 [18,3] rfl (rows_imm imms_encS) (by8.2 ⟨rfl,(by8.2 ⟨rfl,(fun _ hx=>nomatch hx)⟩)⟩) (bb8 ..).symm) (Flat.con _) wants_none (evm_cons rfl (evm_cons rfl evm_nil)) (.cons (Imm.lst _ _) (.cons (Imm.con _) .nil)) (W37 F l3 ([44,32]:List UInt8) y15 hx16) rfl ?_
 refine fo (rn 2 rfl ?_)
 exact rt h rfl
theorem W35(F:Nat)(r:(Nat->(List UInt8)))(h:M35 F  = some r):PureG gl Tryz.prog 35 [] (V.agg [(sV (r 0)),(sV (r 1)),(sV (r 2)),(sV (r 3)),(sV (r 4)),(sV (r 5))]):=by
 refine pin (fun r=>(V.agg [(sV (r 0)),(sV (r 1)),(sV (r 2)),(sV (r 3)),(sV (r 4)),(sV (r 5))])) r rfl Tryz.func35 rfl rfl rfl rfl rfl (fun w0 m0 hg=>?_)
 unfold M35 at h
 refine rn 6 rfl ?_
 refine aops_buildA [(0,(sV ([]:List UInt8))),(1,(sV ([60]:List UInt8))),(2,(sV ([60,61]:List UInt8))),(3,(sV ([61]:List UInt8))),(4,(sV ([62,61]:List UInt8))),(5,(sV ([62]:List UInt8)))] [(sV ([]:List UInt8)),(sV ([60]:List UInt8)),(sV ([60,61]:List UInt8)),(sV ([61]:List UInt8)),(sV ([62,61]:List UInt8)),(sV ([62]:List UInt8))] tZ86 tArr86 rfl wants_none (evp_cons rfl (evp_cons rfl (evp_cons rfl (evp_cons rfl (evp_cons rfl (evp_cons rfl evp_nil)))))) rfl rfl ?_
 refine fo (rn 2 rfl ?_)
 exact rt h rfl
theorem W14(F:Nat)(a1:Int)(r:(List UInt8))(h:M14 F a1=some r):PureG gl Tryz.prog 14 [(iV a1)] (sV r):=by
 unfold M14 at h
 obtain⟨hc,h⟩:=chk_some h
 replace h:=ae8 h
 subst h
 exact pure_itoa (g:=0) rfl (by kernel_rfl) hc (fun w ht=>Go.Proofs.Tryz.strconv_Itoa _ hc.1 hc.2 w ht)
theorem W36(R12:TTest->Option (List UInt8))(hR12:∀(a1:TTest) (r:(List UInt8)),R12 a1=some r->PureG gl Tryz.prog 12 [(V.agg (encTTest a1))] (sV r))(F:Nat)(a1:Int)(a2:TTest)(r:(List UInt8))(h:M36 R12 F a1 a2=some r):PureG gl Tryz.prog 36 [(iV a1),(V.agg (encTTest a2))] (sV r):=by
 refine pin (fun r=>(sV r)) r rfl Tryz.func36 rfl rfl rfl rfl rfl (fun w0 m0 hg=>?_)
 unfold M36 at h
 refine rn 8 rfl ?_
 refine cl h rfl rfl rfl (hR12 _) rfl (fun y3 hx4 h=>?_)
 refine rn 8 rfl ?_
 refine spO 12 h rfl (fun hb5 h=>?_) (fun hb5 h=>?_)
 ·refine rn 14 rfl ?_
  refine spO 21 h rfl (fun hb6 h=>?_) (fun hb6 h=>?_)
  ·refine rn 16 rfl ?_
   refine ck h (fun hc7 h=>?_)
   refine aops_binT (str (([40]:List UInt8)++y3)) wants_none rfl rfl (if_pos hc7) rfl ?_
   refine ck h (fun hc8 h=>?_)
   refine aops_binT (str ((([40]:List UInt8)++y3)++([41]:List UInt8))) wants_none rfl rfl (if_pos hc8) rfl ?_
   refine fo (rn 2 rfl ?_)
   exact rt h rfl
  refine rn 6 rfl ?_
  refine spO 27 h rfl (fun hb9 h=>?_) (fun hb9 h=>?_)
  ·refine rn 10 rfl ?_
   refine ck h (fun hc10 h=>?_)
   refine aops_binT (str (([40]:List UInt8)++y3)) wants_none rfl rfl (if_pos hc10) rfl ?_
   refine ck h (fun hc11 h=>?_)
   refine aops_binT (str ((([40]:List UInt8)++y3)++([41]:List UInt8))) wants_none rfl rfl (if_pos hc11) rfl ?_
   refine fo (rn 2 rfl ?_)
   exact rt h rfl
  refine rn 6 rfl ?_
  refine spC h rfl (fun hb12 h=>?_) (fun hb12 h=>?_)
  ·refine rn 3 rfl ?_
   refine ck h (fun hc13 h=>?_)
   refine aops_binT (str (([40]:List UInt8)++y3)) wants_none rfl rfl (if_pos hc13) rfl ?_
   refine ck h (fun hc14 h=>?_)
   refine aops_binT (str ((([40]:List UInt8)++y3)++([41]:List UInt8))) wants_none rfl rfl (if_pos hc14) rfl ?_
   refine fo (rn 2 rfl ?_)
   exact rt h rfl
  refine rn 6 rfl ?_
  exact rt h rfl
 refine rn 11 rfl ?_
 refine spO 18 h rfl (fun hb15 h=>?_) (fun hb15 h=>?_)
 ·refine rn 3 rfl ?_
  refine spO 21 h rfl (fun hb16 h=>?_) (fun hb16 h=>?_)
  ·refine rn 16 rfl ?_
   refine ck h (fun hc17 h=>?_)
   refine aops_binT (str (([40]:List UInt8)++y3)) wants_none rfl rfl (if_pos hc17) rfl ?_
   refine ck h (fun hc18 h=>?_)
   refine aops_binT (str ((([40]:List UInt8)++y3)++([41]:List UInt8))) wants_none rfl rfl (if_pos hc18) rfl ?_
   refine fo (rn 2 rfl ?_)
   exact rt h rfl
  refine rn 6 rfl ?_
  refine spO 27 h rfl (fun hb19 h=>?_) (fun hb19 h=>?_)
  ·refine rn 10 rfl ?_
   refine ck h (fun hc20 h=>?_)
   refine aops_binT (str (([40]:List UInt8)++y3)) wants_none rfl rfl (if_pos hc20) rfl ?_
   refine ck h (fun hc21 h=>?_)
   refine aops_binT (str ((([40]:List UInt8)++y3)++([41]:List UInt8))) wants_none rfl rfl (if_pos hc21) rfl ?_
   refine fo (rn 2 rfl ?_)
   exact rt h rfl
  refine rn 6 rfl ?_
  refine fxC 32 hb15 rfl ?_
  refine rn 4 rfl ?_
  refine ck h (fun hc22 h=>?_)
  refine aops_binT (str (([40]:List UInt8)++y3)) wants_none rfl rfl (if_pos hc22) rfl ?_
  refine ck h (fun hc23 h=>?_)
  refine aops_binT (str ((([40]:List UInt8)++y3)++([41]:List UInt8))) wants_none rfl rfl (if_pos hc23) rfl ?_
  refine fo (rn 2 rfl ?_)
  exact rt h rfl
 refine rn 22 rfl ?_
 exact rt h rfl
theorem W12_B(R12:TTest->Option (List UInt8))(hR12:∀(a1:TTest) (r:(List UInt8)),R12 a1=some r->PureG gl Tryz.prog 12 [(V.agg (encTTest a1))] (sV r))(F:Nat)(a1:TTest)(r:(List UInt8))(h:M12_B R12 F a1=some r):PureG gl Tryz.prog 12 [(V.agg (encTTest a1))] (sV r):=by
 refine pin (fun r=>(sV r)) r rfl Tryz.func12 rfl rfl rfl rfl rfl (fun w0 m0 hg=>?_)
 unfold M12_B at h
 refine rn 11 rfl ?_
 refine jK h (fun _:Unit=>(⟨[],[],0⟩:St)) (fun k2 (_:Unit)=>k2=some r) (fun k2 h=>?_) ?_
 ·refine rn 6 rfl ?_
  refine spC h rfl (fun hb3 h=>?_) (fun hb3 h=>?_)
  ·refine rn 1 rfl ?_
   refine ck h (fun hc4 h=>?_)
   obtain⟨y5,hx6,h⟩:=bind_some h
   refine ck h (fun hc7 h=>?_)
   refine dr mixed (vs 2 rfl (xD (OD.mk [(12,(sV a1.Name))] [] [(13,(sV (a1.Name++([32,105,115,32]:List UInt8))))] []) ⟨⟨rfl,trivial⟩,trivial⟩ (by exact fun S hn h hh=>aops_binT (str (a1.Name++([32,105,115,32]:List UInt8))) wants_none h.1 rfl (if_pos hc4) rfl (aops_nil ⟨rfl,rfl⟩)) rfl (vs 2 rfl (cD rfl rfl rfl rfl (W34 _ _ _ hx6) rfl (xD (OD.mk [(13,(sV (a1.Name++([32,105,115,32]:List UInt8)))),(16,(sV y5))] [] [(17,(sV ((a1.Name++([32,105,115,32]:List UInt8))++y5)))] []) ⟨⟨rfl,rfl,trivial⟩,trivial⟩ (by exact fun S hn h hh=>aops_binT (str ((a1.Name++([32,105,115,32]:List UInt8))++y5)) wants_none h.1 h.2.1 (if_pos hc7) rfl (aops_nil ⟨rfl,rfl⟩)) rfl (vs 1 rfl .nil)))))) (by kernel_rfl) ?_
   exact rt h rfl
  refine rn 5 rfl ?_
  refine spC h rfl (fun hb8 h=>?_) (fun hb8 h=>?_)
  ·refine rn 1 rfl ?_
   refine ck h (fun hc9 h=>?_)
   obtain⟨y10,hx11,h⟩:=bind_some h
   refine ck h (fun hc12 h=>?_)
   refine dr mixed (vs 2 rfl (xD (OD.mk [(21,(sV a1.Name))] [] [(22,(sV (a1.Name++([32,98,101,103,105,110,115,32]:List UInt8))))] []) ⟨⟨rfl,trivial⟩,trivial⟩ (by exact fun S hn h hh=>aops_binT (str (a1.Name++([32,98,101,103,105,110,115,32]:List UInt8))) wants_none h.1 rfl (if_pos hc9) rfl (aops_nil ⟨rfl,rfl⟩)) rfl (vs 2 rfl (cD rfl rfl rfl rfl (W34 _ _ _ hx11) rfl (xD (OD.mk [(22,(sV (a1.Name++([32,98,101,103,105,110,115,32]:List UInt8)))),(25,(sV y10))] [] [(26,(sV ((a1.Name++([32,98,101,103,105,110,115,32]:List UInt8))++y10)))] []) ⟨⟨rfl,rfl,trivial⟩,trivial⟩ (by exact fun S hn h hh=>aops_binT (str ((a1.Name++([32,98,101,103,105,110,115,32]:List UInt8))++y10)) wants_none h.1 h.2.1 (if_pos hc12) rfl (aops_nil ⟨rfl,rfl⟩)) rfl (vs 1 rfl .nil)))))) (by kernel_rfl) ?_
   exact rt h rfl
  refine rn 5 rfl ?_
  refine spC h rfl (fun hb13 h=>?_) (fun hb13 h=>?_)
  ·refine rn 4 rfl ?_
   refine ck h (fun hc14 h=>?_)
   refine aops_binT (str (([104,97,115,32]:List UInt8)++a1.Name)) wants_none rfl rfl (if_pos hc14) rfl ?_
   refine fo (rn 2 rfl ?_)
   exact rt h rfl
  refine rn 5 rfl ?_
  refine spC h rfl (fun hb15 h=>?_) (fun hb15 h=>?_)
  ·refine rn 1 rfl ?_
   refine ck h (fun hc16 h=>?_)
   obtain⟨y17,hx18,h⟩:=bind_some h
   refine ck h (fun hc19 h=>?_)
   refine ck h (fun hc20 h=>?_)
   refine ck h (fun hc21 h=>?_)
   obtain⟨y22,hx23,h⟩:=bind_some h
   refine ck h (fun hc24 h=>?_)
   refine dr mixed (vs 2 rfl (xD (OD.mk [(35,(sV a1.Name))] [] [(36,(sV (a1.Name++([32]:List UInt8))))] []) ⟨⟨rfl,trivial⟩,trivial⟩ (by exact fun S hn h hh=>aops_binT (str (a1.Name++([32]:List UInt8))) wants_none h.1 rfl (if_pos hc16) rfl (aops_nil ⟨rfl,rfl⟩)) rfl (cD rfl rfl rfl rfl (W35 _ _ hx18) rfl (vs 2 rfl (xD (OD.mk [(37,(V.agg [(sV (y17 0)),(sV (y17 1)),(sV (y17 2)),(sV (y17 3)),(sV (y17 4)),(sV (y17 5))])),(39,(iV a1.Op))] [] [(40,(sV (y17 a1.Op.toNat)))] []) ⟨⟨rfl,rfl,trivial⟩,trivial⟩ (by exact fun S hn h hh=>aops_indexAC (sV (y17 a1.Op.toNat)) tAC86 wants_none h.1 h.2.1 hc19 (arr_cell (f:=y17) (c:=sV) rfl hc19.2) rfl (aops_nil ⟨rfl,rfl⟩)) rfl (xD (OD.mk [(36,(sV (a1.Name++([32]:List UInt8)))),(40,(sV (y17 a1.Op.toNat)))] [] [(41,(sV ((a1.Name++([32]:List UInt8))++(y17 a1.Op.toNat))))] []) ⟨⟨rfl,rfl,trivial⟩,trivial⟩ (by exact fun S hn h hh=>aops_binT (str ((a1.Name++([32]:List UInt8))++(y17 a1.Op.toNat))) wants_none h.1 h.2.1 (if_pos hc20) rfl (aops_nil ⟨rfl,rfl⟩)) rfl (xD (OD.mk [(41,(sV ((a1.Name++([32]:List UInt8))++(y17 a1.Op.toNat))))] [] [(42,(sV (((a1.Name++([32]:List UInt8))++(y17 a1.Op.toNat))++([32]:List UInt8))))] []) ⟨⟨rfl,trivial⟩,trivial⟩ (by exact fun S hn h hh=>aops_binT (str (((a1.Name++([32]:List UInt8))++(y17 a1.Op.toNat))++([32]:List UInt8))) wants_none h.1 rfl (if_pos hc21) rfl (aops_nil ⟨rfl,rfl⟩)) rfl (vs 2 rfl (cD rfl rfl rfl rfl (W14 _ _ _ hx23) rfl (xD (OD.mk [(42,(sV (((a1.Name++([32]:List UInt8))++(y17 a1.Op.toNat))++([32]:List UInt8)))),(45,(sV y22))] [] [(46,(sV ((((a1.Name++([32]:List UInt8))++(y17 a1.Op.toNat))++([32]:List UInt8))++y22)))] []) ⟨⟨rfl,rfl,trivial⟩,trivial⟩ (by exact fun S hn h hh=>aops_binT (str ((((a1.Name++([32]:List UInt8))++(y17 a1.Op.toNat))++([32]:List UInt8))++y22)) wants_none h.1 h.2.1 (if_pos hc24) rfl (aops_nil ⟨rfl,rfl⟩)) rfl (vs 1 rfl .nil))))))))))) (by kernel_rfl) ?_
   exact rt h rfl
  refine rn 5 rfl ?_
  refine spC h rfl (fun hb25 h=>?_) (fun hb25 h=>?_)
  ·obtain⟨x26,hx27,h⟩:=bind_some h
   obtain⟨y28,hx29,h⟩:=bind_some h
   obtain⟨y30,hx31,h⟩:=bind_some h
   refine rn 1 rfl ?_
   refine ck h (fun hc32 h=>?_)
   refine dr mixed (vs 4 rfl (xD (OD.mk [(52,(V.lst 6 (a1.Kids.map KRow.row)))] [] [(53,(V.iptr (encTTest y28) 0))] []) ⟨⟨rfl,trivial⟩,trivial⟩ (by exact fun S hn h hh=>aops_index_lst (encTTest y28) tSl40 wants_none h.1 rfl (idx_some hx27).1 (idx_mapK hx27 hx29) rfl (aops_nil ⟨rfl,rfl⟩)) rfl (vs 1 rfl (cD rfl rfl rfl rfl (W36 R12 hR12 _ _ _ _ hx31) rfl (xD (OD.mk [(55,(sV y30))] [] [(56,(sV (([110,111,116,32]:List UInt8)++y30)))] []) ⟨⟨rfl,trivial⟩,trivial⟩ (by exact fun S hn h hh=>aops_binT (str (([110,111,116,32]:List UInt8)++y30)) wants_none rfl h.1 (if_pos hc32) rfl (aops_nil ⟨rfl,rfl⟩)) rfl (vs 1 rfl .nil)))))) (by kernel_rfl) ?_
   exact rt h rfl
  refine rn 6 rfl ?_
  refine jK h (fun(p:Bool)=>(⟨[(1,(V.ptr 0 6 0 0)),(57,(bV p))],[(0,(Ob.arr 42 6 [(encTTest a1)]))],1⟩:St)) (fun k33 p=>k33 p=some r) (fun k33 h=>?_) ?_
  ·refine spC h rfl (fun hb35 h=>?_) (fun hb35 h=>?_)
   ·refine rn 1 rfl ?_
    exact jX (a1.Kind==7) h (gr [0] rfl (hB rfl rfl rfl .nil) rfl)
   refine rn 4 rfl ?_
   exact jX (a1.Kind==8) h (gr [0] rfl (hB rfl rfl rfl .nil) rfl)
  intro b34 h
  refine spC h rfl (fun hb36 h=>?_) (fun hb36 h=>?_)
  ·refine rn 11 rfl ?_
   refine jK h (fun(p:(List UInt8))=>(⟨[(1,(V.ptr 0 6 0 0)),(3,(sV p))],[(0,(Ob.arr 42 6 [(encTTest a1)]))],1⟩:St)) (fun k37 p=>k37 p=some r) (fun k37 h=>?_) ?_
   ·refine spC h rfl (fun hb39 h=>?_) (fun hb39 h=>?_)
    ·refine rn 3 rfl ?_
     exact jX ([32,111,114,32]:List UInt8) h (gr [0] rfl (hB rfl rfl rfl .nil) rfl)
    refine rn 1 rfl ?_
    exact jX ([32,97,110,100,32]:List UInt8) h (gr [0] rfl (hB rfl rfl rfl .nil) rfl)
   intro s38 h
   refine rn 9 rfl ?_
   refine ln rfl rfl ?_
   refine rn 2 rfl ?_
   refine jK h (fun(p:(List (List UInt8)))=>(⟨[(3,(sV s38)),(4,(V.own 0 p.length))],[(0,(Ob.arr 9 1 (p.map encS)))],1⟩:St)) (fun k40 p=>k40 p=some r) (fun k40 h=>?_) ?_
   ·refine rn 1 rfl ?_
    refine wl (A:=a1.Kids) 64 rfl (fun hA54=>?_)
    refine lC (fun(p:Int×(List (List UInt8)))=>(⟨[(1,(V.ptr 0 6 0 0)),(3,(sV s38)),(4,(V.own 1 (p.2).length)),(64,(V.lst 6 (a1.Kids.map KRow.row))),(65,(iV ((a1.Kids.length:Nat):Int))),(66,(iV (p.1)))],[(0,(Ob.arr 42 6 [(encTTest a1)])),(1,(Ob.arr 9 1 ((p.2).map encS)))],2⟩:St)) (fun n p=>RG a1.Kids (fun tl nn=>M12_L1 R12 F a1 k40 tl p.2=some r) n p.1) (fun p h=>RG.zero h) (a1.Kids.length+1) (0,([]:List (List UInt8))) (RG.start h) (Ghost.trans (ghost_nilE 4 9 1 rfl) (ghost_ren 2 (fun i=>([0,1]:List Nat).getD i 0) _ _ (by decide) (EnvSub.get (.cons (Sub.ptr rfl rfl) (.cons (Sub.imm (Imm.con _)) (.cons (Sub.ownE rfl rfl (by simp)) (.cons (Sub.imm (Imm.lst _ _)) (.cons (Sub.imm (Imm.con _)) (.cons (Sub.imm (Imm.con _)) .nil))))))) (HpSub.get (.cons rfl (ObSub.box (.cons (Sub.imm (Imm.con _)) (.cons (Sub.imm (Imm.con _)) (.cons (Sub.imm (Imm.lst _ _)) (.cons (Sub.imm (Imm.con _)) (.cons (Sub.imm (Imm.con _)) (.cons (Sub.imm (Imm.lst _ _)) .nil))))))) (.cons rfl (ObSub.rows (rows_imm imms_encS)) .nil))) rfl)) (fun n p h=>?_)
    obtain⟨n44,l45⟩:=p
    refine rn 5 rfl ?_
    refine spL rfl (fun hb46=>?_) (fun hb46=>?_)
    ·obtain⟨x47,tl,hx48,h,hk1⟩:=RG.t hA54 h hb46
     unfold M12_L1 at h
     refine rn 5 rfl ?_
     refine ixh hx48 rfl rfl ?_
     obtain⟨y49,hx50,h⟩:=bind_some h
     refine kroO 68 hx50 rfl ?_
     refine rn 9 rfl ?_
     refine cl h rfl rfl rfl (W36 R12 hR12 _ _ _) rfl (fun y51 hx52 h=>?_)
     refine aops_buildSlice [(0,(sV y51))] [[(sV y51)]] tEl39 tZ9 rfl rfl rfl rfl wants_none (evp_cons rfl evp_nil) rfl rfl (by simp) rfl ?_
     refine fo ?_
     refine apO encS h rfl rfl rfl rfl rfl rfl rfl rfl (fun h=>?_)
     refine rn 7 rfl ?_
     exact jX ((w64 (n44+1)),(l45++([y51]:List (List UInt8)))) (hk1 _ h) (gr [0,4] rfl (hB rfl rfl rfl (hR rfl rfl .nil)) rfl)
    replace h:=RG.f h hb46
    unfold M12_L1 at h
    refine rn 1 rfl ?_
    exact jX l45 h (gr [1] rfl (hR rfl rfl .nil) rfl)
   intro l41 h
   obtain⟨y55,hx56,h⟩:=bind_some h
   refine rn 4 rfl ?_
   refine aops_lend_call (sV y55) [(V.lst 1 (l41.map encS)),(sV s38)] fOk37 (ghost_frzEs 0 [78,4] rfl (rows_imm imms_encS) (by8.2 ⟨rfl,(by8.2 ⟨rfl,(fun _ hx=>nomatch hx)⟩)⟩) (bb8 ..).symm) (Flat.con _) wants_none (evm_cons rfl (evm_cons rfl evm_nil)) (.cons (Imm.lst _ _) (.cons (Imm.con _) .nil)) (W37 F l41 s38 y55 hx56) rfl ?_
   refine fo (rn 2 rfl ?_)
   exact rt h rfl
  refine rn 2 rfl ?_
  exact jX () h (g0 rfl rfl)
 intro _ h
 refine rn 4 rfl ?_
 exact rt h rfl
theorem W12:∀(F:Nat) (a1:TTest) (r:(List UInt8)) (h:M12 F a1=some r),PureG gl Tryz.prog 12 [(V.agg (encTTest a1))] (sV r):=by
 intro F
 induction F with
 |zero=>intros;simp[M12] at *
 |succ F ih=>exact fun a1 r h=>W12_B (M12 F) ih F a1 r h
theorem W10(F:Nat)(a1:(List UInt8))(a2:List UInt8)(r:Unit)(h:M10 F a1 a2=some r):MutG gl Tryz.prog 10 [(V.ptr 0 2 0 0),(sV a1)] 1 [(0,(Ob.bld 38 5 a2))] (resV [(iV (a1.length:Int)),(V.con .nilIface)]) 1 [(0,(Ob.bld 38 5 (a2++a1)))]:=by
 unfold M10 at h
 obtain⟨hc,h⟩:=chk_some h
 exact(mut_bldW (ρ:=Go.Proofs.Tryz.lays156_ren) { Go.Proofs.Tryz.lays156 with } Go.Proofs.Tryz.Builder_Extra_156 rfl hc).heap hget_one
theorem W15(F:Nat)(a1:List UInt8)(r:Unit)(h:M15 F a1=some r):MutG gl Tryz.prog 15 [(V.ptr 0 2 0 0)] 1 [(0,(Ob.bld 38 5 a1))] (resV [(iV ((a1.length:Nat):Int))]) 1 [(0,(Ob.bld 38 5 a1))]:=by
 exact(mut_bldL (ρ:=Go.Proofs.Tryz.lays170_ren) Go.Proofs.Tryz.lays170 (by decide) rfl).heap hget_one
theorem W16(F:Nat)(a1:List UInt8)(r:Unit)(h:M16 F a1=some r):MutG gl Tryz.prog 16 [(V.ptr 0 2 0 0)] 1 [(0,(Ob.bld 38 5 a1))] (resV [(sV a1)]) 1 [(0,Ob.dead)]:=by
 exact(mut_bldS (ρ:=Go.Proofs.Tryz.lays169_ren) Go.Proofs.Tryz.lays169 Go.Proofs.Tryz.Builder_Extra_169 rfl).heap hget_one
set_option maxHeartbeats 4000000 in
theorem W4(F:Nat)(a1:TPolicy)(r:((List UInt8)×Int))(h:M4 F a1=some r):PureG gl Tryz.prog 4 [(V.agg (encTPolicy a1))] (V.tup [(sV (r.1)),(iV (r.2))]):=by
 refine pin (fun r=>(V.tup [(sV (r.1)),(iV (r.2))])) r rfl Tryz.func4 rfl rfl rfl rfl rfl (fun w0 m0 hg=>?_)
 unfold M4 at h
 refine rn 10 rfl ?_
 refine cl h rfl rfl rfl (W9 _ _) rfl (fun y2 hx3 h=>?_)
 refine rn 7 rfl ?_
 refine spC h rfl (fun hb4 h=>?_) (fun hb4 h=>?_)
 ·refine rn 6 rfl ?_
  exact rt h rfl
 refine rn 3 rfl ?_
 refine aops_allocBld 5 rfl tZ38 wants_none rfl ?_
 refine fo (rn 6 rfl ?_)
 refine ln rfl rfl ?_
 refine rn 2 rfl ?_
 refine jK h (fun(p:(List UInt8))=>(⟨[(1,(V.ptr 0 2 0 0)),(5,(V.ptr 1 2 0 0))],[(0,(Ob.arr 25 2 [(encTPolicy a1)])),(1,(Ob.bld 38 5 p))],2⟩:St)) (fun k5 p=>k5 p=some r) (fun k5 h=>?_) ?_
 ·refine rn 1 rfl ?_
  refine wl (A:=a1.Rules) 16 rfl (fun hA30=>?_)
  refine lC (fun(p:Int×(List UInt8))=>(⟨[(1,(V.ptr 0 2 0 0)),(5,(V.ptr 1 2 0 0)),(16,(V.lst 9 (a1.Rules.map encTPolicyRule))),(17,(iV ((a1.Rules.length:Nat):Int))),(18,(iV (p.1)))],[(0,(Ob.arr 25 2 [(encTPolicy a1)])),(1,(Ob.bld 38 5 (p.2)))],2⟩:St)) (fun n p=>RG a1.Rules (fun tl nn=>M4_L1 F k5 tl p.2=some r) n p.1) (fun p h=>RG.zero h) (a1.Rules.length+1) (0,([]:List UInt8)) (RG.start h) (gr [0,1] rfl (hB rfl rfl rfl (hU rfl rfl .nil)) rfl) (fun n p h=>?_)
  obtain⟨n9,s10⟩:=p
  refine rn 5 rfl ?_
  refine spL rfl (fun hb11=>?_) (fun hb11=>?_)
  ·obtain⟨x12,tl,hx13,h,hk1⟩:=RG.t hA30 h hb11
   unfold M4_L1 at h
   refine rn 5 rfl ?_
   refine ixh hx13 rfl rfl ?_
   refine rn 4 rfl ?_
   refine ck h (fun hc14 h=>?_)
   refine ck h (fun hc15 h=>?_)
   refine ck h (fun hc16 h=>?_)
   refine ck h (fun hc17 h=>?_)
   obtain⟨y18,hx19,h⟩:=bind_some h
   obtain⟨x20,hx21,h⟩:=bind_some h
   refine ck h (fun hc22 h=>?_)
   refine ck h (fun hc23 h=>?_)
   obtain⟨y24,hx25,h⟩:=bind_some h
   refine ck h (fun hc26 h=>?_)
   refine ck h (fun hc27 h=>?_)
   obtain⟨y28,hx29,h⟩:=bind_some h
   refine dr mixed (vs 2 rfl (xD (OD.mk [(23,(sV x12.Name))] [] [(24,(sV (([114,117,108,101,32]:List UInt8)++x12.Name)))] []) ⟨⟨rfl,trivial⟩,trivial⟩ (by exact fun S hn h hh=>aops_binT (str (([114,117,108,101,32]:List UInt8)++x12.Name)) wants_none rfl h.1 (if_pos hc14) rfl (aops_nil ⟨rfl,rfl⟩)) rfl (xD (OD.mk [(24,(sV (([114,117,108,101,32]:List UInt8)++x12.Name)))] [] [(25,(sV ((([114,117,108,101,32]:List UInt8)++x12.Name)++([32,97,98,111,117,116,32]:List UInt8))))] []) ⟨⟨rfl,trivial⟩,trivial⟩ (by exact fun S hn h hh=>aops_binT (str ((([114,117,108,101,32]:List UInt8)++x12.Name)++([32,97,98,111,117,116,32]:List UInt8))) wants_none h.1 rfl (if_pos hc15) rfl (aops_nil ⟨rfl,rfl⟩)) rfl (vs 2 rfl (xD (OD.mk [(25,(sV ((([114,117,108,101,32]:List UInt8)++x12.Name)++([32,97,98,111,117,116,32]:List UInt8)))),(27,(sV x12.About))] [] [(28,(sV (((([114,117,108,101,32]:List UInt8)++x12.Name)++([32,97,98,111,117,116,32]:List UInt8))++x12.About)))] []) ⟨⟨rfl,rfl,trivial⟩,trivial⟩ (by exact fun S hn h hh=>aops_binT (str (((([114,117,108,101,32]:List UInt8)++x12.Name)++([32,97,98,111,117,116,32]:List UInt8))++x12.About)) wants_none h.1 h.2.1 (if_pos hc16) rfl (aops_nil ⟨rfl,rfl⟩)) rfl (xD (OD.mk [(28,(sV (((([114,117,108,101,32]:List UInt8)++x12.Name)++([32,97,98,111,117,116,32]:List UInt8))++x12.About)))] [] [(29,(sV ((((([114,117,108,101,32]:List UInt8)++x12.Name)++([32,97,98,111,117,116,32]:List UInt8))++x12.About)++([32]:List UInt8))))] []) ⟨⟨rfl,trivial⟩,trivial⟩ (by exact fun S hn h hh=>aops_binT (str ((((([114,117,108,101,32]:List UInt8)++x12.Name)++([32,97,98,111,117,116,32]:List UInt8))++x12.About)++([32]:List UInt8))) wants_none h.1 rfl (if_pos hc17) rfl (aops_nil ⟨rfl,rfl⟩)) rfl (cD rfl rfl rfl rfl (W11 _ _ hx19) rfl (vs 2 rfl (iD hx21 rfl rfl rfl (vs 1 rfl (xD (OD.mk [(29,(sV ((((([114,117,108,101,32]:List UInt8)++x12.Name)++([32,97,98,111,117,116,32]:List UInt8))++x12.About)++([32]:List UInt8)))),(34,(sV x20))] [] [(35,(sV (((((([114,117,108,101,32]:List UInt8)++x12.Name)++([32,97,98,111,117,116,32]:List UInt8))++x12.About)++([32]:List UInt8))++x20)))] []) ⟨⟨rfl,rfl,trivial⟩,trivial⟩ (by exact fun S hn h hh=>aops_binT (str (((((([114,117,108,101,32]:List UInt8)++x12.Name)++([32,97,98,111,117,116,32]:List UInt8))++x12.About)++([32]:List UInt8))++x20)) wants_none h.1 h.2.1 (if_pos hc22) rfl (aops_nil ⟨rfl,rfl⟩)) rfl (xD (OD.mk [(35,(sV (((((([114,117,108,101,32]:List UInt8)++x12.Name)++([32,97,98,111,117,116,32]:List UInt8))++x12.About)++([32]:List UInt8))++x20)))] [] [(36,(sV ((((((([114,117,108,101,32]:List UInt8)++x12.Name)++([32,97,98,111,117,116,32]:List UInt8))++x12.About)++([32]:List UInt8))++x20)++([32,119,104,101,110,32]:List UInt8))))] []) ⟨⟨rfl,trivial⟩,trivial⟩ (by exact fun S hn h hh=>aops_binT (str ((((((([114,117,108,101,32]:List UInt8)++x12.Name)++([32,97,98,111,117,116,32]:List UInt8))++x12.About)++([32]:List UInt8))++x20)++([32,119,104,101,110,32]:List UInt8))) wants_none h.1 rfl (if_pos hc23) rfl (aops_nil ⟨rfl,rfl⟩)) rfl (vs 2 rfl (cD rfl rfl rfl rfl (W12 _ _ _ hx25) rfl (xD (OD.mk [(36,(sV ((((((([114,117,108,101,32]:List UInt8)++x12.Name)++([32,97,98,111,117,116,32]:List UInt8))++x12.About)++([32]:List UInt8))++x20)++([32,119,104,101,110,32]:List UInt8)))),(39,(sV y24))] [] [(40,(sV (((((((([114,117,108,101,32]:List UInt8)++x12.Name)++([32,97,98,111,117,116,32]:List UInt8))++x12.About)++([32]:List UInt8))++x20)++([32,119,104,101,110,32]:List UInt8))++y24)))] []) ⟨⟨rfl,rfl,trivial⟩,trivial⟩ (by exact fun S hn h hh=>aops_binT (str (((((((([114,117,108,101,32]:List UInt8)++x12.Name)++([32,97,98,111,117,116,32]:List UInt8))++x12.About)++([32]:List UInt8))++x20)++([32,119,104,101,110,32]:List UInt8))++y24)) wants_none h.1 h.2.1 (if_pos hc26) rfl (aops_nil ⟨rfl,rfl⟩)) rfl (xD (OD.mk [(40,(sV (((((((([114,117,108,101,32]:List UInt8)++x12.Name)++([32,97,98,111,117,116,32]:List UInt8))++x12.About)++([32]:List UInt8))++x20)++([32,119,104,101,110,32]:List UInt8))++y24)))] [] [(41,(sV ((((((((([114,117,108,101,32]:List UInt8)++x12.Name)++([32,97,98,111,117,116,32]:List UInt8))++x12.About)++([32]:List UInt8))++x20)++([32,119,104,101,110,32]:List UInt8))++y24)++([10]:List UInt8))))] []) ⟨⟨rfl,trivial⟩,trivial⟩ (by exact fun S hn h hh=>aops_binT (str ((((((((([114,117,108,101,32]:List UInt8)++x12.Name)++([32,97,98,111,117,116,32]:List UInt8))++x12.About)++([32]:List UInt8))++x20)++([32,119,104,101,110,32]:List UInt8))++y24)++([10]:List UInt8))) wants_none h.1 rfl (if_pos hc27) rfl (aops_nil ⟨rfl,rfl⟩)) rfl (xD (OD.mk [(5,(V.ptr 1 2 0 0)),(41,(sV ((((((((([114,117,108,101,32]:List UInt8)++x12.Name)++([32,97,98,111,117,116,32]:List UInt8))++x12.About)++([32]:List UInt8))++x20)++([32,119,104,101,110,32]:List UInt8))++y24)++([10]:List UInt8))))] [(1,(Ob.bld 38 5 s10))] [(42,(V.tup [(iV (((((((((([114,117,108,101,32]:List UInt8)++x12.Name)++([32,97,98,111,117,116,32]:List UInt8))++x12.About)++([32]:List UInt8))++x20)++([32,119,104,101,110,32]:List UInt8))++y24)++([10]:List UInt8)).length:Int)),(V.con .nilIface)]))] [(1,(Ob.bld 38 5 (s10++((((((((([114,117,108,101,32]:List UInt8)++x12.Name)++([32,97,98,111,117,116,32]:List UInt8))++x12.About)++([32]:List UInt8))++x20)++([32,119,104,101,110,32]:List UInt8))++y24)++([10]:List UInt8)))))]) ⟨⟨rfl,rfl,trivial⟩,⟨rfl,trivial⟩⟩ (by exact fun S hn h hh=>aops_mcall_atH [] hn (fun _ hx=>nomatch hx) (V.tup [(iV (((((((((([114,117,108,101,32]:List UInt8)++x12.Name)++([32,97,98,111,117,116,32]:List UInt8))++x12.About)++([32]:List UInt8))++x20)++([32,119,104,101,110,32]:List UInt8))++y24)++([10]:List UInt8)).length:Int)),(V.con .nilIface)]) [(V.ptr 1 2 0 0),(sV ((((((((([114,117,108,101,32]:List UInt8)++x12.Name)++([32,97,98,111,117,116,32]:List UInt8))++x12.About)++([32]:List UInt8))++x20)++([32,119,104,101,110,32]:List UInt8))++y24)++([10]:List UInt8)))] (fun i=>([1]:List Nat).getD i 0) (fun i=>([1]:List Nat).getD i 0) [(1,(Ob.bld 38 5 (s10++((((((((([114,117,108,101,32]:List UInt8)++x12.Name)++([32,97,98,111,117,116,32]:List UInt8))++x12.About)++([32]:List UInt8))++x20)++([32,119,104,101,110,32]:List UInt8))++y24)++([10]:List UInt8)))))] fOk10 wants_none rfl (evm_cons h.1 (evm_cons h.2.1 evm_nil)) (.cons (Sub.ptr rfl rfl) (.cons (Sub.imm (Imm.con _)) .nil)) (HpSub.consE (id:=0) rfl hh.1 ObSub.bld .nil) (W10 F ((((((((([114,117,108,101,32]:List UInt8)++x12.Name)++([32,97,98,111,117,116,32]:List UInt8))++x12.About)++([32]:List UInt8))++x20)++([32,119,104,101,110,32]:List UInt8))++y24)++([10]:List UInt8)) s10 y28 hx29) rfl rfl rfl rfl (Sub.immT (Imm.tup (.cons (Imm.con _) (.cons (Imm.con _) .nil)))) (.cons rfl ObSub.bld .nil) (aops_nil ⟨rfl,rfl⟩)) rfl .nil))))))))))))))))) (by kernel_rfl) ?_
   refine rn 5 rfl ?_
   exact jX ((w64 (n9+1)),(s10++((((((((([114,117,108,101,32]:List UInt8)++x12.Name)++([32,97,98,111,117,116,32]:List UInt8))++x12.About)++([32]:List UInt8))++x20)++([32,119,104,101,110,32]:List UInt8))++y24)++([10]:List UInt8)))) (hk1 _ h) (gr [0,1] rfl (hB rfl rfl rfl (hU rfl rfl .nil)) rfl)
  replace h:=RG.f h hb11
  unfold M4_L1 at h
  refine rn 1 rfl ?_
  exact jX s10 h (gr [0,1] rfl (hB rfl rfl rfl (hU rfl rfl .nil)) rfl)
 intro s6 h
 refine rn 5 rfl ?_
 refine ln rfl rfl ?_
 refine rn 2 rfl ?_
 refine jK h (fun(p:(List UInt8))=>(⟨[(5,(V.ptr 0 2 0 0))],[(0,(Ob.bld 38 5 p))],1⟩:St)) (fun k31 p=>k31 p=some r) (fun k31 h=>?_) ?_
 ·refine rn 1 rfl ?_
  refine wl (A:=a1.Waivers) 45 rfl (fun hA64=>?_)
  refine lC (fun(p:Int×(List UInt8))=>(⟨[(5,(V.ptr 0 2 0 0)),(45,(V.lst 6 (a1.Waivers.map encTWaiver))),(46,(iV ((a1.Waivers.length:Nat):Int))),(47,(iV (p.1)))],[(0,(Ob.bld 38 5 (p.2)))],1⟩:St)) (fun n p=>RG a1.Waivers (fun tl nn=>M4_L2 F k31 tl p.2=some r) n p.1) (fun p h=>RG.zero h) (a1.Waivers.length+1) (0,s6) (RG.start h) (gr [1] rfl (hU rfl rfl .nil) rfl) (fun n p h=>?_)
  obtain⟨n35,s36⟩:=p
  refine rn 5 rfl ?_
  refine spL rfl (fun hb37=>?_) (fun hb37=>?_)
  ·obtain⟨x38,tl,hx39,h,hk2⟩:=RG.t hA64 h hb37
   unfold M4_L2 at h
   refine rn 5 rfl ?_
   refine ixh hx39 rfl rfl ?_
   refine rn 4 rfl ?_
   refine ck h (fun hc40 h=>?_)
   refine ck h (fun hc41 h=>?_)
   obtain⟨y42,hx43,h⟩:=bind_some h
   refine ck h (fun hc44 h=>?_)
   refine ck h (fun hc45 h=>?_)
   obtain⟨y46,hx47,h⟩:=bind_some h
   refine ck h (fun hc48 h=>?_)
   refine ck h (fun hc49 h=>?_)
   obtain⟨y50,hx51,h⟩:=bind_some h
   refine ck h (fun hc52 h=>?_)
   refine ck h (fun hc53 h=>?_)
   refine ck h (fun hc54 h=>?_)
   refine ck h (fun hc55 h=>?_)
   obtain⟨y56,hx57,h⟩:=bind_some h
   obtain⟨x58,hx59,h⟩:=bind_some h
   refine ck h (fun hc60 h=>?_)
   refine ck h (fun hc61 h=>?_)
   obtain⟨y62,hx63,h⟩:=bind_some h
   refine dr mixed (vs 2 rfl (xD (OD.mk [(52,(sV x38.Rule))] [] [(53,(sV (([119,97,105,118,101,32]:List UInt8)++x38.Rule)))] []) ⟨⟨rfl,trivial⟩,trivial⟩ (by exact fun S hn h hh=>aops_binT (str (([119,97,105,118,101,32]:List UInt8)++x38.Rule)) wants_none rfl h.1 (if_pos hc40) rfl (aops_nil ⟨rfl,rfl⟩)) rfl (xD (OD.mk [(53,(sV (([119,97,105,118,101,32]:List UInt8)++x38.Rule)))] [] [(54,(sV ((([119,97,105,118,101,32]:List UInt8)++x38.Rule)++([32,102,111,114,32]:List UInt8))))] []) ⟨⟨rfl,trivial⟩,trivial⟩ (by exact fun S hn h hh=>aops_binT (str ((([119,97,105,118,101,32]:List UInt8)++x38.Rule)++([32,102,111,114,32]:List UInt8))) wants_none h.1 rfl (if_pos hc41) rfl (aops_nil ⟨rfl,rfl⟩)) rfl (vs 2 rfl (cD rfl rfl rfl rfl (W13 _ _ _ hx43) rfl (xD (OD.mk [(54,(sV ((([119,97,105,118,101,32]:List UInt8)++x38.Rule)++([32,102,111,114,32]:List UInt8)))),(57,(sV y42))] [] [(58,(sV (((([119,97,105,118,101,32]:List UInt8)++x38.Rule)++([32,102,111,114,32]:List UInt8))++y42)))] []) ⟨⟨rfl,rfl,trivial⟩,trivial⟩ (by exact fun S hn h hh=>aops_binT (str (((([119,97,105,118,101,32]:List UInt8)++x38.Rule)++([32,102,111,114,32]:List UInt8))++y42)) wants_none h.1 h.2.1 (if_pos hc44) rfl (aops_nil ⟨rfl,rfl⟩)) rfl (xD (OD.mk [(58,(sV (((([119,97,105,118,101,32]:List UInt8)++x38.Rule)++([32,102,111,114,32]:List UInt8))++y42)))] [] [(59,(sV ((((([119,97,105,118,101,32]:List UInt8)++x38.Rule)++([32,102,111,114,32]:List UInt8))++y42)++([32,102,114,111,109,32]:List UInt8))))] []) ⟨⟨rfl,trivial⟩,trivial⟩ (by exact fun S hn h hh=>aops_binT (str ((((([119,97,105,118,101,32]:List UInt8)++x38.Rule)++([32,102,111,114,32]:List UInt8))++y42)++([32,102,114,111,109,32]:List UInt8))) wants_none h.1 rfl (if_pos hc45) rfl (aops_nil ⟨rfl,rfl⟩)) rfl (vs 2 rfl (cD rfl rfl rfl rfl (W14 _ _ _ hx47) rfl (xD (OD.mk [(59,(sV ((((([119,97,105,118,101,32]:List UInt8)++x38.Rule)++([32,102,111,114,32]:List UInt8))++y42)++([32,102,114,111,109,32]:List UInt8)))),(62,(sV y46))] [] [(63,(sV (((((([119,97,105,118,101,32]:List UInt8)++x38.Rule)++([32,102,111,114,32]:List UInt8))++y42)++([32,102,114,111,109,32]:List UInt8))++y46)))] []) ⟨⟨rfl,rfl,trivial⟩,trivial⟩ (by exact fun S hn h hh=>aops_binT (str (((((([119,97,105,118,101,32]:List UInt8)++x38.Rule)++([32,102,111,114,32]:List UInt8))++y42)++([32,102,114,111,109,32]:List UInt8))++y46)) wants_none h.1 h.2.1 (if_pos hc48) rfl (aops_nil ⟨rfl,rfl⟩)) rfl (xD (OD.mk [(63,(sV (((((([119,97,105,118,101,32]:List UInt8)++x38.Rule)++([32,102,111,114,32]:List UInt8))++y42)++([32,102,114,111,109,32]:List UInt8))++y46)))] [] [(64,(sV ((((((([119,97,105,118,101,32]:List UInt8)++x38.Rule)++([32,102,111,114,32]:List UInt8))++y42)++([32,102,114,111,109,32]:List UInt8))++y46)++([32,116,111,32]:List UInt8))))] []) ⟨⟨rfl,trivial⟩,trivial⟩ (by exact fun S hn h hh=>aops_binT (str ((((((([119,97,105,118,101,32]:List UInt8)++x38.Rule)++([32,102,111,114,32]:List UInt8))++y42)++([32,102,114,111,109,32]:List UInt8))++y46)++([32,116,111,32]:List UInt8))) wants_none h.1 rfl (if_pos hc49) rfl (aops_nil ⟨rfl,rfl⟩)) rfl (vs 2 rfl (cD rfl rfl rfl rfl (W14 _ _ _ hx51) rfl (xD (OD.mk [(64,(sV ((((((([119,97,105,118,101,32]:List UInt8)++x38.Rule)++([32,102,111,114,32]:List UInt8))++y42)++([32,102,114,111,109,32]:List UInt8))++y46)++([32,116,111,32]:List UInt8)))),(67,(sV y50))] [] [(68,(sV (((((((([119,97,105,118,101,32]:List UInt8)++x38.Rule)++([32,102,111,114,32]:List UInt8))++y42)++([32,102,114,111,109,32]:List UInt8))++y46)++([32,116,111,32]:List UInt8))++y50)))] []) ⟨⟨rfl,rfl,trivial⟩,trivial⟩ (by exact fun S hn h hh=>aops_binT (str (((((((([119,97,105,118,101,32]:List UInt8)++x38.Rule)++([32,102,111,114,32]:List UInt8))++y42)++([32,102,114,111,109,32]:List UInt8))++y46)++([32,116,111,32]:List UInt8))++y50)) wants_none h.1 h.2.1 (if_pos hc52) rfl (aops_nil ⟨rfl,rfl⟩)) rfl (xD (OD.mk [(68,(sV (((((((([119,97,105,118,101,32]:List UInt8)++x38.Rule)++([32,102,111,114,32]:List UInt8))++y42)++([32,102,114,111,109,32]:List UInt8))++y46)++([32,116,111,32]:List UInt8))++y50)))] [] [(69,(sV ((((((((([119,97,105,118,101,32]:List UInt8)++x38.Rule)++([32,102,111,114,32]:List UInt8))++y42)++([32,102,114,111,109,32]:List UInt8))++y46)++([32,116,111,32]:List UInt8))++y50)++([32,98,121,32]:List UInt8))))] []) ⟨⟨rfl,trivial⟩,trivial⟩ (by exact fun S hn h hh=>aops_binT (str ((((((((([119,97,105,118,101,32]:List UInt8)++x38.Rule)++([32,102,111,114,32]:List UInt8))++y42)++([32,102,114,111,109,32]:List UInt8))++y46)++([32,116,111,32]:List UInt8))++y50)++([32,98,121,32]:List UInt8))) wants_none h.1 rfl (if_pos hc53) rfl (aops_nil ⟨rfl,rfl⟩)) rfl (vs 2 rfl (xD (OD.mk [(69,(sV ((((((((([119,97,105,118,101,32]:List UInt8)++x38.Rule)++([32,102,111,114,32]:List UInt8))++y42)++([32,102,114,111,109,32]:List UInt8))++y46)++([32,116,111,32]:List UInt8))++y50)++([32,98,121,32]:List UInt8)))),(71,(sV x38.Owner))] [] [(72,(sV (((((((((([119,97,105,118,101,32]:List UInt8)++x38.Rule)++([32,102,111,114,32]:List UInt8))++y42)++([32,102,114,111,109,32]:List UInt8))++y46)++([32,116,111,32]:List UInt8))++y50)++([32,98,121,32]:List UInt8))++x38.Owner)))] []) ⟨⟨rfl,rfl,trivial⟩,trivial⟩ (by exact fun S hn h hh=>aops_binT (str (((((((((([119,97,105,118,101,32]:List UInt8)++x38.Rule)++([32,102,111,114,32]:List UInt8))++y42)++([32,102,114,111,109,32]:List UInt8))++y46)++([32,116,111,32]:List UInt8))++y50)++([32,98,121,32]:List UInt8))++x38.Owner)) wants_none h.1 h.2.1 (if_pos hc54) rfl (aops_nil ⟨rfl,rfl⟩)) rfl (xD (OD.mk [(72,(sV (((((((((([119,97,105,118,101,32]:List UInt8)++x38.Rule)++([32,102,111,114,32]:List UInt8))++y42)++([32,102,114,111,109,32]:List UInt8))++y46)++([32,116,111,32]:List UInt8))++y50)++([32,98,121,32]:List UInt8))++x38.Owner)))] [] [(73,(sV ((((((((((([119,97,105,118,101,32]:List UInt8)++x38.Rule)++([32,102,111,114,32]:List UInt8))++y42)++([32,102,114,111,109,32]:List UInt8))++y46)++([32,116,111,32]:List UInt8))++y50)++([32,98,121,32]:List UInt8))++x38.Owner)++([32,97,115,32]:List UInt8))))] []) ⟨⟨rfl,trivial⟩,trivial⟩ (by exact fun S hn h hh=>aops_binT (str ((((((((((([119,97,105,118,101,32]:List UInt8)++x38.Rule)++([32,102,111,114,32]:List UInt8))++y42)++([32,102,114,111,109,32]:List UInt8))++y46)++([32,116,111,32]:List UInt8))++y50)++([32,98,121,32]:List UInt8))++x38.Owner)++([32,97,115,32]:List UInt8))) wants_none h.1 rfl (if_pos hc55) rfl (aops_nil ⟨rfl,rfl⟩)) rfl (cD rfl rfl rfl rfl (W11 _ _ hx57) rfl (vs 2 rfl (iD hx59 rfl rfl rfl (vs 1 rfl (xD (OD.mk [(73,(sV ((((((((((([119,97,105,118,101,32]:List UInt8)++x38.Rule)++([32,102,111,114,32]:List UInt8))++y42)++([32,102,114,111,109,32]:List UInt8))++y46)++([32,116,111,32]:List UInt8))++y50)++([32,98,121,32]:List UInt8))++x38.Owner)++([32,97,115,32]:List UInt8)))),(78,(sV x58))] [] [(79,(sV (((((((((((([119,97,105,118,101,32]:List UInt8)++x38.Rule)++([32,102,111,114,32]:List UInt8))++y42)++([32,102,114,111,109,32]:List UInt8))++y46)++([32,116,111,32]:List UInt8))++y50)++([32,98,121,32]:List UInt8))++x38.Owner)++([32,97,115,32]:List UInt8))++x58)))] []) ⟨⟨rfl,rfl,trivial⟩,trivial⟩ (by exact fun S hn h hh=>aops_binT (str (((((((((((([119,97,105,118,101,32]:List UInt8)++x38.Rule)++([32,102,111,114,32]:List UInt8))++y42)++([32,102,114,111,109,32]:List UInt8))++y46)++([32,116,111,32]:List UInt8))++y50)++([32,98,121,32]:List UInt8))++x38.Owner)++([32,97,115,32]:List UInt8))++x58)) wants_none h.1 h.2.1 (if_pos hc60) rfl (aops_nil ⟨rfl,rfl⟩)) rfl (xD (OD.mk [(79,(sV (((((((((((([119,97,105,118,101,32]:List UInt8)++x38.Rule)++([32,102,111,114,32]:List UInt8))++y42)++([32,102,114,111,109,32]:List UInt8))++y46)++([32,116,111,32]:List UInt8))++y50)++([32,98,121,32]:List UInt8))++x38.Owner)++([32,97,115,32]:List UInt8))++x58)))] [] [(80,(sV ((((((((((((([119,97,105,118,101,32]:List UInt8)++x38.Rule)++([32,102,111,114,32]:List UInt8))++y42)++([32,102,114,111,109,32]:List UInt8))++y46)++([32,116,111,32]:List UInt8))++y50)++([32,98,121,32]:List UInt8))++x38.Owner)++([32,97,115,32]:List UInt8))++x58)++([10]:List UInt8))))] []) ⟨⟨rfl,trivial⟩,trivial⟩ (by exact fun S hn h hh=>aops_binT (str ((((((((((((([119,97,105,118,101,32]:List UInt8)++x38.Rule)++([32,102,111,114,32]:List UInt8))++y42)++([32,102,114,111,109,32]:List UInt8))++y46)++([32,116,111,32]:List UInt8))++y50)++([32,98,121,32]:List UInt8))++x38.Owner)++([32,97,115,32]:List UInt8))++x58)++([10]:List UInt8))) wants_none h.1 rfl (if_pos hc61) rfl (aops_nil ⟨rfl,rfl⟩)) rfl (xD (OD.mk [(5,(V.ptr 0 2 0 0)),(80,(sV ((((((((((((([119,97,105,118,101,32]:List UInt8)++x38.Rule)++([32,102,111,114,32]:List UInt8))++y42)++([32,102,114,111,109,32]:List UInt8))++y46)++([32,116,111,32]:List UInt8))++y50)++([32,98,121,32]:List UInt8))++x38.Owner)++([32,97,115,32]:List UInt8))++x58)++([10]:List UInt8))))] [(0,(Ob.bld 38 5 s36))] [(81,(V.tup [(iV (((((((((((((([119,97,105,118,101,32]:List UInt8)++x38.Rule)++([32,102,111,114,32]:List UInt8))++y42)++([32,102,114,111,109,32]:List UInt8))++y46)++([32,116,111,32]:List UInt8))++y50)++([32,98,121,32]:List UInt8))++x38.Owner)++([32,97,115,32]:List UInt8))++x58)++([10]:List UInt8)).length:Int)),(V.con .nilIface)]))] [(0,(Ob.bld 38 5 (s36++((((((((((((([119,97,105,118,101,32]:List UInt8)++x38.Rule)++([32,102,111,114,32]:List UInt8))++y42)++([32,102,114,111,109,32]:List UInt8))++y46)++([32,116,111,32]:List UInt8))++y50)++([32,98,121,32]:List UInt8))++x38.Owner)++([32,97,115,32]:List UInt8))++x58)++([10]:List UInt8)))))]) ⟨⟨rfl,rfl,trivial⟩,⟨rfl,trivial⟩⟩ (by exact fun S hn h hh=>aops_mcall_atH [] hn (fun _ hx=>nomatch hx) (V.tup [(iV (((((((((((((([119,97,105,118,101,32]:List UInt8)++x38.Rule)++([32,102,111,114,32]:List UInt8))++y42)++([32,102,114,111,109,32]:List UInt8))++y46)++([32,116,111,32]:List UInt8))++y50)++([32,98,121,32]:List UInt8))++x38.Owner)++([32,97,115,32]:List UInt8))++x58)++([10]:List UInt8)).length:Int)),(V.con .nilIface)]) [(V.ptr 0 2 0 0),(sV ((((((((((((([119,97,105,118,101,32]:List UInt8)++x38.Rule)++([32,102,111,114,32]:List UInt8))++y42)++([32,102,114,111,109,32]:List UInt8))++y46)++([32,116,111,32]:List UInt8))++y50)++([32,98,121,32]:List UInt8))++x38.Owner)++([32,97,115,32]:List UInt8))++x58)++([10]:List UInt8)))] (fun i=>([0]:List Nat).getD i 0) (fun i=>([0]:List Nat).getD i 0) [(0,(Ob.bld 38 5 (s36++((((((((((((([119,97,105,118,101,32]:List UInt8)++x38.Rule)++([32,102,111,114,32]:List UInt8))++y42)++([32,102,114,111,109,32]:List UInt8))++y46)++([32,116,111,32]:List UInt8))++y50)++([32,98,121,32]:List UInt8))++x38.Owner)++([32,97,115,32]:List UInt8))++x58)++([10]:List UInt8)))))] fOk10 wants_none rfl (evm_cons h.1 (evm_cons h.2.1 evm_nil)) (.cons (Sub.ptr rfl rfl) (.cons (Sub.imm (Imm.con _)) .nil)) (HpSub.consE (id:=0) rfl hh.1 ObSub.bld .nil) (W10 F ((((((((((((([119,97,105,118,101,32]:List UInt8)++x38.Rule)++([32,102,111,114,32]:List UInt8))++y42)++([32,102,114,111,109,32]:List UInt8))++y46)++([32,116,111,32]:List UInt8))++y50)++([32,98,121,32]:List UInt8))++x38.Owner)++([32,97,115,32]:List UInt8))++x58)++([10]:List UInt8)) s36 y62 hx63) rfl rfl rfl rfl (Sub.immT (Imm.tup (.cons (Imm.con _) (.cons (Imm.con _) .nil)))) (.cons rfl ObSub.bld .nil) (aops_nil ⟨rfl,rfl⟩)) rfl .nil))))))))))))))))))))))))) (by kernel_rfl) ?_
   refine rn 5 rfl ?_
   exact jX ((w64 (n35+1)),(s36++((((((((((((([119,97,105,118,101,32]:List UInt8)++x38.Rule)++([32,102,111,114,32]:List UInt8))++y42)++([32,102,114,111,109,32]:List UInt8))++y46)++([32,116,111,32]:List UInt8))++y50)++([32,98,121,32]:List UInt8))++x38.Owner)++([32,97,115,32]:List UInt8))++x58)++([10]:List UInt8)))) (hk2 _ h) (gr [0] rfl (hU rfl rfl .nil) rfl)
  replace h:=RG.f h hb37
  unfold M4_L2 at h
  refine rn 1 rfl ?_
  exact jX s36 h (gr [0] rfl (hU rfl rfl .nil) rfl)
 intro s32 h
 obtain⟨y65,hx66,h⟩:=bind_some h
 refine rn 3 rfl ?_
 refine aops_mcallS (iV ((s32.length:Nat):Int)) [(V.ptr 0 2 0 0)] (fun i=>([0]:List Nat).getD i 0) (fun i=>([0]:List Nat).getD i 0) 1 1 [(0,(Ob.bld 38 5 s32))] fOk15 wants_none rfl (evm_cons rfl evm_nil) (.cons (Sub.ptr rfl rfl) .nil) (.cons rfl ObSub.bld .nil) (W15 F s32 y65 hx66) rfl rfl rfl rfl (Sub.immT (Imm.con _)) (.cons rfl ObSub.bld .nil) _ rfl ?_
 refine fo (rn 2 rfl ?_)
 refine spC h rfl (fun hb67 h=>?_) (fun hb67 h=>?_)
 ·refine rn 5 rfl ?_
  exact rt h rfl
 obtain⟨y68,hx69,h⟩:=bind_some h
 refine rn 3 rfl ?_
 refine aops_mcallS (sV s32) [(V.ptr 0 2 0 0)] (fun i=>([0]:List Nat).getD i 0) (fun i=>([0]:List Nat).getD i 0) 1 1 [(0,Ob.dead)] fOk16 wants_none rfl (evm_cons rfl evm_nil) (.cons (Sub.ptr rfl rfl) .nil) (.cons rfl ObSub.bld .nil) (W16 F s32 y68 hx69) rfl rfl rfl rfl (Sub.immT (Imm.con _)) (.cons rfl ObSub.deadT .nil) _ rfl ?_
 refine fo (rn 3 rfl ?_)
 exact rt h rfl
theorem W103(F:Nat)(a1:(List UInt8))(r:Bool)(h:M103 F a1=some r):PureG gl Tryz.prog 103 [(sV a1)] (bV r):=by
 refine pin (fun r=>(bV r)) r rfl Tryz.func103 rfl rfl rfl rfl rfl (fun w0 m0 hg=>?_)
 unfold M103 at h
 refine rn 6 rfl ?_
 refine aops_buildA [(0,(sV ([114,117,108,101]:List UInt8))),(1,(sV ([97,98,111,117,116]:List UInt8))),(2,(sV ([119,104,101,110]:List UInt8))),(3,(sV ([119,97,105,118,101]:List UInt8))),(4,(sV ([102,111,114]:List UInt8))),(5,(sV ([102,114,111,109]:List UInt8))),(6,(sV ([116,111]:List UInt8))),(7,(sV ([98,121]:List UInt8))),(8,(sV ([97,115]:List UInt8))),(9,(sV ([112,97,115,115]:List UInt8))),(10,(sV ([110,111,116,101]:List UInt8))),(11,(sV ([119,97,114,110]:List UInt8))),(12,(sV ([100,101,110,121]:List UInt8))),(13,(sV ([111,114]:List UInt8))),(14,(sV ([97,110,100]:List UInt8))),(15,(sV ([116,114,117,101]:List UInt8))),(16,(sV ([105,115]:List UInt8))),(17,(sV ([98,101,103,105,110,115]:List UInt8))),(18,(sV ([104,97,115]:List UInt8))),(19,(sV ([110,111,116]:List UInt8)))] [(sV ([114,117,108,101]:List UInt8)),(sV ([97,98,111,117,116]:List UInt8)),(sV ([119,104,101,110]:List UInt8)),(sV ([119,97,105,118,101]:List UInt8)),(sV ([102,111,114]:List UInt8)),(sV ([102,114,111,109]:List UInt8)),(sV ([116,111]:List UInt8)),(sV ([98,121]:List UInt8)),(sV ([97,115]:List UInt8)),(sV ([112,97,115,115]:List UInt8)),(sV ([110,111,116,101]:List UInt8)),(sV ([119,97,114,110]:List UInt8)),(sV ([100,101,110,121]:List UInt8)),(sV ([111,114]:List UInt8)),(sV ([97,110,100]:List UInt8)),(sV ([116,114,117,101]:List UInt8)),(sV ([105,115]:List UInt8)),(sV ([98,101,103,105,110,115]:List UInt8)),(sV ([104,97,115]:List UInt8)),(sV ([110,111,116]:List UInt8))] tZ198 tArr198 rfl wants_none (evp_cons rfl (evp_cons rfl (evp_cons rfl (evp_cons rfl (evp_cons rfl (evp_cons rfl (evp_cons rfl (evp_cons rfl (evp_cons rfl (evp_cons rfl (evp_cons rfl (evp_cons rfl (evp_cons rfl (evp_cons rfl (evp_cons rfl (evp_cons rfl (evp_cons rfl (evp_cons rfl (evp_cons rfl (evp_cons rfl evp_nil)))))))))))))))))))) rfl rfl ?_
 refine fo (rn 8 rfl ?_)
 refine jK h (fun _:Unit=>(⟨[],[],0⟩:St)) (fun k2 (_:Unit)=>k2=some r) (fun k2 h=>?_) ?_
 ·refine rn 1 rfl ?_
  refine ck h (fun hA8 h=>?_)
  refine lC (fun(p:Int)=>(⟨[(0,(sV a1)),(3,(V.ptr 0 20 0 0)),(4,(iV p))],[(0,(Ob.arr 198 20 [[(sV ([114,117,108,101]:List UInt8)),(sV ([97,98,111,117,116]:List UInt8)),(sV ([119,104,101,110]:List UInt8)),(sV ([119,97,105,118,101]:List UInt8)),(sV ([102,111,114]:List UInt8)),(sV ([102,114,111,109]:List UInt8)),(sV ([116,111]:List UInt8)),(sV ([98,121]:List UInt8)),(sV ([97,115]:List UInt8)),(sV ([112,97,115,115]:List UInt8)),(sV ([110,111,116,101]:List UInt8)),(sV ([119,97,114,110]:List UInt8)),(sV ([100,101,110,121]:List UInt8)),(sV ([111,114]:List UInt8)),(sV ([97,110,100]:List UInt8)),(sV ([116,114,117,101]:List UInt8)),(sV ([105,115]:List UInt8)),(sV ([98,101,103,105,110,115]:List UInt8)),(sV ([104,97,115]:List UInt8)),(sV ([110,111,116]:List UInt8))]]))],1⟩:St)) (fun n p=>RC 20 (fun tl nn=>M103_L1 F a1 k2 tl nn=some r) n p) (fun p h=>RC.zero h) (Int.toNat 20+1) 0 (RC.start h) (gr [0] rfl (hB rfl rfl rfl .nil) rfl) (fun n n4 h=>?_)
  refine rn 6 rfl ?_
  refine spL rfl (fun hb5=>?_) (fun hb5=>?_)
  ·obtain⟨tl,h,hk1⟩:=RC.t hA8 h hb5
   unfold M103_L1 at h
   refine rn 6 rfl ?_
   refine ck h (fun hc6 h=>?_)
   refine aops_index_arr tArr198 wants_none rfl rfl hc6.1 hc6.2 rfl ?_
   refine aops_load_cell (sV ((arrOf [] [([114,117,108,101]:List UInt8),([97,98,111,117,116]:List UInt8),([119,104,101,110]:List UInt8),([119,97,105,118,101]:List UInt8),([102,111,114]:List UInt8),([102,114,111,109]:List UInt8),([116,111]:List UInt8),([98,121]:List UInt8),([97,115]:List UInt8),([112,97,115,115]:List UInt8),([110,111,116,101]:List UInt8),([119,97,114,110]:List UInt8),([100,101,110,121]:List UInt8),([111,114]:List UInt8),([97,110,100]:List UInt8),([116,114,117,101]:List UInt8),([105,115]:List UInt8),([98,101,103,105,110,115]:List UInt8),([104,97,115]:List UInt8),([110,111,116]:List UInt8)]) n4.toNat)) tC9 wants_none rfl rfl rfl (arr_get [] [] (fun i=>(sV ((arrOf [] [([114,117,108,101]:List UInt8),([97,98,111,117,116]:List UInt8),([119,104,101,110]:List UInt8),([119,97,105,118,101]:List UInt8),([102,111,114]:List UInt8),([102,114,111,109]:List UInt8),([116,111]:List UInt8),([98,121]:List UInt8),([97,115]:List UInt8),([112,97,115,115]:List UInt8),([110,111,116,101]:List UInt8),([119,97,114,110]:List UInt8),([100,101,110,121]:List UInt8),([111,114]:List UInt8),([97,110,100]:List UInt8),([116,114,117,101]:List UInt8),([105,115]:List UInt8),([98,101,103,105,110,115]:List UInt8),([104,97,115]:List UInt8),([110,111,116]:List UInt8)]) i))) hc6.2 rfl (by simp)) rfl rfl ?_
   refine fo (rn 3 rfl ?_)
   refine spC h rfl (fun hb7 h=>?_) (fun hb7 h=>?_)
   ·refine rn 4 rfl ?_
    exact rt h rfl
   refine rn 7 rfl ?_
   exact jX (w64 (n4+1)) (hk1 _ h) (gr [0] rfl (hB rfl rfl rfl .nil) rfl)
  replace h:=RC.f h hb5
  unfold M103_L1 at h
  refine rn 1 rfl ?_
  exact jX () h (g0 rfl rfl)
 intro _ h
 refine rn 4 rfl ?_
 exact rt h rfl
theorem W104(F:Nat)(a1:Int)(r:Bool)(h:M104 F a1=some r):PureG gl Tryz.prog 104 [(V.con (.int .u8 a1))] (bV r):=by
 refine pin (fun r=>(bV r)) r rfl Tryz.func104 rfl rfl rfl rfl rfl (fun w0 m0 hg=>?_)
 unfold M104 at h
 refine rn 9 rfl ?_
 refine spO 5 h rfl (fun hb2 h=>?_) (fun hb2 h=>?_)
 ·refine rn 4 rfl ?_
  refine spO 9 h rfl (fun hb3 h=>?_) (fun hb3 h=>?_)
  ·refine rn 13 rfl ?_
   exact rt h rfl
  refine rn 3 rfl ?_
  refine spO 12 h rfl (fun hb4 h=>?_) (fun hb4 h=>?_)
  ·refine rn 5 rfl ?_
   refine spO 17 h rfl (fun hb5 h=>?_) (fun hb5 h=>?_)
   ·refine rn 5 rfl ?_
    exact rt h rfl
   refine rn 5 rfl ?_
   exact rt h rfl
  refine rn 10 rfl ?_
  exact rt h rfl
 refine rn 7 rfl ?_
 refine spO 12 h rfl (fun hb6 h=>?_) (fun hb6 h=>?_)
 ·refine rn 5 rfl ?_
  refine spO 17 h rfl (fun hb7 h=>?_) (fun hb7 h=>?_)
  ·refine rn 5 rfl ?_
   exact rt h rfl
  refine rn 5 rfl ?_
  exact rt h rfl
 refine rn 10 rfl ?_
 exact rt h rfl
theorem W71(F:Nat)(a1:(List UInt8))(r:Bool)(h:M71 F a1=some r):PureG gl Tryz.prog 71 [(sV a1)] (bV r):=by
 refine pin (fun r=>(bV r)) r rfl Tryz.func71 rfl rfl rfl rfl rfl (fun w0 m0 hg=>?_)
 unfold M71 at h
 refine rn 10 rfl ?_
 refine spO 6 h rfl (fun hb2 h=>?_) (fun hb2 h=>?_)
 ·refine rn 24 rfl ?_
  exact rt h rfl
 refine rn 5 rfl ?_
 refine spO 11 h rfl (fun hb3 h=>?_) (fun hb3 h=>?_)
 ·refine rn 19 rfl ?_
  exact rt h rfl
 refine rn 1 rfl ?_
 refine ixs h rfl rfl (fun c4 hx5 h=>?_)
 refine rn 3 rfl ?_
 refine spO 16 h rfl (fun hb6 h=>?_) (fun hb6 h=>?_)
 ·refine rn 14 rfl ?_
  exact rt h rfl
 refine rn 1 rfl ?_
 refine ixs h rfl rfl (fun c7 hx8 h=>?_)
 refine rn 3 rfl ?_
 refine spO 21 h rfl (fun hb9 h=>?_) (fun hb9 h=>?_)
 ·refine rn 9 rfl ?_
  exact rt h rfl
 refine rn 1 rfl ?_
 refine cl h rfl rfl rfl (W103 _ _) rfl (fun y10 hx11 h=>?_)
 refine rn 2 rfl ?_
 refine spC h rfl (fun hb12 h=>?_) (fun hb12 h=>?_)
 ·refine rn 4 rfl ?_
  exact rt h rfl
 refine rn 6 rfl ?_
 refine jK h (fun _:Unit=>(⟨[],[],0⟩:St)) (fun k13 (_:Unit)=>k13=some r) (fun k13 h=>?_) ?_
 ·refine rn 1 rfl ?_
  refine ck h (fun hA22 h=>?_)
  refine lC (fun(p:Int)=>(⟨[(0,(sV a1)),(3,(iV p))],[],0⟩:St)) (fun n p=>RC (a1.length:Int) (fun tl nn=>M71_L1 F a1 k13 tl nn=some r) n p) (fun p h=>RC.zero h) (Int.toNat (a1.length:Int)+1) 0 (RC.start h) (g0 rfl rfl) (fun n n15 h=>?_)
  refine rn 8 rfl ?_
  refine spL rfl (fun hb16=>?_) (fun hb16=>?_)
  ·obtain⟨tl,h,hk1⟩:=RC.t hA22 h hb16
   unfold M71_L1 at h
   refine rn 7 rfl ?_
   refine ixs h rfl rfl (fun c17 hx18 h=>?_)
   refine cl h rfl rfl rfl (W104 _ _) rfl (fun y19 hx20 h=>?_)
   refine rn 2 rfl ?_
   refine spC h rfl (fun hb21 h=>?_) (fun hb21 h=>?_)
   ·refine rn 4 rfl ?_
    exact rt h rfl
   refine rn 7 rfl ?_
   exact jX (w64 (n15+1)) (hk1 _ h) (g0 rfl rfl)
  replace h:=RC.f h hb16
  unfold M71_L1 at h
  refine rn 1 rfl ?_
  exact jX () h (g0 rfl rfl)
 intro _ h
 refine rn 4 rfl ?_
 exact rt h rfl
theorem W72(F:Nat)(a1:(List TPolicyRule))(a2:(List UInt8))(r:Int)(h:M72 F a1 a2=some r):PureG gl Tryz.prog 72 [(V.lst 9 (a1.map encTPolicyRule)),(sV a2)] (iV r):=by
 refine pin (fun r=>(iV r)) r rfl Tryz.func72 rfl rfl rfl rfl rfl (fun w0 m0 hg=>?_)
 unfold M72 at h
 refine rn 9 rfl ?_
 refine jK h (fun _:Unit=>(⟨[],[],0⟩:St)) (fun k3 (_:Unit)=>k3=some r) (fun k3 h=>?_) ?_
 ·refine rn 1 rfl ?_
  refine wl (A:=a1) 0 rfl (fun hA10=>?_)
  refine lC (fun(p:Int)=>(⟨[(0,(V.lst 9 (a1.map encTPolicyRule))),(1,(sV a2)),(5,(iV p))],[],0⟩:St)) (fun n p=>RG a1 (fun tl nn=>M72_L1 F a2 k3 tl nn=some r) n p) (fun p h=>RG.zero h) (a1.length+1) 0 (RG.start h) (g0 rfl rfl) (fun n n5 h=>?_)
  refine rn 5 rfl ?_
  refine ln rfl rfl ?_
  refine rn 2 rfl ?_
  refine spL rfl (fun hb6=>?_) (fun hb6=>?_)
  ·obtain⟨x7,tl,hx8,h,hk1⟩:=RG.t hA10 h hb6
   unfold M72_L1 at h
   refine rn 7 rfl ?_
   refine ixh hx8 rfl rfl ?_
   refine rn 5 rfl ?_
   refine spC h rfl (fun hb9 h=>?_) (fun hb9 h=>?_)
   ·refine rn 5 rfl ?_
    exact rt h rfl
   refine rn 7 rfl ?_
   exact jX (w64 (n5+1)) (hk1 _ h) (g0 rfl rfl)
  replace h:=RG.f h hb6
  unfold M72_L1 at h
  refine rn 1 rfl ?_
  exact jX () h (g0 rfl rfl)
 intro _ h
 refine rn 4 rfl ?_
 exact rt h rfl
theorem W105_B(R105:TTest->Int->Option Int)(hR105:∀(a1:TTest) (a2:Int) (r:Int),R105 a1 a2=some r->PureG gl Tryz.prog 105 [(V.agg (encTTest a1)),(iV a2)] (iV r))(F:Nat)(a1:TTest)(a2:Int)(r:Int)(h:M105_B R105 F a1 a2=some r):PureG gl Tryz.prog 105 [(V.agg (encTTest a1)),(iV a2)] (iV r):=by
 refine pin (fun r=>(iV r)) r rfl Tryz.func105 rfl rfl rfl rfl rfl (fun w0 m0 hg=>?_)
 unfold M105_B at h
 refine rn 14 rfl ?_
 refine jK h (fun(p:Int)=>(⟨[(5,(iV p))],[],0⟩:St)) (fun k3 p=>k3 p=some r) (fun k3 h=>?_) ?_
 ·refine rn 1 rfl ?_
  refine lC (fun(p:Int×Int)=>(⟨[(1,(iV a2)),(2,(V.ptr 0 6 0 0)),(5,(iV (p.1))),(6,(iV (p.2)))],[(0,(Ob.arr 42 6 [(encTTest a1)]))],1⟩:St)) (fun n p=>M105_L1 R105 F a1 a2 k3 n p.1 p.2=some r) (fun p h=>by simp[M105_L1] at h) F (1,0) h (gr [0] rfl (hB rfl rfl rfl .nil) rfl) (fun n p h=>?_)
  obtain⟨n7,n8⟩:=p
  unfold M105_L1 at h
  refine rn 6 rfl ?_
  refine ln rfl rfl ?_
  refine rn 2 rfl ?_
  refine spO 12 h rfl (fun hb9 h=>?_) (fun hb9 h=>?_)
  ·refine rn 5 rfl ?_
   refine spC h rfl (fun hb10 h=>?_) (fun hb10 h=>?_)
   ·refine rn 8 rfl ?_
    refine ixl h rfl rfl (fun x11 hx12 h=>?_)
    obtain⟨y13,hx14,h⟩:=bind_some h
    refine kroO 23 hx14 rfl ?_
    refine rn 4 rfl ?_
    refine cl h rfl rfl rfl (hR105 _ _) rfl (fun y15 hx16 h=>?_)
    refine rn 9 rfl ?_
    exact jX ((w64 (n7+y15)),(w64 (n8+1))) h (gr [0] rfl (hB rfl rfl rfl .nil) rfl)
   refine rn 1 rfl ?_
   exact jX n7 h (g0 rfl rfl)
  refine rn 7 rfl ?_
  exact jX n7 h (g0 rfl rfl)
 intro n4 h
 refine rn 5 rfl ?_
 exact rt h rfl
theorem W105:∀(F:Nat) (a1:TTest) (a2:Int) (r:Int) (h:M105 F a1 a2=some r),PureG gl Tryz.prog 105 [(V.agg (encTTest a1)),(iV a2)] (iV r):=by
 intro F
 induction F with
 |zero=>intros;simp[M105] at *
 |succ F ih=>exact fun a1 a2 r h=>W105_B (M105 F) ih F a1 a2 r h
theorem W106_B(R106:TTest->Option Int)(hR106:∀(a1:TTest) (r:Int),R106 a1=some r->PureG gl Tryz.prog 106 [(V.agg (encTTest a1))] (iV r))(F:Nat)(a1:TTest)(r:Int)(h:M106_B R106 F a1=some r):PureG gl Tryz.prog 106 [(V.agg (encTTest a1))] (iV r):=by
 refine pin (fun r=>(iV r)) r rfl Tryz.func106 rfl rfl rfl rfl rfl (fun w0 m0 hg=>?_)
 unfold M106_B at h
 refine rn 14 rfl ?_
 refine jK h (fun(p:Int)=>(⟨[(3,(iV p))],[],0⟩:St)) (fun k2 p=>k2 p=some r) (fun k2 h=>?_) ?_
 ·refine rn 1 rfl ?_
  refine ck h (fun hA15 h=>?_)
  refine lC (fun(p:Int×Int)=>(⟨[(1,(V.ptr 0 6 0 0)),(3,(iV (p.1))),(4,(iV (p.2)))],[(0,(Ob.arr 42 6 [(encTTest a1)]))],1⟩:St)) (fun n p=>RC ((a1.Kids.length:Nat):Int) (fun tl nn=>M106_L1 R106 F a1 k2 tl nn p.1=some r) n p.2) (fun p h=>RC.zero h) (Int.toNat ((a1.Kids.length:Nat):Int)+1) (0,0) (RC.start h) (gr [0] rfl (hB rfl rfl rfl .nil) rfl) (fun n p h=>?_)
  obtain⟨n6,n7⟩:=p
  refine rn 6 rfl ?_
  refine ln rfl rfl ?_
  refine rn 2 rfl ?_
  refine spL rfl (fun hb8=>?_) (fun hb8=>?_)
  ·obtain⟨tl,h,hk1⟩:=RC.t hA15 h hb8
   unfold M106_L1 at h
   refine rn 8 rfl ?_
   refine ixl h rfl rfl (fun x9 hx10 h=>?_)
   obtain⟨y11,hx12,h⟩:=bind_some h
   refine kroO 16 hx12 rfl ?_
   refine rn 1 rfl ?_
   refine cl h rfl rfl rfl (hR106 _) rfl (fun y13 hx14 h=>?_)
   refine rn 9 rfl ?_
   exact jX ((if y13>n6 then y13 else n6),(w64 (n7+1))) (hk1 _ h) (gr [0] rfl (hB rfl rfl rfl .nil) rfl)
  replace h:=RC.f h hb8
  unfold M106_L1 at h
  refine rn 1 rfl ?_
  exact jX n6 h (g0 rfl rfl)
 intro n3 h
 refine rn 6 rfl ?_
 exact rt h rfl
theorem W106:∀(F:Nat) (a1:TTest) (r:Int) (h:M106 F a1=some r),PureG gl Tryz.prog 106 [(V.agg (encTTest a1))] (iV r):=by
 intro F
 induction F with
 |zero=>intros;simp[M106] at *
 |succ F ih=>exact fun a1 r h=>W106_B (M106 F) ih F a1 r h
theorem W74(F:Nat)(a1:Int)(a2:Int)(a3:Int)(r:Bool)(h:M74 F a1 a2 a3=some r):PureG gl Tryz.prog 74 [(iV a1),(iV a2),(iV a3)] (bV r):=by
 refine pin (fun r=>(bV r)) r rfl Tryz.func74 rfl rfl rfl rfl rfl (fun w0 m0 hg=>?_)
 unfold M74 at h
 refine rn 10 rfl ?_
 refine spO 10 h rfl (fun hb4 h=>?_) (fun hb4 h=>?_)
 ·refine rn 6 rfl ?_
  exact rt h rfl
 refine rn 6 rfl ?_
 exact rt h rfl
theorem W146(F:Nat)(a1:TTest)(r:Int)(h:M146 F a1=some r):PureG gl Tryz.prog 146 [(V.agg (encTTest a1))] (iV r):=by
 refine pin (fun r=>(iV r)) r rfl Tryz.func146 rfl rfl rfl rfl rfl (fun w0 m0 hg=>?_)
 unfold M146 at h
 refine rn 10 rfl ?_
 refine cl h rfl rfl rfl (W74 _ _ _ _) rfl (fun y2 hx3 h=>?_)
 refine rn 1 rfl ?_
 refine spC h rfl (fun hb4 h=>?_) (fun hb4 h=>?_)
 ·refine rn 4 rfl ?_
  exact rt h rfl
 refine rn 7 rfl ?_
 refine spO 13 h rfl (fun hb5 h=>?_) (fun hb5 h=>?_)
 ·refine rn 12 rfl ?_
  refine spO 21 h rfl (fun hb6 h=>?_) (fun hb6 h=>?_)
  ·refine rn 17 rfl ?_
   refine ln rfl rfl ?_
   refine rn 15 rfl ?_
   refine jK h (fun(p:Bool)=>(⟨[(1,(V.ptr 0 6 0 0)),(3,(bV (decide (a1.Kind<=5)))),(4,(bV true)),(5,(bV (a1.Kind==5))),(6,(bV p))],[(0,(Ob.arr 42 6 [(encTTest a1)]))],1⟩:St)) (fun k7 p=>k7 p=some r) (fun k7 h=>?_) ?_
   ·refine spC h rfl (fun hb9 h=>?_) (fun hb9 h=>?_)
    ·refine rn 3 rfl ?_
     refine ln rfl rfl ?_
     refine rn 3 rfl ?_
     exact jX (((a1.Kids.length:Nat):Int)==1) h (gr [0] rfl (hB rfl rfl rfl .nil) rfl)
    refine rn 6 rfl ?_
    refine jK h (fun(p:Bool)=>(⟨[(1,(V.ptr 0 6 0 0)),(3,(bV (decide (a1.Kind<=5)))),(4,(bV true)),(5,(bV (a1.Kind==5))),(6,(bV (((a1.Kids.length:Nat):Int)==0))),(41,(bV p))],[(0,(Ob.arr 42 6 [(encTTest a1)]))],1⟩:St)) (fun k10 p=>k10 p=some r) (fun k10 h=>?_) ?_
    ·refine spC h rfl (fun hb12 h=>?_) (fun hb12 h=>?_)
     ·refine rn 1 rfl ?_
      exact jX (a1.Kind==7) h (gr [0] rfl (hB rfl rfl rfl .nil) rfl)
     refine rn 4 rfl ?_
     exact jX (a1.Kind==8) h (gr [0] rfl (hB rfl rfl rfl .nil) rfl)
    intro b11 h
    refine spC h rfl (fun hb13 h=>?_) (fun hb13 h=>?_)
    ·refine rn 3 rfl ?_
     refine ln rfl rfl ?_
     refine rn 3 rfl ?_
     exact jX (decide (((a1.Kids.length:Nat):Int)>=2)) h (gr [0] rfl (hB rfl rfl rfl .nil) rfl)
    refine rn 1 rfl ?_
    exact jX (((a1.Kids.length:Nat):Int)==0) h (gr [0] rfl (hB rfl rfl rfl .nil) rfl)
   intro b8 h
   refine rn 7 rfl ?_
   refine spO 50 h rfl (fun hb14 h=>?_) (fun hb14 h=>?_)
   ·refine rn 5 rfl ?_
    refine spO 55 h rfl (fun hb15 h=>?_) (fun hb15 h=>?_)
    ·refine rn 33 rfl ?_
     exact rt h rfl
    refine rn 13 rfl ?_
    refine spO 68 h rfl (fun hb16 h=>?_) (fun hb16 h=>?_)
    ·refine rn 4 rfl ?_
     refine spO 72 h rfl (fun hb17 h=>?_) (fun hb17 h=>?_)
     ·refine rn 16 rfl ?_
      exact rt h rfl
     refine rn 7 rfl ?_
     refine spO 79 h rfl (fun hb18 h=>?_) (fun hb18 h=>?_)
     ·refine rn 9 rfl ?_
      exact rt h rfl
     refine rn 4 rfl ?_
     refine spC h rfl (fun hb19 h=>?_) (fun hb19 h=>?_)
     ·refine rn 4 rfl ?_
      exact rt h rfl
     refine rn 5 rfl ?_
     exact rt h rfl
    refine rn 15 rfl ?_
    refine spC h rfl (fun hb20 h=>?_) (fun hb20 h=>?_)
    ·refine rn 4 rfl ?_
     exact rt h rfl
    refine rn 5 rfl ?_
    exact rt h rfl
   refine rn 18 rfl ?_
   refine spO 68 h rfl (fun hb21 h=>?_) (fun hb21 h=>?_)
   ·refine rn 4 rfl ?_
    refine spO 72 h rfl (fun hb22 h=>?_) (fun hb22 h=>?_)
    ·refine rn 16 rfl ?_
     exact rt h rfl
    refine rn 7 rfl ?_
    refine spO 79 h rfl (fun hb23 h=>?_) (fun hb23 h=>?_)
    ·refine rn 9 rfl ?_
     exact rt h rfl
    refine rn 4 rfl ?_
    refine spC h rfl (fun hb24 h=>?_) (fun hb24 h=>?_)
    ·refine rn 4 rfl ?_
     exact rt h rfl
    refine rn 5 rfl ?_
    exact rt h rfl
   refine rn 15 rfl ?_
   refine spC h rfl (fun hb25 h=>?_) (fun hb25 h=>?_)
   ·refine rn 4 rfl ?_
    exact rt h rfl
   refine rn 5 rfl ?_
   exact rt h rfl
  refine rn 17 rfl ?_
  refine ln rfl rfl ?_
  refine rn 15 rfl ?_
  refine jK h (fun(p:Bool)=>(⟨[(1,(V.ptr 0 6 0 0)),(3,(bV (decide (a1.Kind<=5)))),(4,(bV (a1.Kind==3))),(5,(bV (a1.Kind==5))),(6,(bV p))],[(0,(Ob.arr 42 6 [(encTTest a1)]))],1⟩:St)) (fun k26 p=>k26 p=some r) (fun k26 h=>?_) ?_
  ·refine spC h rfl (fun hb28 h=>?_) (fun hb28 h=>?_)
   ·refine rn 3 rfl ?_
    refine ln rfl rfl ?_
    refine rn 3 rfl ?_
    exact jX (((a1.Kids.length:Nat):Int)==1) h (gr [0] rfl (hB rfl rfl rfl .nil) rfl)
   refine rn 6 rfl ?_
   refine jK h (fun(p:Bool)=>(⟨[(1,(V.ptr 0 6 0 0)),(3,(bV (decide (a1.Kind<=5)))),(4,(bV (a1.Kind==3))),(5,(bV (a1.Kind==5))),(6,(bV (((a1.Kids.length:Nat):Int)==0))),(41,(bV p))],[(0,(Ob.arr 42 6 [(encTTest a1)]))],1⟩:St)) (fun k29 p=>k29 p=some r) (fun k29 h=>?_) ?_
   ·refine spC h rfl (fun hb31 h=>?_) (fun hb31 h=>?_)
    ·refine rn 1 rfl ?_
     exact jX (a1.Kind==7) h (gr [0] rfl (hB rfl rfl rfl .nil) rfl)
    refine rn 4 rfl ?_
    exact jX (a1.Kind==8) h (gr [0] rfl (hB rfl rfl rfl .nil) rfl)
   intro b30 h
   refine spC h rfl (fun hb32 h=>?_) (fun hb32 h=>?_)
   ·refine rn 3 rfl ?_
    refine ln rfl rfl ?_
    refine rn 3 rfl ?_
    exact jX (decide (((a1.Kids.length:Nat):Int)>=2)) h (gr [0] rfl (hB rfl rfl rfl .nil) rfl)
   refine rn 1 rfl ?_
   exact jX (((a1.Kids.length:Nat):Int)==0) h (gr [0] rfl (hB rfl rfl rfl .nil) rfl)
  intro b27 h
  refine rn 7 rfl ?_
  refine spO 50 h rfl (fun hb33 h=>?_) (fun hb33 h=>?_)
  ·refine rn 5 rfl ?_
   refine spO 55 h rfl (fun hb34 h=>?_) (fun hb34 h=>?_)
   ·refine rn 33 rfl ?_
    exact rt h rfl
   refine rn 3 rfl ?_
   refine spO 58 h rfl (fun hb35 h=>?_) (fun hb35 h=>?_)
   ·refine rn 2 rfl ?_
    refine ln rfl rfl ?_
    refine rn 4 rfl ?_
    refine spO 65 h rfl (fun hb36 h=>?_) (fun hb36 h=>?_)
    ·refine rn 23 rfl ?_
     exact rt h rfl
    refine rn 3 rfl ?_
    refine spO 68 h rfl (fun hb37 h=>?_) (fun hb37 h=>?_)
    ·refine rn 4 rfl ?_
     refine spO 72 h rfl (fun hb38 h=>?_) (fun hb38 h=>?_)
     ·refine rn 16 rfl ?_
      exact rt h rfl
     refine rn 7 rfl ?_
     refine spO 79 h rfl (fun hb39 h=>?_) (fun hb39 h=>?_)
     ·refine rn 9 rfl ?_
      exact rt h rfl
     refine rn 4 rfl ?_
     refine spC h rfl (fun hb40 h=>?_) (fun hb40 h=>?_)
     ·refine rn 4 rfl ?_
      exact rt h rfl
     refine rn 5 rfl ?_
     exact rt h rfl
    refine rn 15 rfl ?_
    refine spC h rfl (fun hb41 h=>?_) (fun hb41 h=>?_)
    ·refine rn 4 rfl ?_
     exact rt h rfl
    refine rn 5 rfl ?_
    exact rt h rfl
   refine rn 10 rfl ?_
   refine spO 68 h rfl (fun hb42 h=>?_) (fun hb42 h=>?_)
   ·refine rn 4 rfl ?_
    refine spO 72 h rfl (fun hb43 h=>?_) (fun hb43 h=>?_)
    ·refine rn 16 rfl ?_
     exact rt h rfl
    refine rn 7 rfl ?_
    refine spO 79 h rfl (fun hb44 h=>?_) (fun hb44 h=>?_)
    ·refine rn 9 rfl ?_
     exact rt h rfl
    refine rn 4 rfl ?_
    refine spC h rfl (fun hb45 h=>?_) (fun hb45 h=>?_)
    ·refine rn 4 rfl ?_
     exact rt h rfl
    refine rn 5 rfl ?_
    exact rt h rfl
   refine rn 15 rfl ?_
   refine spC h rfl (fun hb46 h=>?_) (fun hb46 h=>?_)
   ·refine rn 4 rfl ?_
    exact rt h rfl
   refine rn 5 rfl ?_
   exact rt h rfl
  refine rn 8 rfl ?_
  refine spO 58 h rfl (fun hb47 h=>?_) (fun hb47 h=>?_)
  ·refine rn 2 rfl ?_
   refine ln rfl rfl ?_
   refine rn 4 rfl ?_
   refine spO 65 h rfl (fun hb48 h=>?_) (fun hb48 h=>?_)
   ·refine rn 23 rfl ?_
    exact rt h rfl
   refine rn 3 rfl ?_
   refine spO 68 h rfl (fun hb49 h=>?_) (fun hb49 h=>?_)
   ·refine rn 4 rfl ?_
    refine spO 72 h rfl (fun hb50 h=>?_) (fun hb50 h=>?_)
    ·refine rn 16 rfl ?_
     exact rt h rfl
    refine rn 7 rfl ?_
    refine spO 79 h rfl (fun hb51 h=>?_) (fun hb51 h=>?_)
    ·refine rn 9 rfl ?_
     exact rt h rfl
    refine rn 4 rfl ?_
    refine spC h rfl (fun hb52 h=>?_) (fun hb52 h=>?_)
    ·refine rn 4 rfl ?_
     exact rt h rfl
    refine rn 5 rfl ?_
    exact rt h rfl
   refine rn 15 rfl ?_
   refine spC h rfl (fun hb53 h=>?_) (fun hb53 h=>?_)
   ·refine rn 4 rfl ?_
    exact rt h rfl
   refine rn 5 rfl ?_
   exact rt h rfl
  refine rn 10 rfl ?_
  refine spO 68 h rfl (fun hb54 h=>?_) (fun hb54 h=>?_)
  ·refine rn 4 rfl ?_
   refine spO 72 h rfl (fun hb55 h=>?_) (fun hb55 h=>?_)
   ·refine rn 16 rfl ?_
    exact rt h rfl
   refine rn 7 rfl ?_
   refine spO 79 h rfl (fun hb56 h=>?_) (fun hb56 h=>?_)
   ·refine rn 9 rfl ?_
    exact rt h rfl
   refine rn 4 rfl ?_
   refine spC h rfl (fun hb57 h=>?_) (fun hb57 h=>?_)
   ·refine rn 4 rfl ?_
    exact rt h rfl
   refine rn 5 rfl ?_
   exact rt h rfl
  refine rn 15 rfl ?_
  refine spC h rfl (fun hb58 h=>?_) (fun hb58 h=>?_)
  ·refine rn 4 rfl ?_
   exact rt h rfl
  refine rn 5 rfl ?_
  exact rt h rfl
 refine rn 12 rfl ?_
 refine spO 21 h rfl (fun hb59 h=>?_) (fun hb59 h=>?_)
 ·refine rn 17 rfl ?_
  refine ln rfl rfl ?_
  refine rn 15 rfl ?_
  refine jK h (fun(p:Bool)=>(⟨[(1,(V.ptr 0 6 0 0)),(3,(bV false)),(4,(bV true)),(5,(bV (a1.Kind==5))),(6,(bV p))],[(0,(Ob.arr 42 6 [(encTTest a1)]))],1⟩:St)) (fun k60 p=>k60 p=some r) (fun k60 h=>?_) ?_
  ·refine spC h rfl (fun hb62 h=>?_) (fun hb62 h=>?_)
   ·refine rn 3 rfl ?_
    refine ln rfl rfl ?_
    refine rn 3 rfl ?_
    exact jX (((a1.Kids.length:Nat):Int)==1) h (gr [0] rfl (hB rfl rfl rfl .nil) rfl)
   refine rn 6 rfl ?_
   refine jK h (fun(p:Bool)=>(⟨[(1,(V.ptr 0 6 0 0)),(3,(bV false)),(4,(bV true)),(5,(bV (a1.Kind==5))),(6,(bV (((a1.Kids.length:Nat):Int)==0))),(41,(bV p))],[(0,(Ob.arr 42 6 [(encTTest a1)]))],1⟩:St)) (fun k63 p=>k63 p=some r) (fun k63 h=>?_) ?_
   ·refine spC h rfl (fun hb65 h=>?_) (fun hb65 h=>?_)
    ·refine rn 1 rfl ?_
     exact jX (a1.Kind==7) h (gr [0] rfl (hB rfl rfl rfl .nil) rfl)
    refine rn 4 rfl ?_
    exact jX (a1.Kind==8) h (gr [0] rfl (hB rfl rfl rfl .nil) rfl)
   intro b64 h
   refine spC h rfl (fun hb66 h=>?_) (fun hb66 h=>?_)
   ·refine rn 3 rfl ?_
    refine ln rfl rfl ?_
    refine rn 3 rfl ?_
    exact jX (decide (((a1.Kids.length:Nat):Int)>=2)) h (gr [0] rfl (hB rfl rfl rfl .nil) rfl)
   refine rn 1 rfl ?_
   exact jX (((a1.Kids.length:Nat):Int)==0) h (gr [0] rfl (hB rfl rfl rfl .nil) rfl)
  intro b61 h
  refine rn 12 rfl ?_
  refine spO 55 h rfl (fun hb67 h=>?_) (fun hb67 h=>?_)
  ·refine rn 33 rfl ?_
   exact rt h rfl
  refine rn 13 rfl ?_
  refine spO 68 h rfl (fun hb68 h=>?_) (fun hb68 h=>?_)
  ·refine rn 4 rfl ?_
   refine spO 72 h rfl (fun hb69 h=>?_) (fun hb69 h=>?_)
   ·refine rn 16 rfl ?_
    exact rt h rfl
   refine rn 7 rfl ?_
   refine spO 79 h rfl (fun hb70 h=>?_) (fun hb70 h=>?_)
   ·refine rn 9 rfl ?_
    exact rt h rfl
   refine rn 4 rfl ?_
   refine spC h rfl (fun hb71 h=>?_) (fun hb71 h=>?_)
   ·refine rn 4 rfl ?_
    exact rt h rfl
   refine rn 5 rfl ?_
   exact rt h rfl
  refine rn 15 rfl ?_
  refine spC h rfl (fun hb72 h=>?_) (fun hb72 h=>?_)
  ·refine rn 4 rfl ?_
   exact rt h rfl
  refine rn 5 rfl ?_
  exact rt h rfl
 refine rn 17 rfl ?_
 refine ln rfl rfl ?_
 refine rn 15 rfl ?_
 refine jK h (fun(p:Bool)=>(⟨[(1,(V.ptr 0 6 0 0)),(3,(bV false)),(4,(bV (a1.Kind==3))),(5,(bV (a1.Kind==5))),(6,(bV p))],[(0,(Ob.arr 42 6 [(encTTest a1)]))],1⟩:St)) (fun k73 p=>k73 p=some r) (fun k73 h=>?_) ?_
 ·refine spC h rfl (fun hb75 h=>?_) (fun hb75 h=>?_)
  ·refine rn 3 rfl ?_
   refine ln rfl rfl ?_
   refine rn 3 rfl ?_
   exact jX (((a1.Kids.length:Nat):Int)==1) h (gr [0] rfl (hB rfl rfl rfl .nil) rfl)
  refine rn 6 rfl ?_
  refine jK h (fun(p:Bool)=>(⟨[(1,(V.ptr 0 6 0 0)),(3,(bV false)),(4,(bV (a1.Kind==3))),(5,(bV (a1.Kind==5))),(6,(bV (((a1.Kids.length:Nat):Int)==0))),(41,(bV p))],[(0,(Ob.arr 42 6 [(encTTest a1)]))],1⟩:St)) (fun k76 p=>k76 p=some r) (fun k76 h=>?_) ?_
  ·refine spC h rfl (fun hb78 h=>?_) (fun hb78 h=>?_)
   ·refine rn 1 rfl ?_
    exact jX (a1.Kind==7) h (gr [0] rfl (hB rfl rfl rfl .nil) rfl)
   refine rn 4 rfl ?_
   exact jX (a1.Kind==8) h (gr [0] rfl (hB rfl rfl rfl .nil) rfl)
  intro b77 h
  refine spC h rfl (fun hb79 h=>?_) (fun hb79 h=>?_)
  ·refine rn 3 rfl ?_
   refine ln rfl rfl ?_
   refine rn 3 rfl ?_
   exact jX (decide (((a1.Kids.length:Nat):Int)>=2)) h (gr [0] rfl (hB rfl rfl rfl .nil) rfl)
  refine rn 1 rfl ?_
  exact jX (((a1.Kids.length:Nat):Int)==0) h (gr [0] rfl (hB rfl rfl rfl .nil) rfl)
 intro b74 h
 refine rn 12 rfl ?_
 refine spO 55 h rfl (fun hb80 h=>?_) (fun hb80 h=>?_)
 ·refine rn 33 rfl ?_
  exact rt h rfl
 refine rn 3 rfl ?_
 refine spO 58 h rfl (fun hb81 h=>?_) (fun hb81 h=>?_)
 ·refine rn 2 rfl ?_
  refine ln rfl rfl ?_
  refine rn 4 rfl ?_
  refine spO 65 h rfl (fun hb82 h=>?_) (fun hb82 h=>?_)
  ·refine rn 23 rfl ?_
   exact rt h rfl
  refine rn 3 rfl ?_
  refine spO 68 h rfl (fun hb83 h=>?_) (fun hb83 h=>?_)
  ·refine rn 4 rfl ?_
   refine spO 72 h rfl (fun hb84 h=>?_) (fun hb84 h=>?_)
   ·refine rn 16 rfl ?_
    exact rt h rfl
   refine rn 7 rfl ?_
   refine spO 79 h rfl (fun hb85 h=>?_) (fun hb85 h=>?_)
   ·refine rn 9 rfl ?_
    exact rt h rfl
   refine rn 4 rfl ?_
   refine spC h rfl (fun hb86 h=>?_) (fun hb86 h=>?_)
   ·refine rn 4 rfl ?_
    exact rt h rfl
   refine rn 5 rfl ?_
   exact rt h rfl
  refine rn 15 rfl ?_
  refine spC h rfl (fun hb87 h=>?_) (fun hb87 h=>?_)
  ·refine rn 4 rfl ?_
   exact rt h rfl
  refine rn 5 rfl ?_
  exact rt h rfl
 refine rn 10 rfl ?_
 refine spO 68 h rfl (fun hb88 h=>?_) (fun hb88 h=>?_)
 ·refine rn 4 rfl ?_
  refine spO 72 h rfl (fun hb89 h=>?_) (fun hb89 h=>?_)
  ·refine rn 16 rfl ?_
   exact rt h rfl
  refine rn 7 rfl ?_
  refine spO 79 h rfl (fun hb90 h=>?_) (fun hb90 h=>?_)
  ·refine rn 9 rfl ?_
   exact rt h rfl
  refine rn 4 rfl ?_
  refine spC h rfl (fun hb91 h=>?_) (fun hb91 h=>?_)
  ·refine rn 4 rfl ?_
   exact rt h rfl
  refine rn 5 rfl ?_
  exact rt h rfl
 refine rn 15 rfl ?_
 refine spC h rfl (fun hb92 h=>?_) (fun hb92 h=>?_)
 ·refine rn 4 rfl ?_
  exact rt h rfl
 refine rn 5 rfl ?_
 exact rt h rfl
theorem W75(F:Nat)(a1:(List UInt8))(r:Bool)(h:M75 F a1=some r):PureG gl Tryz.prog 75 [(sV a1)] (bV r):=by
 refine pin (fun r=>(bV r)) r rfl Tryz.func75 rfl rfl rfl rfl rfl (fun w0 m0 hg=>?_)
 unfold M75 at h
 refine rn 11 rfl ?_
 refine spC h rfl (fun hb2 h=>?_) (fun hb2 h=>?_)
 ·refine rn 4 rfl ?_
  exact rt h rfl
 refine rn 6 rfl ?_
 refine jK h (fun _:Unit=>(⟨[],[],0⟩:St)) (fun k3 (_:Unit)=>k3=some r) (fun k3 h=>?_) ?_
 ·refine rn 1 rfl ?_
  refine ck h (fun hA13 h=>?_)
  refine lC (fun(p:Int)=>(⟨[(0,(sV a1)),(3,(iV p))],[],0⟩:St)) (fun n p=>RC (a1.length:Int) (fun tl nn=>M75_L1 F a1 k3 tl nn=some r) n p) (fun p h=>RC.zero h) (Int.toNat (a1.length:Int)+1) 0 (RC.start h) (g0 rfl rfl) (fun n n5 h=>?_)
  refine rn 8 rfl ?_
  refine spL rfl (fun hb6=>?_) (fun hb6=>?_)
  ·obtain⟨tl,h,hk1⟩:=RC.t hA13 h hb6
   unfold M75_L1 at h
   refine rn 7 rfl ?_
   refine ixs h rfl rfl (fun c7 hx8 h=>?_)
   refine rn 2 rfl ?_
   refine spO 17 h rfl (fun hb9 h=>?_) (fun hb9 h=>?_)
   ·refine rn 11 rfl ?_
    exact rt h rfl
   refine rn 2 rfl ?_
   refine ixs h rfl rfl (fun c10 hx11 h=>?_)
   refine rn 3 rfl ?_
   refine spC h rfl (fun hb12 h=>?_) (fun hb12 h=>?_)
   ·refine rn 4 rfl ?_
    exact rt h rfl
   refine rn 7 rfl ?_
   exact jX (w64 (n5+1)) (hk1 _ h) (g0 rfl rfl)
  replace h:=RC.f h hb6
  unfold M75_L1 at h
  refine rn 1 rfl ?_
  exact jX () h (g0 rfl rfl)
 intro _ h
 refine rn 4 rfl ?_
 exact rt h rfl
theorem W130(F:Nat)(a1:TTest)(r:Int)(h:M130 F a1=some r):PureG gl Tryz.prog 130 [(V.agg (encTTest a1))] (iV r):=by
 refine pin (fun r=>(iV r)) r rfl Tryz.func130 rfl rfl rfl rfl rfl (fun w0 m0 hg=>?_)
 unfold M130 at h
 refine rn 9 rfl ?_
 refine cl h rfl rfl rfl (W146 _ _) rfl (fun y2 hx3 h=>?_)
 refine rn 7 rfl ?_
 refine spC h rfl (fun hb4 h=>?_) (fun hb4 h=>?_)
 ·refine rn 5 rfl ?_
  exact rt h rfl
 refine rn 8 rfl ?_
 refine spO 13 h rfl (fun hb5 h=>?_) (fun hb5 h=>?_)
 ·refine rn 5 rfl ?_
  refine spO 18 h rfl (fun hb6 h=>?_) (fun hb6 h=>?_)
  ·refine rn 2 rfl ?_
   refine cl h rfl rfl rfl (W71 _ _) rfl (fun y7 hx8 h=>?_)
   refine rn 3 rfl ?_
   refine spC h rfl (fun hb9 h=>?_) (fun hb9 h=>?_)
   ·refine rn 4 rfl ?_
    exact rt h rfl
   refine rn 8 rfl ?_
   refine spO 27 h rfl (fun hb10 h=>?_) (fun hb10 h=>?_)
   ·refine rn 11 rfl ?_
    refine ln rfl rfl ?_
    refine rn 2 rfl ?_
    refine spC h rfl (fun hb11 h=>?_) (fun hb11 h=>?_)
    ·refine rn 4 rfl ?_
     exact rt h rfl
    refine rn 6 rfl ?_
    refine ln rfl rfl ?_
    refine rn 2 rfl ?_
    refine spC h rfl (fun hb12 h=>?_) (fun hb12 h=>?_)
    ·refine rn 4 rfl ?_
     exact rt h rfl
    refine rn 5 rfl ?_
    refine jK h (fun _:Unit=>(⟨[(1,(V.ptr 0 6 0 0))],[(0,(Ob.arr 42 6 [(encTTest a1)]))],1⟩:St)) (fun k13 (_:Unit)=>k13=some r) (fun k13 h=>?_) ?_
    ·refine rn 1 rfl ?_
     refine wl (A:=a1.Texts) 33 rfl (fun hA29=>?_)
     refine lC (fun(p:Int)=>(⟨[(1,(V.ptr 0 6 0 0)),(4,(iV p))],[(0,(Ob.arr 42 6 [(encTTest a1)]))],1⟩:St)) (fun n p=>RG a1.Texts (fun tl nn=>M130_L1 F a1 k13 tl nn=some r) n p) (fun p h=>RG.zero h) (a1.Texts.length+1) 0 (RG.start h) (gr [0] rfl (hB rfl rfl rfl .nil) rfl) (fun n n15 h=>?_)
     refine rn 6 rfl ?_
     refine ln rfl rfl ?_
     refine rn 2 rfl ?_
     refine spL rfl (fun hb16=>?_) (fun hb16=>?_)
     ·obtain⟨x18,tl,hx19,h,hk1⟩:=RG.t hA29 h hb16
      unfold M130_L1 at h
      refine rn 2 rfl ?_
      refine jK h (fun _:Unit=>(⟨[(1,(V.ptr 0 6 0 0)),(4,(iV n15))],[(0,(Ob.arr 42 6 [(encTTest a1)]))],1⟩:St)) (fun k17 (_:Unit)=>k17=some r) (fun k17 h=>?_) ?_
      ·refine rn 7 rfl ?_
       refine ixh hx19 rfl rfl ?_
       refine rn 1 rfl ?_
       refine cl h rfl rfl rfl (W75 _ _) rfl (fun y20 hx21 h=>?_)
       refine rn 2 rfl ?_
       refine spC h rfl (fun hb22 h=>?_) (fun hb22 h=>?_)
       ·refine rn 4 rfl ?_
        exact rt h rfl
       refine rn 2 rfl ?_
       refine bs h (fun hb23 h=>?_) (fun hb23 h=>?_)
       ·obtain⟨x24,hx25,h⟩:=bind_some h
        obtain⟨x26,hx27,h⟩:=bind_some h
        refine dr mixed (vs 2 rfl (vb hb23 rfl (vs 3 rfl (iD hx25 rfl rfl rfl (vs 5 rfl (iD hx27 rfl rfl rfl (vs 3 rfl .nil))))))) (by kernel_rfl) ?_
        refine spC h rfl (fun hb28 h=>?_) (fun hb28 h=>?_)
        ·refine rn 4 rfl ?_
         exact rt h rfl
        refine rn 2 rfl ?_
        exact jX () h (gr [0] rfl (hB rfl rfl rfl .nil) rfl)
       refine dr mixed (vs 2 rfl (vb hb23 rfl (vs 13 rfl .nil))) (by kernel_rfl) ?_
       refine rn 3 rfl ?_
       exact jX () h (gr [0] rfl (hB rfl rfl rfl .nil) rfl)
      intro _ h
      refine rn 5 rfl ?_
      exact jX (w64 (n15+1)) (hk1 _ h) (gr [0] rfl (hB rfl rfl rfl .nil) rfl)
     replace h:=RG.f h hb16
     unfold M130_L1 at h
     refine rn 1 rfl ?_
     exact jX () h (gr [0] rfl (hB rfl rfl rfl .nil) rfl)
    intro _ h
    refine rn 7 rfl ?_
    refine jK h (fun _:Unit=>(⟨[],[],0⟩:St)) (fun k30 (_:Unit)=>k30=some r) (fun k30 h=>?_) ?_
    ·refine spC h rfl (fun hb31 h=>?_) (fun hb31 h=>?_)
     ·refine rn 5 rfl ?_
      refine cl h rfl rfl rfl (W74 _ _ _ _) rfl (fun y32 hx33 h=>?_)
      refine rn 1 rfl ?_
      refine spC h rfl (fun hb34 h=>?_) (fun hb34 h=>?_)
      ·refine rn 4 rfl ?_
       exact rt h rfl
      refine rn 5 rfl ?_
      refine cl h rfl rfl rfl (W74 _ _ _ _) rfl (fun y35 hx36 h=>?_)
      refine rn 1 rfl ?_
      refine spC h rfl (fun hb37 h=>?_) (fun hb37 h=>?_)
      ·refine rn 4 rfl ?_
       exact rt h rfl
      refine rn 1 rfl ?_
      exact jX () h (g0 rfl rfl)
     refine rn 1 rfl ?_
     exact jX () h (g0 rfl rfl)
    intro _ h
    refine rn 4 rfl ?_
    exact rt h rfl
   refine rn 5 rfl ?_
   refine jK h (fun _:Unit=>(⟨[(1,(V.ptr 0 6 0 0))],[(0,(Ob.arr 42 6 [(encTTest a1)]))],1⟩:St)) (fun k38 (_:Unit)=>k38=some r) (fun k38 h=>?_) ?_
   ·refine spC h rfl (fun hb39 h=>?_) (fun hb39 h=>?_)
    ·refine rn 5 rfl ?_
     refine ln rfl rfl ?_
     refine rn 2 rfl ?_
     refine spC h rfl (fun hb40 h=>?_) (fun hb40 h=>?_)
     ·refine rn 4 rfl ?_
      exact rt h rfl
     refine rn 6 rfl ?_
     refine ln rfl rfl ?_
     refine rn 2 rfl ?_
     refine spC h rfl (fun hb41 h=>?_) (fun hb41 h=>?_)
     ·refine rn 4 rfl ?_
      exact rt h rfl
     refine rn 5 rfl ?_
     refine jK h (fun _:Unit=>(⟨[(1,(V.ptr 0 6 0 0))],[(0,(Ob.arr 42 6 [(encTTest a1)]))],1⟩:St)) (fun k42 (_:Unit)=>k42=some r) (fun k42 h=>?_) ?_
     ·refine rn 1 rfl ?_
      refine wl (A:=a1.Texts) 33 rfl (fun hA58=>?_)
      refine lC (fun(p:Int)=>(⟨[(1,(V.ptr 0 6 0 0)),(4,(iV p))],[(0,(Ob.arr 42 6 [(encTTest a1)]))],1⟩:St)) (fun n p=>RG a1.Texts (fun tl nn=>M130_L2 F a1 k42 tl nn=some r) n p) (fun p h=>RG.zero h) (a1.Texts.length+1) 0 (RG.start h) (gr [0] rfl (hB rfl rfl rfl .nil) rfl) (fun n n44 h=>?_)
      refine rn 6 rfl ?_
      refine ln rfl rfl ?_
      refine rn 2 rfl ?_
      refine spL rfl (fun hb45=>?_) (fun hb45=>?_)
      ·obtain⟨x47,tl,hx48,h,hk2⟩:=RG.t hA58 h hb45
       unfold M130_L2 at h
       refine rn 2 rfl ?_
       refine jK h (fun _:Unit=>(⟨[(1,(V.ptr 0 6 0 0)),(4,(iV n44))],[(0,(Ob.arr 42 6 [(encTTest a1)]))],1⟩:St)) (fun k46 (_:Unit)=>k46=some r) (fun k46 h=>?_) ?_
       ·refine rn 7 rfl ?_
        refine ixh hx48 rfl rfl ?_
        refine rn 1 rfl ?_
        refine cl h rfl rfl rfl (W75 _ _) rfl (fun y49 hx50 h=>?_)
        refine rn 2 rfl ?_
        refine spC h rfl (fun hb51 h=>?_) (fun hb51 h=>?_)
        ·refine rn 4 rfl ?_
         exact rt h rfl
        refine rn 2 rfl ?_
        refine bs h (fun hb52 h=>?_) (fun hb52 h=>?_)
        ·obtain⟨x53,hx54,h⟩:=bind_some h
         obtain⟨x55,hx56,h⟩:=bind_some h
         refine dr mixed (vs 2 rfl (vb hb52 rfl (vs 3 rfl (iD hx54 rfl rfl rfl (vs 5 rfl (iD hx56 rfl rfl rfl (vs 3 rfl .nil))))))) (by kernel_rfl) ?_
         refine spC h rfl (fun hb57 h=>?_) (fun hb57 h=>?_)
         ·refine rn 4 rfl ?_
          exact rt h rfl
         refine rn 2 rfl ?_
         exact jX () h (gr [0] rfl (hB rfl rfl rfl .nil) rfl)
        refine dr mixed (vs 2 rfl (vb hb52 rfl (vs 13 rfl .nil))) (by kernel_rfl) ?_
        refine rn 3 rfl ?_
        exact jX () h (gr [0] rfl (hB rfl rfl rfl .nil) rfl)
       intro _ h
       refine rn 5 rfl ?_
       exact jX (w64 (n44+1)) (hk2 _ h) (gr [0] rfl (hB rfl rfl rfl .nil) rfl)
      replace h:=RG.f h hb45
      unfold M130_L2 at h
      refine rn 1 rfl ?_
      exact jX () h (gr [0] rfl (hB rfl rfl rfl .nil) rfl)
     intro _ h
     exact jX () h (gr [0] rfl (hB rfl rfl rfl .nil) rfl)
    refine rn 1 rfl ?_
    exact jX () h (gr [0] rfl (hB rfl rfl rfl .nil) rfl)
   intro _ h
   refine rn 7 rfl ?_
   refine jK h (fun _:Unit=>(⟨[],[],0⟩:St)) (fun k59 (_:Unit)=>k59=some r) (fun k59 h=>?_) ?_
   ·refine spC h rfl (fun hb60 h=>?_) (fun hb60 h=>?_)
    ·refine rn 5 rfl ?_
     refine cl h rfl rfl rfl (W74 _ _ _ _) rfl (fun y61 hx62 h=>?_)
     refine rn 1 rfl ?_
     refine spC h rfl (fun hb63 h=>?_) (fun hb63 h=>?_)
     ·refine rn 4 rfl ?_
      exact rt h rfl
     refine rn 5 rfl ?_
     refine cl h rfl rfl rfl (W74 _ _ _ _) rfl (fun y64 hx65 h=>?_)
     refine rn 1 rfl ?_
     refine spC h rfl (fun hb66 h=>?_) (fun hb66 h=>?_)
     ·refine rn 4 rfl ?_
      exact rt h rfl
     refine rn 1 rfl ?_
     exact jX () h (g0 rfl rfl)
    refine rn 1 rfl ?_
    exact jX () h (g0 rfl rfl)
   intro _ h
   refine rn 4 rfl ?_
   exact rt h rfl
  refine rn 15 rfl ?_
  refine spO 27 h rfl (fun hb67 h=>?_) (fun hb67 h=>?_)
  ·refine rn 11 rfl ?_
   refine ln rfl rfl ?_
   refine rn 2 rfl ?_
   refine spC h rfl (fun hb68 h=>?_) (fun hb68 h=>?_)
   ·refine rn 4 rfl ?_
    exact rt h rfl
   refine rn 6 rfl ?_
   refine ln rfl rfl ?_
   refine rn 2 rfl ?_
   refine spC h rfl (fun hb69 h=>?_) (fun hb69 h=>?_)
   ·refine rn 4 rfl ?_
    exact rt h rfl
   refine rn 5 rfl ?_
   refine jK h (fun _:Unit=>(⟨[(1,(V.ptr 0 6 0 0))],[(0,(Ob.arr 42 6 [(encTTest a1)]))],1⟩:St)) (fun k70 (_:Unit)=>k70=some r) (fun k70 h=>?_) ?_
   ·refine rn 1 rfl ?_
    refine wl (A:=a1.Texts) 33 rfl (fun hA86=>?_)
    refine lC (fun(p:Int)=>(⟨[(1,(V.ptr 0 6 0 0)),(4,(iV p))],[(0,(Ob.arr 42 6 [(encTTest a1)]))],1⟩:St)) (fun n p=>RG a1.Texts (fun tl nn=>M130_L3 F a1 k70 tl nn=some r) n p) (fun p h=>RG.zero h) (a1.Texts.length+1) 0 (RG.start h) (gr [0] rfl (hB rfl rfl rfl .nil) rfl) (fun n n72 h=>?_)
    refine rn 6 rfl ?_
    refine ln rfl rfl ?_
    refine rn 2 rfl ?_
    refine spL rfl (fun hb73=>?_) (fun hb73=>?_)
    ·obtain⟨x75,tl,hx76,h,hk3⟩:=RG.t hA86 h hb73
     unfold M130_L3 at h
     refine rn 2 rfl ?_
     refine jK h (fun _:Unit=>(⟨[(1,(V.ptr 0 6 0 0)),(4,(iV n72))],[(0,(Ob.arr 42 6 [(encTTest a1)]))],1⟩:St)) (fun k74 (_:Unit)=>k74=some r) (fun k74 h=>?_) ?_
     ·refine rn 7 rfl ?_
      refine ixh hx76 rfl rfl ?_
      refine rn 1 rfl ?_
      refine cl h rfl rfl rfl (W75 _ _) rfl (fun y77 hx78 h=>?_)
      refine rn 2 rfl ?_
      refine spC h rfl (fun hb79 h=>?_) (fun hb79 h=>?_)
      ·refine rn 4 rfl ?_
       exact rt h rfl
      refine rn 2 rfl ?_
      refine bs h (fun hb80 h=>?_) (fun hb80 h=>?_)
      ·obtain⟨x81,hx82,h⟩:=bind_some h
       obtain⟨x83,hx84,h⟩:=bind_some h
       refine dr mixed (vs 2 rfl (vb hb80 rfl (vs 3 rfl (iD hx82 rfl rfl rfl (vs 5 rfl (iD hx84 rfl rfl rfl (vs 3 rfl .nil))))))) (by kernel_rfl) ?_
       refine spC h rfl (fun hb85 h=>?_) (fun hb85 h=>?_)
       ·refine rn 4 rfl ?_
        exact rt h rfl
       refine rn 2 rfl ?_
       exact jX () h (gr [0] rfl (hB rfl rfl rfl .nil) rfl)
      refine dr mixed (vs 2 rfl (vb hb80 rfl (vs 13 rfl .nil))) (by kernel_rfl) ?_
      refine rn 3 rfl ?_
      exact jX () h (gr [0] rfl (hB rfl rfl rfl .nil) rfl)
     intro _ h
     refine rn 5 rfl ?_
     exact jX (w64 (n72+1)) (hk3 _ h) (gr [0] rfl (hB rfl rfl rfl .nil) rfl)
    replace h:=RG.f h hb73
    unfold M130_L3 at h
    refine rn 1 rfl ?_
    exact jX () h (gr [0] rfl (hB rfl rfl rfl .nil) rfl)
   intro _ h
   refine rn 7 rfl ?_
   refine jK h (fun _:Unit=>(⟨[],[],0⟩:St)) (fun k87 (_:Unit)=>k87=some r) (fun k87 h=>?_) ?_
   ·refine spC h rfl (fun hb88 h=>?_) (fun hb88 h=>?_)
    ·refine rn 5 rfl ?_
     refine cl h rfl rfl rfl (W74 _ _ _ _) rfl (fun y89 hx90 h=>?_)
     refine rn 1 rfl ?_
     refine spC h rfl (fun hb91 h=>?_) (fun hb91 h=>?_)
     ·refine rn 4 rfl ?_
      exact rt h rfl
     refine rn 5 rfl ?_
     refine cl h rfl rfl rfl (W74 _ _ _ _) rfl (fun y92 hx93 h=>?_)
     refine rn 1 rfl ?_
     refine spC h rfl (fun hb94 h=>?_) (fun hb94 h=>?_)
     ·refine rn 4 rfl ?_
      exact rt h rfl
     refine rn 1 rfl ?_
     exact jX () h (g0 rfl rfl)
    refine rn 1 rfl ?_
    exact jX () h (g0 rfl rfl)
   intro _ h
   refine rn 4 rfl ?_
   exact rt h rfl
  refine rn 5 rfl ?_
  refine jK h (fun _:Unit=>(⟨[(1,(V.ptr 0 6 0 0))],[(0,(Ob.arr 42 6 [(encTTest a1)]))],1⟩:St)) (fun k95 (_:Unit)=>k95=some r) (fun k95 h=>?_) ?_
  ·refine spC h rfl (fun hb96 h=>?_) (fun hb96 h=>?_)
   ·refine rn 5 rfl ?_
    refine ln rfl rfl ?_
    refine rn 2 rfl ?_
    refine spC h rfl (fun hb97 h=>?_) (fun hb97 h=>?_)
    ·refine rn 4 rfl ?_
     exact rt h rfl
    refine rn 6 rfl ?_
    refine ln rfl rfl ?_
    refine rn 2 rfl ?_
    refine spC h rfl (fun hb98 h=>?_) (fun hb98 h=>?_)
    ·refine rn 4 rfl ?_
     exact rt h rfl
    refine rn 5 rfl ?_
    refine jK h (fun _:Unit=>(⟨[(1,(V.ptr 0 6 0 0))],[(0,(Ob.arr 42 6 [(encTTest a1)]))],1⟩:St)) (fun k99 (_:Unit)=>k99=some r) (fun k99 h=>?_) ?_
    ·refine rn 1 rfl ?_
     refine wl (A:=a1.Texts) 33 rfl (fun hA115=>?_)
     refine lC (fun(p:Int)=>(⟨[(1,(V.ptr 0 6 0 0)),(4,(iV p))],[(0,(Ob.arr 42 6 [(encTTest a1)]))],1⟩:St)) (fun n p=>RG a1.Texts (fun tl nn=>M130_L4 F a1 k99 tl nn=some r) n p) (fun p h=>RG.zero h) (a1.Texts.length+1) 0 (RG.start h) (gr [0] rfl (hB rfl rfl rfl .nil) rfl) (fun n n101 h=>?_)
     refine rn 6 rfl ?_
     refine ln rfl rfl ?_
     refine rn 2 rfl ?_
     refine spL rfl (fun hb102=>?_) (fun hb102=>?_)
     ·obtain⟨x104,tl,hx105,h,hk4⟩:=RG.t hA115 h hb102
      unfold M130_L4 at h
      refine rn 2 rfl ?_
      refine jK h (fun _:Unit=>(⟨[(1,(V.ptr 0 6 0 0)),(4,(iV n101))],[(0,(Ob.arr 42 6 [(encTTest a1)]))],1⟩:St)) (fun k103 (_:Unit)=>k103=some r) (fun k103 h=>?_) ?_
      ·refine rn 7 rfl ?_
       refine ixh hx105 rfl rfl ?_
       refine rn 1 rfl ?_
       refine cl h rfl rfl rfl (W75 _ _) rfl (fun y106 hx107 h=>?_)
       refine rn 2 rfl ?_
       refine spC h rfl (fun hb108 h=>?_) (fun hb108 h=>?_)
       ·refine rn 4 rfl ?_
        exact rt h rfl
       refine rn 2 rfl ?_
       refine bs h (fun hb109 h=>?_) (fun hb109 h=>?_)
       ·obtain⟨x110,hx111,h⟩:=bind_some h
        obtain⟨x112,hx113,h⟩:=bind_some h
        refine dr mixed (vs 2 rfl (vb hb109 rfl (vs 3 rfl (iD hx111 rfl rfl rfl (vs 5 rfl (iD hx113 rfl rfl rfl (vs 3 rfl .nil))))))) (by kernel_rfl) ?_
        refine spC h rfl (fun hb114 h=>?_) (fun hb114 h=>?_)
        ·refine rn 4 rfl ?_
         exact rt h rfl
        refine rn 2 rfl ?_
        exact jX () h (gr [0] rfl (hB rfl rfl rfl .nil) rfl)
       refine dr mixed (vs 2 rfl (vb hb109 rfl (vs 13 rfl .nil))) (by kernel_rfl) ?_
       refine rn 3 rfl ?_
       exact jX () h (gr [0] rfl (hB rfl rfl rfl .nil) rfl)
      intro _ h
      refine rn 5 rfl ?_
      exact jX (w64 (n101+1)) (hk4 _ h) (gr [0] rfl (hB rfl rfl rfl .nil) rfl)
     replace h:=RG.f h hb102
     unfold M130_L4 at h
     refine rn 1 rfl ?_
     exact jX () h (gr [0] rfl (hB rfl rfl rfl .nil) rfl)
    intro _ h
    exact jX () h (gr [0] rfl (hB rfl rfl rfl .nil) rfl)
   refine rn 1 rfl ?_
   exact jX () h (gr [0] rfl (hB rfl rfl rfl .nil) rfl)
  intro _ h
  refine rn 7 rfl ?_
  refine jK h (fun _:Unit=>(⟨[],[],0⟩:St)) (fun k116 (_:Unit)=>k116=some r) (fun k116 h=>?_) ?_
  ·refine spC h rfl (fun hb117 h=>?_) (fun hb117 h=>?_)
   ·refine rn 5 rfl ?_
    refine cl h rfl rfl rfl (W74 _ _ _ _) rfl (fun y118 hx119 h=>?_)
    refine rn 1 rfl ?_
    refine spC h rfl (fun hb120 h=>?_) (fun hb120 h=>?_)
    ·refine rn 4 rfl ?_
     exact rt h rfl
    refine rn 5 rfl ?_
    refine cl h rfl rfl rfl (W74 _ _ _ _) rfl (fun y121 hx122 h=>?_)
    refine rn 1 rfl ?_
    refine spC h rfl (fun hb123 h=>?_) (fun hb123 h=>?_)
    ·refine rn 4 rfl ?_
     exact rt h rfl
    refine rn 1 rfl ?_
    exact jX () h (g0 rfl rfl)
   refine rn 1 rfl ?_
   exact jX () h (g0 rfl rfl)
  intro _ h
  refine rn 4 rfl ?_
  exact rt h rfl
 refine rn 20 rfl ?_
 refine spO 27 h rfl (fun hb124 h=>?_) (fun hb124 h=>?_)
 ·refine rn 11 rfl ?_
  refine ln rfl rfl ?_
  refine rn 2 rfl ?_
  refine spC h rfl (fun hb125 h=>?_) (fun hb125 h=>?_)
  ·refine rn 4 rfl ?_
   exact rt h rfl
  refine rn 6 rfl ?_
  refine ln rfl rfl ?_
  refine rn 2 rfl ?_
  refine spC h rfl (fun hb126 h=>?_) (fun hb126 h=>?_)
  ·refine rn 4 rfl ?_
   exact rt h rfl
  refine rn 5 rfl ?_
  refine jK h (fun _:Unit=>(⟨[(1,(V.ptr 0 6 0 0))],[(0,(Ob.arr 42 6 [(encTTest a1)]))],1⟩:St)) (fun k127 (_:Unit)=>k127=some r) (fun k127 h=>?_) ?_
  ·refine rn 1 rfl ?_
   refine wl (A:=a1.Texts) 33 rfl (fun hA143=>?_)
   refine lC (fun(p:Int)=>(⟨[(1,(V.ptr 0 6 0 0)),(4,(iV p))],[(0,(Ob.arr 42 6 [(encTTest a1)]))],1⟩:St)) (fun n p=>RG a1.Texts (fun tl nn=>M130_L5 F a1 k127 tl nn=some r) n p) (fun p h=>RG.zero h) (a1.Texts.length+1) 0 (RG.start h) (gr [0] rfl (hB rfl rfl rfl .nil) rfl) (fun n n129 h=>?_)
   refine rn 6 rfl ?_
   refine ln rfl rfl ?_
   refine rn 2 rfl ?_
   refine spL rfl (fun hb130=>?_) (fun hb130=>?_)
   ·obtain⟨x132,tl,hx133,h,hk5⟩:=RG.t hA143 h hb130
    unfold M130_L5 at h
    refine rn 2 rfl ?_
    refine jK h (fun _:Unit=>(⟨[(1,(V.ptr 0 6 0 0)),(4,(iV n129))],[(0,(Ob.arr 42 6 [(encTTest a1)]))],1⟩:St)) (fun k131 (_:Unit)=>k131=some r) (fun k131 h=>?_) ?_
    ·refine rn 7 rfl ?_
     refine ixh hx133 rfl rfl ?_
     refine rn 1 rfl ?_
     refine cl h rfl rfl rfl (W75 _ _) rfl (fun y134 hx135 h=>?_)
     refine rn 2 rfl ?_
     refine spC h rfl (fun hb136 h=>?_) (fun hb136 h=>?_)
     ·refine rn 4 rfl ?_
      exact rt h rfl
     refine rn 2 rfl ?_
     refine bs h (fun hb137 h=>?_) (fun hb137 h=>?_)
     ·obtain⟨x138,hx139,h⟩:=bind_some h
      obtain⟨x140,hx141,h⟩:=bind_some h
      refine dr mixed (vs 2 rfl (vb hb137 rfl (vs 3 rfl (iD hx139 rfl rfl rfl (vs 5 rfl (iD hx141 rfl rfl rfl (vs 3 rfl .nil))))))) (by kernel_rfl) ?_
      refine spC h rfl (fun hb142 h=>?_) (fun hb142 h=>?_)
      ·refine rn 4 rfl ?_
       exact rt h rfl
      refine rn 2 rfl ?_
      exact jX () h (gr [0] rfl (hB rfl rfl rfl .nil) rfl)
     refine dr mixed (vs 2 rfl (vb hb137 rfl (vs 13 rfl .nil))) (by kernel_rfl) ?_
     refine rn 3 rfl ?_
     exact jX () h (gr [0] rfl (hB rfl rfl rfl .nil) rfl)
    intro _ h
    refine rn 5 rfl ?_
    exact jX (w64 (n129+1)) (hk5 _ h) (gr [0] rfl (hB rfl rfl rfl .nil) rfl)
   replace h:=RG.f h hb130
   unfold M130_L5 at h
   refine rn 1 rfl ?_
   exact jX () h (gr [0] rfl (hB rfl rfl rfl .nil) rfl)
  intro _ h
  refine rn 7 rfl ?_
  refine jK h (fun _:Unit=>(⟨[],[],0⟩:St)) (fun k144 (_:Unit)=>k144=some r) (fun k144 h=>?_) ?_
  ·refine spC h rfl (fun hb145 h=>?_) (fun hb145 h=>?_)
   ·refine rn 5 rfl ?_
    refine cl h rfl rfl rfl (W74 _ _ _ _) rfl (fun y146 hx147 h=>?_)
    refine rn 1 rfl ?_
    refine spC h rfl (fun hb148 h=>?_) (fun hb148 h=>?_)
    ·refine rn 4 rfl ?_
     exact rt h rfl
    refine rn 5 rfl ?_
    refine cl h rfl rfl rfl (W74 _ _ _ _) rfl (fun y149 hx150 h=>?_)
    refine rn 1 rfl ?_
    refine spC h rfl (fun hb151 h=>?_) (fun hb151 h=>?_)
    ·refine rn 4 rfl ?_
     exact rt h rfl
    refine rn 1 rfl ?_
    exact jX () h (g0 rfl rfl)
   refine rn 1 rfl ?_
   exact jX () h (g0 rfl rfl)
  intro _ h
  refine rn 4 rfl ?_
  exact rt h rfl
 refine rn 5 rfl ?_
 refine jK h (fun _:Unit=>(⟨[(1,(V.ptr 0 6 0 0))],[(0,(Ob.arr 42 6 [(encTTest a1)]))],1⟩:St)) (fun k152 (_:Unit)=>k152=some r) (fun k152 h=>?_) ?_
 ·refine spC h rfl (fun hb153 h=>?_) (fun hb153 h=>?_)
  ·refine rn 5 rfl ?_
   refine ln rfl rfl ?_
   refine rn 2 rfl ?_
   refine spC h rfl (fun hb154 h=>?_) (fun hb154 h=>?_)
   ·refine rn 4 rfl ?_
    exact rt h rfl
   refine rn 6 rfl ?_
   refine ln rfl rfl ?_
   refine rn 2 rfl ?_
   refine spC h rfl (fun hb155 h=>?_) (fun hb155 h=>?_)
   ·refine rn 4 rfl ?_
    exact rt h rfl
   refine rn 5 rfl ?_
   refine jK h (fun _:Unit=>(⟨[(1,(V.ptr 0 6 0 0))],[(0,(Ob.arr 42 6 [(encTTest a1)]))],1⟩:St)) (fun k156 (_:Unit)=>k156=some r) (fun k156 h=>?_) ?_
   ·refine rn 1 rfl ?_
    refine wl (A:=a1.Texts) 33 rfl (fun hA172=>?_)
    refine lC (fun(p:Int)=>(⟨[(1,(V.ptr 0 6 0 0)),(4,(iV p))],[(0,(Ob.arr 42 6 [(encTTest a1)]))],1⟩:St)) (fun n p=>RG a1.Texts (fun tl nn=>M130_L6 F a1 k156 tl nn=some r) n p) (fun p h=>RG.zero h) (a1.Texts.length+1) 0 (RG.start h) (gr [0] rfl (hB rfl rfl rfl .nil) rfl) (fun n n158 h=>?_)
    refine rn 6 rfl ?_
    refine ln rfl rfl ?_
    refine rn 2 rfl ?_
    refine spL rfl (fun hb159=>?_) (fun hb159=>?_)
    ·obtain⟨x161,tl,hx162,h,hk6⟩:=RG.t hA172 h hb159
     unfold M130_L6 at h
     refine rn 2 rfl ?_
     refine jK h (fun _:Unit=>(⟨[(1,(V.ptr 0 6 0 0)),(4,(iV n158))],[(0,(Ob.arr 42 6 [(encTTest a1)]))],1⟩:St)) (fun k160 (_:Unit)=>k160=some r) (fun k160 h=>?_) ?_
     ·refine rn 7 rfl ?_
      refine ixh hx162 rfl rfl ?_
      refine rn 1 rfl ?_
      refine cl h rfl rfl rfl (W75 _ _) rfl (fun y163 hx164 h=>?_)
      refine rn 2 rfl ?_
      refine spC h rfl (fun hb165 h=>?_) (fun hb165 h=>?_)
      ·refine rn 4 rfl ?_
       exact rt h rfl
      refine rn 2 rfl ?_
      refine bs h (fun hb166 h=>?_) (fun hb166 h=>?_)
      ·obtain⟨x167,hx168,h⟩:=bind_some h
       obtain⟨x169,hx170,h⟩:=bind_some h
       refine dr mixed (vs 2 rfl (vb hb166 rfl (vs 3 rfl (iD hx168 rfl rfl rfl (vs 5 rfl (iD hx170 rfl rfl rfl (vs 3 rfl .nil))))))) (by kernel_rfl) ?_
       refine spC h rfl (fun hb171 h=>?_) (fun hb171 h=>?_)
       ·refine rn 4 rfl ?_
        exact rt h rfl
       refine rn 2 rfl ?_
       exact jX () h (gr [0] rfl (hB rfl rfl rfl .nil) rfl)
      refine dr mixed (vs 2 rfl (vb hb166 rfl (vs 13 rfl .nil))) (by kernel_rfl) ?_
      refine rn 3 rfl ?_
      exact jX () h (gr [0] rfl (hB rfl rfl rfl .nil) rfl)
     intro _ h
     refine rn 5 rfl ?_
     exact jX (w64 (n158+1)) (hk6 _ h) (gr [0] rfl (hB rfl rfl rfl .nil) rfl)
    replace h:=RG.f h hb159
    unfold M130_L6 at h
    refine rn 1 rfl ?_
    exact jX () h (gr [0] rfl (hB rfl rfl rfl .nil) rfl)
   intro _ h
   exact jX () h (gr [0] rfl (hB rfl rfl rfl .nil) rfl)
  refine rn 1 rfl ?_
  exact jX () h (gr [0] rfl (hB rfl rfl rfl .nil) rfl)
 intro _ h
 refine rn 7 rfl ?_
 refine jK h (fun _:Unit=>(⟨[],[],0⟩:St)) (fun k173 (_:Unit)=>k173=some r) (fun k173 h=>?_) ?_
 ·refine spC h rfl (fun hb174 h=>?_) (fun hb174 h=>?_)
  ·refine rn 5 rfl ?_
   refine cl h rfl rfl rfl (W74 _ _ _ _) rfl (fun y175 hx176 h=>?_)
   refine rn 1 rfl ?_
   refine spC h rfl (fun hb177 h=>?_) (fun hb177 h=>?_)
   ·refine rn 4 rfl ?_
    exact rt h rfl
   refine rn 5 rfl ?_
   refine cl h rfl rfl rfl (W74 _ _ _ _) rfl (fun y178 hx179 h=>?_)
   refine rn 1 rfl ?_
   refine spC h rfl (fun hb180 h=>?_) (fun hb180 h=>?_)
   ·refine rn 4 rfl ?_
    exact rt h rfl
   refine rn 1 rfl ?_
   exact jX () h (g0 rfl rfl)
  refine rn 1 rfl ?_
  exact jX () h (g0 rfl rfl)
 intro _ h
 refine rn 4 rfl ?_
 exact rt h rfl
theorem W107_B(R107:TTest->Option Int)(hR107:∀(a1:TTest) (r:Int),R107 a1=some r->PureG gl Tryz.prog 107 [(V.agg (encTTest a1))] (iV r))(F:Nat)(a1:TTest)(r:Int)(h:M107_B R107 F a1=some r):PureG gl Tryz.prog 107 [(V.agg (encTTest a1))] (iV r):=by
 refine pin (fun r=>(iV r)) r rfl Tryz.func107 rfl rfl rfl rfl rfl (fun w0 m0 hg=>?_)
 unfold M107_B at h
 refine rn 9 rfl ?_
 refine cl h rfl rfl rfl (W130 _ _) rfl (fun y2 hx3 h=>?_)
 refine rn 7 rfl ?_
 refine spC h rfl (fun hb4 h=>?_) (fun hb4 h=>?_)
 ·refine rn 5 rfl ?_
  exact rt h rfl
 refine rn 6 rfl ?_
 refine jK h (fun _:Unit=>(⟨[],[],0⟩:St)) (fun k5 (_:Unit)=>k5=some r) (fun k5 h=>?_) ?_
 ·refine rn 1 rfl ?_
  refine ck h (fun hA16 h=>?_)
  refine lC (fun(p:Int)=>(⟨[(1,(V.ptr 0 6 0 0)),(4,(iV p))],[(0,(Ob.arr 42 6 [(encTTest a1)]))],1⟩:St)) (fun n p=>RC ((a1.Kids.length:Nat):Int) (fun tl nn=>M107_L1 R107 F a1 k5 tl nn=some r) n p) (fun p h=>RC.zero h) (Int.toNat ((a1.Kids.length:Nat):Int)+1) 0 (RC.start h) (gr [0] rfl (hB rfl rfl rfl .nil) rfl) (fun n n7 h=>?_)
  refine rn 6 rfl ?_
  refine ln rfl rfl ?_
  refine rn 2 rfl ?_
  refine spL rfl (fun hb8=>?_) (fun hb8=>?_)
  ·obtain⟨tl,h,hk1⟩:=RC.t hA16 h hb8
   unfold M107_L1 at h
   refine rn 8 rfl ?_
   refine ixl h rfl rfl (fun x9 hx10 h=>?_)
   obtain⟨y11,hx12,h⟩:=bind_some h
   refine kroO 21 hx12 rfl ?_
   refine rn 1 rfl ?_
   refine cl h rfl rfl rfl (hR107 _) rfl (fun y13 hx14 h=>?_)
   refine rn 7 rfl ?_
   refine spC h rfl (fun hb15 h=>?_) (fun hb15 h=>?_)
   ·refine rn 5 rfl ?_
    exact rt h rfl
   refine rn 7 rfl ?_
   exact jX (w64 (n7+1)) (hk1 _ h) (gr [0] rfl (hB rfl rfl rfl .nil) rfl)
  replace h:=RC.f h hb8
  unfold M107_L1 at h
  refine rn 1 rfl ?_
  exact jX () h (g0 rfl rfl)
 intro _ h
 refine rn 4 rfl ?_
 exact rt h rfl
theorem W107:∀(F:Nat) (a1:TTest) (r:Int) (h:M107 F a1=some r),PureG gl Tryz.prog 107 [(V.agg (encTTest a1))] (iV r):=by
 intro F
 induction F with
 |zero=>intros;simp[M107] at *
 |succ F ih=>exact fun a1 r h=>W107_B (M107 F) ih F a1 r h
theorem W73(F:Nat)(a1:TTest)(r:Int)(h:M73 F a1=some r):PureG gl Tryz.prog 73 [(V.agg (encTTest a1))] (iV r):=by
 refine pin (fun r=>(iV r)) r rfl Tryz.func73 rfl rfl rfl rfl rfl (fun w0 m0 hg=>?_)
 unfold M73 at h
 refine rn 9 rfl ?_
 refine cl h rfl rfl rfl (W105 _ _ _) rfl (fun y2 hx3 h=>?_)
 refine rn 2 rfl ?_
 refine spO 6 h rfl (fun hb4 h=>?_) (fun hb4 h=>?_)
 ·refine rn 10 rfl ?_
  exact rt h rfl
 refine rn 1 rfl ?_
 refine cl h rfl rfl rfl (W106 _ _) rfl (fun y5 hx6 h=>?_)
 refine rn 3 rfl ?_
 refine spC h rfl (fun hb7 h=>?_) (fun hb7 h=>?_)
 ·refine rn 4 rfl ?_
  exact rt h rfl
 refine rn 4 rfl ?_
 refine cl h rfl rfl rfl (W107 _ _) rfl (fun y8 hx9 h=>?_)
 refine rn 2 rfl ?_
 exact rt h rfl
theorem W41(F:Nat)(a1:TPolicy)(a2:Int)(r:Int)(h:M41 F a1 a2=some r):PureG gl Tryz.prog 41 [(V.agg (encTPolicy a1)),(iV a2)] (iV r):=by
 refine pin (fun r=>(iV r)) r rfl Tryz.func41 rfl rfl rfl rfl rfl (fun w0 m0 hg=>?_)
 unfold M41 at h
 refine rn 10 rfl ?_
 refine ixl h rfl rfl (fun x3 hx4 h=>?_)
 refine rn 9 rfl ?_
 refine cl h rfl rfl rfl (W71 _ _) rfl (fun y5 hx6 h=>?_)
 refine rn 2 rfl ?_
 refine spC h rfl (fun hb7 h=>?_) (fun hb7 h=>?_)
 ·refine rn 4 rfl ?_
  exact rt h rfl
 refine rn 3 rfl ?_
 refine ck h (fun hc8 h=>?_)
 obtain⟨y9,hx10,h⟩:=bind_some h
 refine dr mixed (vs 3 rfl (xD (OD.mk [(17,(V.lst 9 (a1.Rules.map encTPolicyRule))),(18,(iV a2))] [] [(19,(V.lst 9 ((a1.Rules.take a2.toNat).map encTPolicyRule)))] []) ⟨⟨rfl,rfl,trivial⟩,trivial⟩ (by exact fun S hn h hh=>aops_slice_lst (0) (a2.toNat) ((a1.Rules.take a2.toNat).map encTPolicyRule) tSl22 wants_none h.1 rfl ⟨_,(by rw[Int.toNat_of_nonneg hc8.1];exact h.2.1)⟩ (af8 _) (by simpa using hc8.2) slL_lo rfl (aops_nil ⟨rfl,rfl⟩)) rfl (vs 2 rfl (cD rfl rfl rfl rfl (W72 _ _ _ _ hx10) rfl (vs 1 rfl .nil))))) (by kernel_rfl) ?_
 refine spC h rfl (fun hb11 h=>?_) (fun hb11 h=>?_)
 ·refine rn 4 rfl ?_
  exact rt h rfl
 refine rn 6 rfl ?_
 refine cl h rfl rfl rfl (W71 _ _) rfl (fun y12 hx13 h=>?_)
 refine rn 2 rfl ?_
 refine spC h rfl (fun hb14 h=>?_) (fun hb14 h=>?_)
 ·refine rn 4 rfl ?_
  exact rt h rfl
 refine rn 6 rfl ?_
 refine cl h rfl rfl rfl (W73 _ _) rfl (fun y15 hx16 h=>?_)
 refine rn 7 rfl ?_
 refine spC h rfl (fun hb17 h=>?_) (fun hb17 h=>?_)
 ·refine rn 5 rfl ?_
  exact rt h rfl
 refine rn 6 rfl ?_
 refine cl h rfl rfl rfl (W74 _ _ _ _) rfl (fun y18 hx19 h=>?_)
 refine rn 1 rfl ?_
 refine spC h rfl (fun hb20 h=>?_) (fun hb20 h=>?_)
 ·refine rn 4 rfl ?_
  exact rt h rfl
 refine rn 5 rfl ?_
 exact rt h rfl
theorem W42(F:Nat)(a1:TPolicy)(a2:TWaiver)(r:Int)(h:M42 F a1 a2=some r):PureG gl Tryz.prog 42 [(V.agg (encTPolicy a1)),(V.agg (encTWaiver a2))] (iV r):=by
 refine pin (fun r=>(iV r)) r rfl Tryz.func42 rfl rfl rfl rfl rfl (fun w0 m0 hg=>?_)
 unfold M42 at h
 refine rn 13 rfl ?_
 refine cl h rfl rfl rfl (W72 _ _ _) rfl (fun y3 hx4 h=>?_)
 refine rn 2 rfl ?_
 refine spC h rfl (fun hb5 h=>?_) (fun hb5 h=>?_)
 ·refine rn 4 rfl ?_
  exact rt h rfl
 refine rn 6 rfl ?_
 refine cl h rfl rfl rfl (W75 _ _) rfl (fun y6 hx7 h=>?_)
 refine rn 2 rfl ?_
 refine spC h rfl (fun hb8 h=>?_) (fun hb8 h=>?_)
 ·refine rn 4 rfl ?_
  exact rt h rfl
 refine rn 6 rfl ?_
 refine jK h (fun _:Unit=>(⟨[(3,(V.ptr 0 6 0 0))],[(0,(Ob.arr 52 6 [(encTWaiver a2)]))],1⟩:St)) (fun k9 (_:Unit)=>k9=some r) (fun k9 h=>?_) ?_
 ·refine rn 1 rfl ?_
  refine lC (fun(p:Int)=>(⟨[(3,(V.ptr 0 6 0 0)),(5,(iV p))],[(0,(Ob.arr 52 6 [(encTWaiver a2)]))],1⟩:St)) (fun n p=>M42_L1 F a2 k9 n p=some r) (fun p h=>by simp[M42_L1] at h) F 0 h (gr [1] rfl (hB rfl rfl rfl .nil) rfl) (fun n n11 h=>?_)
  unfold M42_L1 at h
  refine rn 10 rfl ?_
  refine spC h rfl (fun hb12 h=>?_) (fun hb12 h=>?_)
  ·refine rn 8 rfl ?_
   refine ixs h rfl rfl (fun c13 hx14 h=>?_)
   refine rn 2 rfl ?_
   refine spC h rfl (fun hb15 h=>?_) (fun hb15 h=>?_)
   ·refine rn 4 rfl ?_
    exact rt h rfl
   refine rn 7 rfl ?_
   exact jX (w64 (n11+1)) h (gr [0] rfl (hB rfl rfl rfl .nil) rfl)
  refine rn 1 rfl ?_
  exact jX () h (gr [0] rfl (hB rfl rfl rfl .nil) rfl)
 intro _ h
 refine rn 8 rfl ?_
 refine cl h rfl rfl rfl (W74 _ _ _ _) rfl (fun y16 hx17 h=>?_)
 refine rn 1 rfl ?_
 refine spO 35 h rfl (fun hb18 h=>?_) (fun hb18 h=>?_)
 ·refine rn 11 rfl ?_
  exact rt h rfl
 refine rn 6 rfl ?_
 refine spC h rfl (fun hb19 h=>?_) (fun hb19 h=>?_)
 ·refine rn 4 rfl ?_
  exact rt h rfl
 refine rn 4 rfl ?_
 refine cl h rfl rfl rfl (W71 _ _) rfl (fun y20 hx21 h=>?_)
 refine rn 3 rfl ?_
 refine spC h rfl (fun hb22 h=>?_) (fun hb22 h=>?_)
 ·refine rn 4 rfl ?_
  exact rt h rfl
 refine rn 4 rfl ?_
 refine cl h rfl rfl rfl (W74 _ _ _ _) rfl (fun y23 hx24 h=>?_)
 refine rn 2 rfl ?_
 refine spC h rfl (fun hb25 h=>?_) (fun hb25 h=>?_)
 ·refine rn 4 rfl ?_
  exact rt h rfl
 refine rn 6 rfl ?_
 exact rt h rfl
theorem W17(F:Nat)(a1:TPolicy)(r:Int)(h:M17 F a1=some r):PureG gl Tryz.prog 17 [(V.agg (encTPolicy a1))] (iV r):=by
 refine pin (fun r=>(iV r)) r rfl Tryz.func17 rfl rfl rfl rfl rfl (fun w0 m0 hg=>?_)
 unfold M17 at h
 refine rn 10 rfl ?_
 refine ln rfl rfl ?_
 refine rn 2 rfl ?_
 refine spO 11 h rfl (fun hb2 h=>?_) (fun hb2 h=>?_)
 ·refine rn 11 rfl ?_
  exact rt h rfl
 refine rn 2 rfl ?_
 refine ln rfl rfl ?_
 refine rn 3 rfl ?_
 refine spC h rfl (fun hb3 h=>?_) (fun hb3 h=>?_)
 ·refine rn 4 rfl ?_
  exact rt h rfl
 refine rn 6 rfl ?_
 refine jK h (fun _:Unit=>(⟨[(1,(V.ptr 0 2 0 0))],[(0,(Ob.arr 25 2 [(encTPolicy a1)]))],1⟩:St)) (fun k4 (_:Unit)=>k4=some r) (fun k4 h=>?_) ?_
 ·refine rn 1 rfl ?_
  refine wl (A:=a1.Rules) 8 rfl (fun hA11=>?_)
  refine lC (fun(p:Int)=>(⟨[(1,(V.ptr 0 2 0 0)),(3,(iV p))],[(0,(Ob.arr 25 2 [(encTPolicy a1)]))],1⟩:St)) (fun n p=>RC ((a1.Rules.length:Nat):Int) (fun tl nn=>M17_L1 F a1 k4 tl nn=some r) n p) (fun p h=>RC.zero h) (Int.toNat ((a1.Rules.length:Nat):Int)+1) 0 (RC.start h) (gr [0] rfl (hB rfl rfl rfl .nil) rfl) (fun n n6 h=>?_)
  refine rn 6 rfl ?_
  refine ln rfl rfl ?_
  refine rn 2 rfl ?_
  refine spL rfl (fun hb7=>?_) (fun hb7=>?_)
  ·obtain⟨tl,h,hk1⟩:=RC.t (by unfold maxLen at hA11;omega) h hb7
   unfold M17_L1 at h
   refine rn 7 rfl ?_
   refine cl h rfl rfl rfl (W41 _ _ _) rfl (fun y8 hx9 h=>?_)
   refine rn 7 rfl ?_
   refine spC h rfl (fun hb10 h=>?_) (fun hb10 h=>?_)
   ·refine rn 5 rfl ?_
    exact rt h rfl
   refine rn 7 rfl ?_
   exact jX (w64 (n6+1)) (hk1 _ h) (gr [0] rfl (hB rfl rfl rfl .nil) rfl)
  replace h:=RC.f h hb7
  unfold M17_L1 at h
  refine rn 1 rfl ?_
  exact jX () h (gr [0] rfl (hB rfl rfl rfl .nil) rfl)
 intro _ h
 refine rn 5 rfl ?_
 refine jK h (fun _:Unit=>(⟨[],[],0⟩:St)) (fun k12 (_:Unit)=>k12=some r) (fun k12 h=>?_) ?_
 ·refine rn 1 rfl ?_
  refine ck h (fun hA21 h=>?_)
  refine lC (fun(p:Int)=>(⟨[(1,(V.ptr 0 2 0 0)),(5,(iV p))],[(0,(Ob.arr 25 2 [(encTPolicy a1)]))],1⟩:St)) (fun n p=>RC ((a1.Waivers.length:Nat):Int) (fun tl nn=>M17_L2 F a1 k12 tl nn=some r) n p) (fun p h=>RC.zero h) (Int.toNat ((a1.Waivers.length:Nat):Int)+1) 0 (RC.start h) (gr [0] rfl (hB rfl rfl rfl .nil) rfl) (fun n n14 h=>?_)
  refine rn 6 rfl ?_
  refine ln rfl rfl ?_
  refine rn 2 rfl ?_
  refine spL rfl (fun hb15=>?_) (fun hb15=>?_)
  ·obtain⟨tl,h,hk2⟩:=RC.t hA21 h hb15
   unfold M17_L2 at h
   obtain⟨x16,hx17,h⟩:=bind_some h
   obtain⟨y18,hx19,h⟩:=bind_some h
   refine rn 4 rfl ?_
   refine dr mixed (vs 4 rfl (iD hx17 rfl rfl rfl (vs 1 rfl (cD rfl rfl rfl rfl (W42 _ _ _ _ hx19) rfl (vs 1 rfl .nil))))) (by kernel_rfl) ?_
   refine rn 5 rfl ?_
   refine spC h rfl (fun hb20 h=>?_) (fun hb20 h=>?_)
   ·refine rn 5 rfl ?_
    exact rt h rfl
   refine rn 7 rfl ?_
   exact jX (w64 (n14+1)) (hk2 _ h) (gr [0] rfl (hB rfl rfl rfl .nil) rfl)
  replace h:=RC.f h hb15
  unfold M17_L2 at h
  refine rn 1 rfl ?_
  exact jX () h (g0 rfl rfl)
 intro _ h
 refine rn 4 rfl ?_
 exact rt h rfl
theorem W18(F:Nat)(a1:Int)(r:(List UInt8))(h:M18 F a1=some r):PureG gl Tryz.prog 18 [(iV a1)] (sV r):=by
 refine pin (fun r=>(sV r)) r rfl Tryz.func18 rfl rfl rfl rfl rfl (fun w0 m0 hg=>?_)
 unfold M18 at h
 refine rn 6 rfl ?_
 refine aops_buildA [(0,(sV ([]:List UInt8))),(1,(sV ([112,97,115,115]:List UInt8))),(2,(sV ([110,111,116,101]:List UInt8))),(3,(sV ([119,97,114,110]:List UInt8))),(4,(sV ([100,101,110,121]:List UInt8)))] [(sV ([]:List UInt8)),(sV ([112,97,115,115]:List UInt8)),(sV ([110,111,116,101]:List UInt8)),(sV ([119,97,114,110]:List UInt8)),(sV ([100,101,110,121]:List UInt8))] tZ94 tArr94 rfl wants_none (evp_cons rfl (evp_cons rfl (evp_cons rfl (evp_cons rfl (evp_cons rfl evp_nil))))) rfl rfl ?_
 refine fo (rn 1 rfl ?_)
 refine ck h (fun hc2 h=>?_)
 refine aops_indexAC (sV ((arrOf [] [([]:List UInt8),([112,97,115,115]:List UInt8),([110,111,116,101]:List UInt8),([119,97,114,110]:List UInt8),([100,101,110,121]:List UInt8)]) a1.toNat)) tAC94 wants_none rfl rfl hc2 (arr_cell (f:=(arrOf [] [([]:List UInt8),([112,97,115,115]:List UInt8),([110,111,116,101]:List UInt8),([119,97,114,110]:List UInt8),([100,101,110,121]:List UInt8)])) (c:=sV) rfl hc2.2) rfl ?_
 refine fo (rn 2 rfl ?_)
 exact rt h rfl
theorem W43(F:Nat)(a1:Int)(r:(List UInt8))(h:M43 F a1=some r):PureG gl Tryz.prog 43 [(iV a1)] (sV r):=by
 refine pin (fun r=>(sV r)) r rfl Tryz.func43 rfl rfl rfl rfl rfl (fun w0 m0 hg=>?_)
 unfold M43 at h
 refine rn 6 rfl ?_
 refine aops_buildA [(0,(sV ([]:List UInt8))),(1,(sV ([60]:List UInt8))),(2,(sV ([60,61]:List UInt8))),(3,(sV ([61]:List UInt8))),(4,(sV ([62,61]:List UInt8))),(5,(sV ([62]:List UInt8)))] [(sV ([]:List UInt8)),(sV ([60]:List UInt8)),(sV ([60,61]:List UInt8)),(sV ([61]:List UInt8)),(sV ([62,61]:List UInt8)),(sV ([62]:List UInt8))] tZ86 tArr86 rfl wants_none (evp_cons rfl (evp_cons rfl (evp_cons rfl (evp_cons rfl (evp_cons rfl (evp_cons rfl evp_nil)))))) rfl rfl ?_
 refine fo (rn 1 rfl ?_)
 refine ck h (fun hc2 h=>?_)
 refine aops_indexAC (sV ((arrOf [] [([]:List UInt8),([60]:List UInt8),([60,61]:List UInt8),([61]:List UInt8),([62,61]:List UInt8),([62]:List UInt8)]) a1.toNat)) tAC86 wants_none rfl rfl hc2 (arr_cell (f:=(arrOf [] [([]:List UInt8),([60]:List UInt8),([60,61]:List UInt8),([61]:List UInt8),([62,61]:List UInt8),([62]:List UInt8)])) (c:=sV) rfl hc2.2) rfl ?_
 refine fo (rn 2 rfl ?_)
 exact rt h rfl
theorem W44(R19:TTest->Option (List UInt8))(hR19:∀(a1:TTest) (r:(List UInt8)),R19 a1=some r->PureG gl Tryz.prog 19 [(V.agg (encTTest a1))] (sV r))(F:Nat)(a1:TTest)(a2:Int)(r:(List UInt8))(h:M44 R19 F a1 a2=some r):PureG gl Tryz.prog 44 [(V.agg (encTTest a1)),(iV a2)] (sV r):=by
 refine pin (fun r=>(sV r)) r rfl Tryz.func44 rfl rfl rfl rfl rfl (fun w0 m0 hg=>?_)
 unfold M44 at h
 refine rn 8 rfl ?_
 refine cl h rfl rfl rfl (hR19 _) rfl (fun y3 hx4 h=>?_)
 refine rn 8 rfl ?_
 refine spO 12 h rfl (fun hb5 h=>?_) (fun hb5 h=>?_)
 ·refine rn 14 rfl ?_
  refine spO 21 h rfl (fun hb6 h=>?_) (fun hb6 h=>?_)
  ·refine rn 15 rfl ?_
   refine ck h (fun hc7 h=>?_)
   refine aops_binT (str (([40]:List UInt8)++y3)) wants_none rfl rfl (if_pos hc7) rfl ?_
   refine ck h (fun hc8 h=>?_)
   refine aops_binT (str ((([40]:List UInt8)++y3)++([41]:List UInt8))) wants_none rfl rfl (if_pos hc8) rfl ?_
   refine fo (rn 2 rfl ?_)
   exact rt h rfl
  refine rn 6 rfl ?_
  refine spO 27 h rfl (fun hb9 h=>?_) (fun hb9 h=>?_)
  ·refine rn 9 rfl ?_
   refine ck h (fun hc10 h=>?_)
   refine aops_binT (str (([40]:List UInt8)++y3)) wants_none rfl rfl (if_pos hc10) rfl ?_
   refine ck h (fun hc11 h=>?_)
   refine aops_binT (str ((([40]:List UInt8)++y3)++([41]:List UInt8))) wants_none rfl rfl (if_pos hc11) rfl ?_
   refine fo (rn 2 rfl ?_)
   exact rt h rfl
  refine rn 5 rfl ?_
  refine spC h rfl (fun hb12 h=>?_) (fun hb12 h=>?_)
  ·refine rn 3 rfl ?_
   refine ck h (fun hc13 h=>?_)
   refine aops_binT (str (([40]:List UInt8)++y3)) wants_none rfl rfl (if_pos hc13) rfl ?_
   refine ck h (fun hc14 h=>?_)
   refine aops_binT (str ((([40]:List UInt8)++y3)++([41]:List UInt8))) wants_none rfl rfl (if_pos hc14) rfl ?_
   refine fo (rn 2 rfl ?_)
   exact rt h rfl
  refine rn 6 rfl ?_
  exact rt h rfl
 refine rn 11 rfl ?_
 refine spO 18 h rfl (fun hb15 h=>?_) (fun hb15 h=>?_)
 ·refine rn 3 rfl ?_
  refine spO 21 h rfl (fun hb16 h=>?_) (fun hb16 h=>?_)
  ·refine rn 15 rfl ?_
   refine ck h (fun hc17 h=>?_)
   refine aops_binT (str (([40]:List UInt8)++y3)) wants_none rfl rfl (if_pos hc17) rfl ?_
   refine ck h (fun hc18 h=>?_)
   refine aops_binT (str ((([40]:List UInt8)++y3)++([41]:List UInt8))) wants_none rfl rfl (if_pos hc18) rfl ?_
   refine fo (rn 2 rfl ?_)
   exact rt h rfl
  refine rn 6 rfl ?_
  refine spO 27 h rfl (fun hb19 h=>?_) (fun hb19 h=>?_)
  ·refine rn 9 rfl ?_
   refine ck h (fun hc20 h=>?_)
   refine aops_binT (str (([40]:List UInt8)++y3)) wants_none rfl rfl (if_pos hc20) rfl ?_
   refine ck h (fun hc21 h=>?_)
   refine aops_binT (str ((([40]:List UInt8)++y3)++([41]:List UInt8))) wants_none rfl rfl (if_pos hc21) rfl ?_
   refine fo (rn 2 rfl ?_)
   exact rt h rfl
  refine rn 5 rfl ?_
  refine spC h rfl (fun hb22 h=>?_) (fun hb22 h=>?_)
  ·refine rn 3 rfl ?_
   refine ck h (fun hc23 h=>?_)
   refine aops_binT (str (([40]:List UInt8)++y3)) wants_none rfl rfl (if_pos hc23) rfl ?_
   refine ck h (fun hc24 h=>?_)
   refine aops_binT (str ((([40]:List UInt8)++y3)++([41]:List UInt8))) wants_none rfl rfl (if_pos hc24) rfl ?_
   refine fo (rn 2 rfl ?_)
   exact rt h rfl
  refine rn 6 rfl ?_
  exact rt h rfl
 refine rn 21 rfl ?_
 exact rt h rfl
theorem W20(F:Nat)(a1:(List UInt8))(r:(List UInt8))(h:M20 F a1=some r):PureG gl Tryz.prog 20 [(sV a1)] (sV r):=by
 refine pin (fun r=>(sV r)) r rfl Tryz.func20 rfl rfl rfl rfl rfl (fun w0 m0 hg=>?_)
 unfold M20 at h
 refine rn 6 rfl ?_
 refine aops_buildSlice [(0,(V.con (.int .u8 34)))] [[(V.con (.int .u8 34))]] tEl36 tZ5 rfl rfl rfl rfl wants_none (evp_cons rfl evp_nil) rfl rfl (by simp) rfl ?_
 refine fo (rn 7 rfl ?_)
 refine jK h (fun(p:(List Int))=>(⟨[(3,(V.own 0 p.length))],[(0,(Ob.arr 5 1 (p.map encI_u8)))],1⟩:St)) (fun k2 p=>k2 p=some r) (fun k2 h=>?_) ?_
 ·refine rn 1 rfl ?_
  refine ck h (fun hA27 h=>?_)
  refine lC (fun(p:Int×(List Int))=>(⟨[(0,(sV a1)),(3,(V.own 0 (p.2).length)),(4,(iV (p.1)))],[(0,(Ob.arr 5 1 ((p.2).map encI_u8)))],1⟩:St)) (fun n p=>RC (a1.length:Int) (fun tl nn=>M20_L1 F a1 k2 tl nn p.2=some r) n p.1) (fun p h=>RC.zero h) (Int.toNat (a1.length:Int)+1) (0,([34]:List Int)) (RC.start h) (ghost_ren 1 (fun i=>([0]:List Nat).getD i 0) _ _ (by decide) (EnvSub.get (.cons (Sub.imm (Imm.con _)) (.cons (Sub.ownE rfl rfl (by simp)) (.cons (Sub.imm (Imm.con _)) .nil)))) (HpSub.get (.cons rfl (ObSub.rows (rows_imm imms_encI_u8)) .nil)) rfl) (fun n p h=>?_)
  obtain⟨n6,l7⟩:=p
  refine rn 8 rfl ?_
  refine spL rfl (fun hb8=>?_) (fun hb8=>?_)
  ·obtain⟨tl,h,hk1⟩:=RC.t hA27 h hb8
   unfold M20_L1 at h
   refine rn 2 rfl ?_
   refine jK h (fun(p:(List Int))=>(⟨[(0,(sV a1)),(3,(V.own 0 p.length)),(4,(iV n6))],[(0,(Ob.arr 5 1 (p.map encI_u8)))],1⟩:St)) (fun k9 p=>k9 p=some r) (fun k9 h=>?_) ?_
   ·refine rn 6 rfl ?_
    refine ixs h rfl rfl (fun c11 hx12 h=>?_)
    refine rn 2 rfl ?_
    refine spO 16 h rfl (fun hb13 h=>?_) (fun hb13 h=>?_)
    ·refine rn 9 rfl ?_
     refine aops_buildSlice [(0,(V.con (.int .u8 92)))] [[(V.con (.int .u8 92))]] tEl36 tZ5 rfl rfl rfl rfl wants_none (evp_cons rfl evp_nil) rfl rfl (by simp) rfl ?_
     refine fo ?_
     refine apO encI_u8 h rfl rfl rfl rfl rfl rfl rfl rfl (fun h=>?_)
     refine rn 6 rfl ?_
     refine ixs h rfl rfl (fun c15 hx16 h=>?_)
     refine aops_buildSlice [(0,(V.con (.int .u8 (c15.toNat:Int))))] [[(V.con (.int .u8 (c15.toNat:Int)))]] tEl36 tZ5 rfl rfl rfl rfl wants_none (evp_cons rfl evp_nil) rfl rfl (by simp) rfl ?_
     refine fo ?_
     refine apO encI_u8 h rfl rfl rfl rfl rfl rfl rfl rfl (fun h=>?_)
     refine rn 3 rfl ?_
     exact jX ((l7++([92]:List Int))++([(c15.toNat:Int)]:List Int)) h (gr [4] rfl (hR rfl rfl .nil) rfl)
    refine rn 2 rfl ?_
    refine ixs h rfl rfl (fun c18 hx19 h=>?_)
    refine rn 3 rfl ?_
    refine jK h (fun(p:(List Int))=>(⟨[(0,(sV a1)),(3,(V.own 0 p.length)),(4,(iV n6)),(20,(bV ((c18.toNat:Int)==92)))],[(0,(Ob.arr 5 1 (p.map encI_u8)))],1⟩:St)) (fun k20 p=>k20 p=some r) (fun k20 h=>?_) ?_
    ·refine spC h rfl (fun hb22 h=>?_) (fun hb22 h=>?_)
     ·refine rn 2 rfl ?_
      refine aops_buildSlice [(0,(V.con (.int .u8 92)))] [[(V.con (.int .u8 92))]] tEl36 tZ5 rfl rfl rfl rfl wants_none (evp_cons rfl evp_nil) rfl rfl (by simp) rfl ?_
      refine fo ?_
      refine apO encI_u8 h rfl rfl rfl rfl rfl rfl rfl rfl (fun h=>?_)
      refine rn 2 rfl ?_
      exact jX (l7++([92]:List Int)) h (gr [2] rfl (hR rfl rfl .nil) rfl)
     refine rn 1 rfl ?_
     exact jX l7 h (gr [0] rfl (hR rfl rfl .nil) rfl)
    intro l21 h
    refine rn 4 rfl ?_
    refine ixs h rfl rfl (fun c24 hx25 h=>?_)
    refine aops_buildSlice [(0,(V.con (.int .u8 (c24.toNat:Int))))] [[(V.con (.int .u8 (c24.toNat:Int)))]] tEl36 tZ5 rfl rfl rfl rfl wants_none (evp_cons rfl evp_nil) rfl rfl (by simp) rfl ?_
    refine fo ?_
    refine apO encI_u8 h rfl rfl rfl rfl rfl rfl rfl rfl (fun h=>?_)
    refine rn 3 rfl ?_
    exact jX (l21++([(c24.toNat:Int)]:List Int)) h (gr [2] rfl (hR rfl rfl .nil) rfl)
   intro l10 h
   refine rn 5 rfl ?_
   exact jX ((w64 (n6+1)),l10) (hk1 _ h) (gr [0] rfl (hR rfl rfl .nil) rfl)
  replace h:=RC.f h hb8
  unfold M20_L1 at h
  refine rn 1 rfl ?_
  exact jX l7 h (gr [0] rfl (hR rfl rfl .nil) rfl)
 intro l3 h
 refine rn 3 rfl ?_
 refine aops_buildSlice [(0,(V.con (.int .u8 34)))] [[(V.con (.int .u8 34))]] tEl36 tZ5 rfl rfl rfl rfl wants_none (evp_cons rfl evp_nil) rfl rfl (by simp) rfl ?_
 refine fo ?_
 refine apO encI_u8 h rfl rfl rfl rfl rfl rfl rfl rfl (fun h=>?_)
 refine aops_ghost (ghost_frzE 2 33 rfl (rows_imm imms_encI_u8) rfl (bb8 ..).symm) ?_
 refine aops_bytesStr (l3++([34]:List Int)) tBy36 tStr9 wants_none rfl rfl ?_
 refine fo (rn 2 rfl ?_)
 exact rt h rfl
theorem W19_B(R19:TTest->Option (List UInt8))(hR19:∀(a1:TTest) (r:(List UInt8)),R19 a1=some r->PureG gl Tryz.prog 19 [(V.agg (encTTest a1))] (sV r))(F:Nat)(a1:TTest)(r:(List UInt8))(h:M19_B R19 F a1=some r):PureG gl Tryz.prog 19 [(V.agg (encTTest a1))] (sV r):=by
 refine pin (fun r=>(sV r)) r rfl Tryz.func19 rfl rfl rfl rfl rfl (fun w0 m0 hg=>?_)
 unfold M19_B at h
 refine rn 11 rfl ?_
 refine jK h (fun _:Unit=>(⟨[(1,(V.ptr 0 6 0 0))],[(0,(Ob.arr 42 6 [(encTTest a1)]))],1⟩:St)) (fun k2 (_:Unit)=>k2=some r) (fun k2 h=>?_) ?_
 ·refine rn 6 rfl ?_
  refine spC h rfl (fun hb3 h=>?_) (fun hb3 h=>?_)
  ·refine rn 4 rfl ?_
   exact rt h rfl
  refine rn 5 rfl ?_
  refine spC h rfl (fun hb4 h=>?_) (fun hb4 h=>?_)
  ·refine rn 4 rfl ?_
   refine ck h (fun hc5 h=>?_)
   refine aops_binT (str (([104,97,115,32]:List UInt8)++a1.Name)) wants_none rfl rfl (if_pos hc5) rfl ?_
   refine fo (rn 2 rfl ?_)
   exact rt h rfl
  refine rn 5 rfl ?_
  refine spC h rfl (fun hb6 h=>?_) (fun hb6 h=>?_)
  ·refine rn 1 rfl ?_
   refine ck h (fun hc7 h=>?_)
   obtain⟨y8,hx9,h⟩:=bind_some h
   refine ck h (fun hc10 h=>?_)
   refine ck h (fun hc11 h=>?_)
   obtain⟨y12,hx13,h⟩:=bind_some h
   refine ck h (fun hc14 h=>?_)
   refine dr mixed (vs 2 rfl (xD (OD.mk [(20,(sV a1.Name))] [] [(21,(sV (a1.Name++([32]:List UInt8))))] []) ⟨⟨rfl,trivial⟩,trivial⟩ (by exact fun S hn h hh=>aops_binT (str (a1.Name++([32]:List UInt8))) wants_none h.1 rfl (if_pos hc7) rfl (aops_nil ⟨rfl,rfl⟩)) rfl (vs 2 rfl (cD rfl rfl rfl rfl (W43 _ _ _ hx9) rfl (xD (OD.mk [(21,(sV (a1.Name++([32]:List UInt8)))),(24,(sV y8))] [] [(25,(sV ((a1.Name++([32]:List UInt8))++y8)))] []) ⟨⟨rfl,rfl,trivial⟩,trivial⟩ (by exact fun S hn h hh=>aops_binT (str ((a1.Name++([32]:List UInt8))++y8)) wants_none h.1 h.2.1 (if_pos hc10) rfl (aops_nil ⟨rfl,rfl⟩)) rfl (xD (OD.mk [(25,(sV ((a1.Name++([32]:List UInt8))++y8)))] [] [(26,(sV (((a1.Name++([32]:List UInt8))++y8)++([32]:List UInt8))))] []) ⟨⟨rfl,trivial⟩,trivial⟩ (by exact fun S hn h hh=>aops_binT (str (((a1.Name++([32]:List UInt8))++y8)++([32]:List UInt8))) wants_none h.1 rfl (if_pos hc11) rfl (aops_nil ⟨rfl,rfl⟩)) rfl (vs 2 rfl (cD rfl rfl rfl rfl (W14 _ _ _ hx13) rfl (xD (OD.mk [(26,(sV (((a1.Name++([32]:List UInt8))++y8)++([32]:List UInt8)))),(29,(sV y12))] [] [(30,(sV ((((a1.Name++([32]:List UInt8))++y8)++([32]:List UInt8))++y12)))] []) ⟨⟨rfl,rfl,trivial⟩,trivial⟩ (by exact fun S hn h hh=>aops_binT (str ((((a1.Name++([32]:List UInt8))++y8)++([32]:List UInt8))++y12)) wants_none h.1 h.2.1 (if_pos hc14) rfl (aops_nil ⟨rfl,rfl⟩)) rfl (vs 1 rfl .nil)))))))))) (by kernel_rfl) ?_
   exact rt h rfl
  refine rn 5 rfl ?_
  refine spC h rfl (fun hb15 h=>?_) (fun hb15 h=>?_)
  ·refine rn 4 rfl ?_
   refine ixl h rfl rfl (fun x16 hx17 h=>?_)
   obtain⟨y18,hx19,h⟩:=bind_some h
   refine kroO 35 hx19 rfl ?_
   refine rn 1 rfl ?_
   refine cl h rfl rfl rfl (W44 R19 hR19 _ _ _) rfl (fun y20 hx21 h=>?_)
   refine ck h (fun hc22 h=>?_)
   refine aops_binT (str (([110,111,116,32]:List UInt8)++y20)) wants_none rfl rfl (if_pos hc22) rfl ?_
   refine fo (rn 2 rfl ?_)
   exact rt h rfl
  refine rn 6 rfl ?_
  refine jK h (fun(p:Bool)=>(⟨[(1,(V.ptr 0 6 0 0)),(39,(bV p))],[(0,(Ob.arr 42 6 [(encTTest a1)]))],1⟩:St)) (fun k23 p=>k23 p=some r) (fun k23 h=>?_) ?_
  ·refine spC h rfl (fun hb25 h=>?_) (fun hb25 h=>?_)
   ·refine rn 1 rfl ?_
    exact jX (a1.Kind==7) h (gr [0] rfl (hB rfl rfl rfl .nil) rfl)
   refine rn 4 rfl ?_
   exact jX (a1.Kind==8) h (gr [0] rfl (hB rfl rfl rfl .nil) rfl)
  intro b24 h
  refine spC h rfl (fun hb26 h=>?_) (fun hb26 h=>?_)
  ·refine rn 11 rfl ?_
   refine jK h (fun(p:(List UInt8))=>(⟨[(1,(V.ptr 0 6 0 0)),(3,(sV p))],[(0,(Ob.arr 42 6 [(encTTest a1)]))],1⟩:St)) (fun k27 p=>k27 p=some r) (fun k27 h=>?_) ?_
   ·refine spC h rfl (fun hb29 h=>?_) (fun hb29 h=>?_)
    ·refine rn 3 rfl ?_
     exact jX ([32,111,114,32]:List UInt8) h (gr [0] rfl (hB rfl rfl rfl .nil) rfl)
    refine rn 1 rfl ?_
    exact jX ([32,97,110,100,32]:List UInt8) h (gr [0] rfl (hB rfl rfl rfl .nil) rfl)
   intro s28 h
   refine rn 9 rfl ?_
   refine jK h (fun(p:(List UInt8))=>(⟨[(4,(sV p))],[],0⟩:St)) (fun k30 p=>k30 p=some r) (fun k30 h=>?_) ?_
   ·refine rn 1 rfl ?_
    refine ck h (fun hA48 h=>?_)
    refine lC (fun(p:(List UInt8)×Int)=>(⟨[(1,(V.ptr 0 6 0 0)),(3,(sV s28)),(4,(sV (p.1))),(5,(iV (p.2)))],[(0,(Ob.arr 42 6 [(encTTest a1)]))],1⟩:St)) (fun n p=>RC ((a1.Kids.length:Nat):Int) (fun tl nn=>M19_L1 R19 F a1 s28 k30 tl nn p.1=some r) n p.2) (fun p h=>RC.zero h) (Int.toNat ((a1.Kids.length:Nat):Int)+1) (([]:List UInt8),0) (RC.start h) (gr [0] rfl (hB rfl rfl rfl .nil) rfl) (fun n p h=>?_)
    obtain⟨s34,n35⟩:=p
    refine rn 6 rfl ?_
    refine ln rfl rfl ?_
    refine rn 2 rfl ?_
    refine spL rfl (fun hb36=>?_) (fun hb36=>?_)
    ·obtain⟨tl,h,hk1⟩:=RC.t hA48 h hb36
     unfold M19_L1 at h
     refine rn 9 rfl ?_
     refine jK h (fun(p:(List UInt8))=>(⟨[(1,(V.ptr 0 6 0 0)),(3,(sV s28)),(4,(sV p)),(5,(iV n35))],[(0,(Ob.arr 42 6 [(encTTest a1)]))],1⟩:St)) (fun k37 p=>k37 p=some r) (fun k37 h=>?_) ?_
     ·refine spC h rfl (fun hb39 h=>?_) (fun hb39 h=>?_)
      ·refine rn 3 rfl ?_
       refine ck h (fun hc40 h=>?_)
       refine aops_binT (str (s34++s28)) wants_none rfl rfl (if_pos hc40) rfl ?_
       refine fo (rn 2 rfl ?_)
       exact jX (s34++s28) h (gr [0] rfl (hB rfl rfl rfl .nil) rfl)
      refine rn 1 rfl ?_
      exact jX s34 h (gr [0] rfl (hB rfl rfl rfl .nil) rfl)
     intro s38 h
     obtain⟨x41,hx42,h⟩:=bind_some h
     obtain⟨y43,hx44,h⟩:=bind_some h
     obtain⟨y45,hx46,h⟩:=bind_some h
     refine ck h (fun hc47 h=>?_)
     refine dr mixed (vs 4 rfl (xD (OD.mk [(59,(V.lst 6 (a1.Kids.map KRow.row))),(60,(iV n35))] [] [(61,(V.iptr (encTTest y43) 0))] []) ⟨⟨rfl,rfl,trivial⟩,trivial⟩ (by exact fun S hn h hh=>aops_index_lst (encTTest y43) tSl40 wants_none h.1 h.2.1 (idx_some hx42).1 (idx_mapK hx42 hx44) rfl (aops_nil ⟨rfl,rfl⟩)) rfl (vs 3 rfl (cD rfl rfl rfl rfl (W44 R19 hR19 _ _ _ _ hx46) rfl (xD (OD.mk [(57,(sV s38)),(65,(sV y45))] [] [(66,(sV (s38++y45)))] []) ⟨⟨rfl,rfl,trivial⟩,trivial⟩ (by exact fun S hn h hh=>aops_binT (str (s38++y45)) wants_none h.1 h.2.1 (if_pos hc47) rfl (aops_nil ⟨rfl,rfl⟩)) rfl (vs 1 rfl .nil)))))) (by kernel_rfl) ?_
     refine rn 6 rfl ?_
     exact jX ((s38++y45),(w64 (n35+1))) (hk1 _ h) (gr [0] rfl (hB rfl rfl rfl .nil) rfl)
    replace h:=RC.f h hb36
    unfold M19_L1 at h
    refine rn 1 rfl ?_
    exact jX s34 h (g0 rfl rfl)
   intro s31 h
   refine rn 5 rfl ?_
   exact rt h rfl
  refine rn 2 rfl ?_
  exact jX () h (gr [0] rfl (hB rfl rfl rfl .nil) rfl)
 intro _ h
 refine rn 4 rfl ?_
 refine ck h (fun hc49 h=>?_)
 refine aops_binT (str (a1.Name++([32,105,115,32]:List UInt8))) wants_none rfl rfl (if_pos hc49) rfl ?_
 refine fo (rn 9 rfl ?_)
 refine jK h (fun(p:(List UInt8))=>(⟨[(1,(V.ptr 0 6 0 0)),(6,(sV p))],[(0,(Ob.arr 42 6 [(encTTest a1)]))],1⟩:St)) (fun k50 p=>k50 p=some r) (fun k50 h=>?_) ?_
 ·refine spC h rfl (fun hb52 h=>?_) (fun hb52 h=>?_)
  ·refine rn 3 rfl ?_
   refine ck h (fun hc53 h=>?_)
   refine aops_binT (str (a1.Name++([32,98,101,103,105,110,115,32]:List UInt8))) wants_none rfl rfl (if_pos hc53) rfl ?_
   refine fo (rn 2 rfl ?_)
   exact jX (a1.Name++([32,98,101,103,105,110,115,32]:List UInt8)) h (gr [0] rfl (hB rfl rfl rfl .nil) rfl)
  refine rn 1 rfl ?_
  exact jX (a1.Name++([32,105,115,32]:List UInt8)) h (gr [0] rfl (hB rfl rfl rfl .nil) rfl)
 intro s51 h
 refine rn 5 rfl ?_
 refine jK h (fun(p:(List UInt8))=>(⟨[(6,(sV p))],[],0⟩:St)) (fun k54 p=>k54 p=some r) (fun k54 h=>?_) ?_
 ·refine rn 1 rfl ?_
  refine ck h (fun hA70 h=>?_)
  refine lC (fun(p:(List UInt8)×Int)=>(⟨[(1,(V.ptr 0 6 0 0)),(6,(sV (p.1))),(7,(iV (p.2)))],[(0,(Ob.arr 42 6 [(encTTest a1)]))],1⟩:St)) (fun n p=>RC ((a1.Texts.length:Nat):Int) (fun tl nn=>M19_L2 F a1 k54 tl nn p.1=some r) n p.2) (fun p h=>RC.zero h) (Int.toNat ((a1.Texts.length:Nat):Int)+1) (s51,0) (RC.start h) (gr [0] rfl (hB rfl rfl rfl .nil) rfl) (fun n p h=>?_)
  obtain⟨s58,n59⟩:=p
  refine rn 6 rfl ?_
  refine ln rfl rfl ?_
  refine rn 2 rfl ?_
  refine spL rfl (fun hb60=>?_) (fun hb60=>?_)
  ·obtain⟨tl,h,hk2⟩:=RC.t hA70 h hb60
   unfold M19_L2 at h
   refine rn 9 rfl ?_
   refine jK h (fun(p:(List UInt8))=>(⟨[(1,(V.ptr 0 6 0 0)),(6,(sV p)),(7,(iV n59))],[(0,(Ob.arr 42 6 [(encTTest a1)]))],1⟩:St)) (fun k61 p=>k61 p=some r) (fun k61 h=>?_) ?_
   ·refine spC h rfl (fun hb63 h=>?_) (fun hb63 h=>?_)
    ·refine rn 2 rfl ?_
     refine ck h (fun hc64 h=>?_)
     refine aops_binT (str (s58++([44,32]:List UInt8))) wants_none rfl rfl (if_pos hc64) rfl ?_
     refine fo (rn 2 rfl ?_)
     exact jX (s58++([44,32]:List UInt8)) h (gr [0] rfl (hB rfl rfl rfl .nil) rfl)
    refine rn 1 rfl ?_
    exact jX s58 h (gr [0] rfl (hB rfl rfl rfl .nil) rfl)
   intro s62 h
   refine rn 5 rfl ?_
   refine ixl h rfl rfl (fun x65 hx66 h=>?_)
   refine rn 1 rfl ?_
   refine cl h rfl rfl rfl (W20 _ _) rfl (fun y67 hx68 h=>?_)
   refine ck h (fun hc69 h=>?_)
   refine aops_binT (str (s62++y67)) wants_none rfl rfl (if_pos hc69) rfl ?_
   refine fo (rn 8 rfl ?_)
   exact jX ((s62++y67),(w64 (n59+1))) (hk2 _ h) (gr [0] rfl (hB rfl rfl rfl .nil) rfl)
  replace h:=RC.f h hb60
  unfold M19_L2 at h
  refine rn 1 rfl ?_
  exact jX s58 h (g0 rfl rfl)
 intro s55 h
 refine rn 5 rfl ?_
 exact rt h rfl
theorem W19:∀(F:Nat) (a1:TTest) (r:(List UInt8)) (h:M19 F a1=some r),PureG gl Tryz.prog 19 [(V.agg (encTTest a1))] (sV r):=by
 intro F
 induction F with
 |zero=>intros;simp[M19] at *
 |succ F ih=>exact fun a1 r h=>W19_B (M19 F) ih F a1 r h
set_option maxHeartbeats 4000000 in
theorem W5(F:Nat)(a1:TPolicy)(r:((List UInt8)×Int))(h:M5 F a1=some r):PureG gl Tryz.prog 5 [(V.agg (encTPolicy a1))] (V.tup [(sV (r.1)),(iV (r.2))]):=by
 refine pin (fun r=>(V.tup [(sV (r.1)),(iV (r.2))])) r rfl Tryz.func5 rfl rfl rfl rfl rfl (fun w0 m0 hg=>?_)
 unfold M5 at h
 refine rn 10 rfl ?_
 refine cl h rfl rfl rfl (W17 _ _) rfl (fun y2 hx3 h=>?_)
 refine rn 7 rfl ?_
 refine spC h rfl (fun hb4 h=>?_) (fun hb4 h=>?_)
 ·refine rn 6 rfl ?_
  exact rt h rfl
 refine rn 10 rfl ?_
 refine jK h (fun(p:(List UInt8))=>(⟨[(1,(V.ptr 0 2 0 0)),(5,(sV p))],[(0,(Ob.arr 25 2 [(encTPolicy a1)]))],1⟩:St)) (fun k5 p=>k5 p=some r) (fun k5 h=>?_) ?_
 ·refine rn 1 rfl ?_
  refine ck h (fun hA27 h=>?_)
  refine lC (fun(p:(List UInt8)×Int)=>(⟨[(1,(V.ptr 0 2 0 0)),(5,(sV (p.1))),(6,(iV (p.2)))],[(0,(Ob.arr 25 2 [(encTPolicy a1)]))],1⟩:St)) (fun n p=>RC ((a1.Rules.length:Nat):Int) (fun tl nn=>M5_L1 F a1 k5 tl nn p.1=some r) n p.2) (fun p h=>RC.zero h) (Int.toNat ((a1.Rules.length:Nat):Int)+1) (([]:List UInt8),0) (RC.start h) (gr [0] rfl (hB rfl rfl rfl .nil) rfl) (fun n p h=>?_)
  obtain⟨s9,n10⟩:=p
  refine rn 6 rfl ?_
  refine ln rfl rfl ?_
  refine rn 2 rfl ?_
  refine spL rfl (fun hb11=>?_) (fun hb11=>?_)
  ·obtain⟨tl,h,hk1⟩:=RC.t hA27 h hb11
   unfold M5_L1 at h
   refine rn 8 rfl ?_
   refine ixl h rfl rfl (fun x12 hx13 h=>?_)
   refine rn 4 rfl ?_
   refine ck h (fun hc14 h=>?_)
   refine ck h (fun hc15 h=>?_)
   refine ck h (fun hc16 h=>?_)
   refine ck h (fun hc17 h=>?_)
   obtain⟨y18,hx19,h⟩:=bind_some h
   refine ck h (fun hc20 h=>?_)
   refine ck h (fun hc21 h=>?_)
   obtain⟨y22,hx23,h⟩:=bind_some h
   refine ck h (fun hc24 h=>?_)
   refine ck h (fun hc25 h=>?_)
   refine ck h (fun hc26 h=>?_)
   refine dr mixed (vs 3 rfl (xD (OD.mk [(29,(sV x12.Name))] [] [(30,(sV (([114,117,108,101,32]:List UInt8)++x12.Name)))] []) ⟨⟨rfl,trivial⟩,trivial⟩ (by exact fun S hn h hh=>aops_binT (str (([114,117,108,101,32]:List UInt8)++x12.Name)) wants_none rfl h.1 (if_pos hc14) rfl (aops_nil ⟨rfl,rfl⟩)) rfl (xD (OD.mk [(30,(sV (([114,117,108,101,32]:List UInt8)++x12.Name)))] [] [(31,(sV ((([114,117,108,101,32]:List UInt8)++x12.Name)++([32,97,98,111,117,116,32]:List UInt8))))] []) ⟨⟨rfl,trivial⟩,trivial⟩ (by exact fun S hn h hh=>aops_binT (str ((([114,117,108,101,32]:List UInt8)++x12.Name)++([32,97,98,111,117,116,32]:List UInt8))) wants_none h.1 rfl (if_pos hc15) rfl (aops_nil ⟨rfl,rfl⟩)) rfl (vs 2 rfl (xD (OD.mk [(31,(sV ((([114,117,108,101,32]:List UInt8)++x12.Name)++([32,97,98,111,117,116,32]:List UInt8)))),(33,(sV x12.About))] [] [(34,(sV (((([114,117,108,101,32]:List UInt8)++x12.Name)++([32,97,98,111,117,116,32]:List UInt8))++x12.About)))] []) ⟨⟨rfl,rfl,trivial⟩,trivial⟩ (by exact fun S hn h hh=>aops_binT (str (((([114,117,108,101,32]:List UInt8)++x12.Name)++([32,97,98,111,117,116,32]:List UInt8))++x12.About)) wants_none h.1 h.2.1 (if_pos hc16) rfl (aops_nil ⟨rfl,rfl⟩)) rfl (xD (OD.mk [(34,(sV (((([114,117,108,101,32]:List UInt8)++x12.Name)++([32,97,98,111,117,116,32]:List UInt8))++x12.About)))] [] [(35,(sV ((((([114,117,108,101,32]:List UInt8)++x12.Name)++([32,97,98,111,117,116,32]:List UInt8))++x12.About)++([32]:List UInt8))))] []) ⟨⟨rfl,trivial⟩,trivial⟩ (by exact fun S hn h hh=>aops_binT (str ((((([114,117,108,101,32]:List UInt8)++x12.Name)++([32,97,98,111,117,116,32]:List UInt8))++x12.About)++([32]:List UInt8))) wants_none h.1 rfl (if_pos hc17) rfl (aops_nil ⟨rfl,rfl⟩)) rfl (vs 2 rfl (cD rfl rfl rfl rfl (W18 _ _ _ hx19) rfl (xD (OD.mk [(35,(sV ((((([114,117,108,101,32]:List UInt8)++x12.Name)++([32,97,98,111,117,116,32]:List UInt8))++x12.About)++([32]:List UInt8)))),(38,(sV y18))] [] [(39,(sV (((((([114,117,108,101,32]:List UInt8)++x12.Name)++([32,97,98,111,117,116,32]:List UInt8))++x12.About)++([32]:List UInt8))++y18)))] []) ⟨⟨rfl,rfl,trivial⟩,trivial⟩ (by exact fun S hn h hh=>aops_binT (str (((((([114,117,108,101,32]:List UInt8)++x12.Name)++([32,97,98,111,117,116,32]:List UInt8))++x12.About)++([32]:List UInt8))++y18)) wants_none h.1 h.2.1 (if_pos hc20) rfl (aops_nil ⟨rfl,rfl⟩)) rfl (xD (OD.mk [(39,(sV (((((([114,117,108,101,32]:List UInt8)++x12.Name)++([32,97,98,111,117,116,32]:List UInt8))++x12.About)++([32]:List UInt8))++y18)))] [] [(40,(sV ((((((([114,117,108,101,32]:List UInt8)++x12.Name)++([32,97,98,111,117,116,32]:List UInt8))++x12.About)++([32]:List UInt8))++y18)++([32,119,104,101,110,32]:List UInt8))))] []) ⟨⟨rfl,trivial⟩,trivial⟩ (by exact fun S hn h hh=>aops_binT (str ((((((([114,117,108,101,32]:List UInt8)++x12.Name)++([32,97,98,111,117,116,32]:List UInt8))++x12.About)++([32]:List UInt8))++y18)++([32,119,104,101,110,32]:List UInt8))) wants_none h.1 rfl (if_pos hc21) rfl (aops_nil ⟨rfl,rfl⟩)) rfl (vs 2 rfl (cD rfl rfl rfl rfl (W19 _ _ _ hx23) rfl (xD (OD.mk [(40,(sV ((((((([114,117,108,101,32]:List UInt8)++x12.Name)++([32,97,98,111,117,116,32]:List UInt8))++x12.About)++([32]:List UInt8))++y18)++([32,119,104,101,110,32]:List UInt8)))),(43,(sV y22))] [] [(44,(sV (((((((([114,117,108,101,32]:List UInt8)++x12.Name)++([32,97,98,111,117,116,32]:List UInt8))++x12.About)++([32]:List UInt8))++y18)++([32,119,104,101,110,32]:List UInt8))++y22)))] []) ⟨⟨rfl,rfl,trivial⟩,trivial⟩ (by exact fun S hn h hh=>aops_binT (str (((((((([114,117,108,101,32]:List UInt8)++x12.Name)++([32,97,98,111,117,116,32]:List UInt8))++x12.About)++([32]:List UInt8))++y18)++([32,119,104,101,110,32]:List UInt8))++y22)) wants_none h.1 h.2.1 (if_pos hc24) rfl (aops_nil ⟨rfl,rfl⟩)) rfl (xD (OD.mk [(44,(sV (((((((([114,117,108,101,32]:List UInt8)++x12.Name)++([32,97,98,111,117,116,32]:List UInt8))++x12.About)++([32]:List UInt8))++y18)++([32,119,104,101,110,32]:List UInt8))++y22)))] [] [(45,(sV ((((((((([114,117,108,101,32]:List UInt8)++x12.Name)++([32,97,98,111,117,116,32]:List UInt8))++x12.About)++([32]:List UInt8))++y18)++([32,119,104,101,110,32]:List UInt8))++y22)++([10]:List UInt8))))] []) ⟨⟨rfl,trivial⟩,trivial⟩ (by exact fun S hn h hh=>aops_binT (str ((((((((([114,117,108,101,32]:List UInt8)++x12.Name)++([32,97,98,111,117,116,32]:List UInt8))++x12.About)++([32]:List UInt8))++y18)++([32,119,104,101,110,32]:List UInt8))++y22)++([10]:List UInt8))) wants_none h.1 rfl (if_pos hc25) rfl (aops_nil ⟨rfl,rfl⟩)) rfl (xD (OD.mk [(27,(sV s9)),(45,(sV ((((((((([114,117,108,101,32]:List UInt8)++x12.Name)++([32,97,98,111,117,116,32]:List UInt8))++x12.About)++([32]:List UInt8))++y18)++([32,119,104,101,110,32]:List UInt8))++y22)++([10]:List UInt8))))] [] [(46,(sV (s9++((((((((([114,117,108,101,32]:List UInt8)++x12.Name)++([32,97,98,111,117,116,32]:List UInt8))++x12.About)++([32]:List UInt8))++y18)++([32,119,104,101,110,32]:List UInt8))++y22)++([10]:List UInt8)))))] []) ⟨⟨rfl,rfl,trivial⟩,trivial⟩ (by exact fun S hn h hh=>aops_binT (str (s9++((((((((([114,117,108,101,32]:List UInt8)++x12.Name)++([32,97,98,111,117,116,32]:List UInt8))++x12.About)++([32]:List UInt8))++y18)++([32,119,104,101,110,32]:List UInt8))++y22)++([10]:List UInt8)))) wants_none h.1 h.2.1 (if_pos hc26) rfl (aops_nil ⟨rfl,rfl⟩)) rfl (vs 1 rfl .nil)))))))))))))))) (by kernel_rfl) ?_
   refine rn 6 rfl ?_
   exact jX ((s9++((((((((([114,117,108,101,32]:List UInt8)++x12.Name)++([32,97,98,111,117,116,32]:List UInt8))++x12.About)++([32]:List UInt8))++y18)++([32,119,104,101,110,32]:List UInt8))++y22)++([10]:List UInt8))),(w64 (n10+1))) (hk1 _ h) (gr [0] rfl (hB rfl rfl rfl .nil) rfl)
  replace h:=RC.f h hb11
  unfold M5_L1 at h
  refine rn 1 rfl ?_
  exact jX s9 h (gr [0] rfl (hB rfl rfl rfl .nil) rfl)
 intro s6 h
 refine rn 5 rfl ?_
 refine jK h (fun(p:(List UInt8))=>(⟨[(5,(sV p))],[],0⟩:St)) (fun k28 p=>k28 p=some r) (fun k28 h=>?_) ?_
 ·refine rn 1 rfl ?_
  refine ck h (fun hA58 h=>?_)
  refine lC (fun(p:(List UInt8)×Int)=>(⟨[(1,(V.ptr 0 2 0 0)),(5,(sV (p.1))),(8,(iV (p.2)))],[(0,(Ob.arr 25 2 [(encTPolicy a1)]))],1⟩:St)) (fun n p=>RC ((a1.Waivers.length:Nat):Int) (fun tl nn=>M5_L2 F a1 k28 tl nn p.1=some r) n p.2) (fun p h=>RC.zero h) (Int.toNat ((a1.Waivers.length:Nat):Int)+1) (s6,0) (RC.start h) (gr [0] rfl (hB rfl rfl rfl .nil) rfl) (fun n p h=>?_)
  obtain⟨s32,n33⟩:=p
  refine rn 6 rfl ?_
  refine ln rfl rfl ?_
  refine rn 2 rfl ?_
  refine spL rfl (fun hb34=>?_) (fun hb34=>?_)
  ·obtain⟨tl,h,hk2⟩:=RC.t hA58 h hb34
   unfold M5_L2 at h
   refine rn 8 rfl ?_
   refine ixl h rfl rfl (fun x35 hx36 h=>?_)
   refine rn 4 rfl ?_
   refine ck h (fun hc37 h=>?_)
   refine ck h (fun hc38 h=>?_)
   obtain⟨y39,hx40,h⟩:=bind_some h
   refine ck h (fun hc41 h=>?_)
   refine ck h (fun hc42 h=>?_)
   obtain⟨y43,hx44,h⟩:=bind_some h
   refine ck h (fun hc45 h=>?_)
   refine ck h (fun hc46 h=>?_)
   obtain⟨y47,hx48,h⟩:=bind_some h
   refine ck h (fun hc49 h=>?_)
   refine ck h (fun hc50 h=>?_)
   refine ck h (fun hc51 h=>?_)
   refine ck h (fun hc52 h=>?_)
   obtain⟨y53,hx54,h⟩:=bind_some h
   refine ck h (fun hc55 h=>?_)
   refine ck h (fun hc56 h=>?_)
   refine ck h (fun hc57 h=>?_)
   refine dr mixed (vs 3 rfl (xD (OD.mk [(61,(sV x35.Rule))] [] [(62,(sV (([119,97,105,118,101,32]:List UInt8)++x35.Rule)))] []) ⟨⟨rfl,trivial⟩,trivial⟩ (by exact fun S hn h hh=>aops_binT (str (([119,97,105,118,101,32]:List UInt8)++x35.Rule)) wants_none rfl h.1 (if_pos hc37) rfl (aops_nil ⟨rfl,rfl⟩)) rfl (xD (OD.mk [(62,(sV (([119,97,105,118,101,32]:List UInt8)++x35.Rule)))] [] [(63,(sV ((([119,97,105,118,101,32]:List UInt8)++x35.Rule)++([32,102,111,114,32]:List UInt8))))] []) ⟨⟨rfl,trivial⟩,trivial⟩ (by exact fun S hn h hh=>aops_binT (str ((([119,97,105,118,101,32]:List UInt8)++x35.Rule)++([32,102,111,114,32]:List UInt8))) wants_none h.1 rfl (if_pos hc38) rfl (aops_nil ⟨rfl,rfl⟩)) rfl (vs 2 rfl (cD rfl rfl rfl rfl (W20 _ _ _ hx40) rfl (xD (OD.mk [(63,(sV ((([119,97,105,118,101,32]:List UInt8)++x35.Rule)++([32,102,111,114,32]:List UInt8)))),(66,(sV y39))] [] [(67,(sV (((([119,97,105,118,101,32]:List UInt8)++x35.Rule)++([32,102,111,114,32]:List UInt8))++y39)))] []) ⟨⟨rfl,rfl,trivial⟩,trivial⟩ (by exact fun S hn h hh=>aops_binT (str (((([119,97,105,118,101,32]:List UInt8)++x35.Rule)++([32,102,111,114,32]:List UInt8))++y39)) wants_none h.1 h.2.1 (if_pos hc41) rfl (aops_nil ⟨rfl,rfl⟩)) rfl (xD (OD.mk [(67,(sV (((([119,97,105,118,101,32]:List UInt8)++x35.Rule)++([32,102,111,114,32]:List UInt8))++y39)))] [] [(68,(sV ((((([119,97,105,118,101,32]:List UInt8)++x35.Rule)++([32,102,111,114,32]:List UInt8))++y39)++([32,102,114,111,109,32]:List UInt8))))] []) ⟨⟨rfl,trivial⟩,trivial⟩ (by exact fun S hn h hh=>aops_binT (str ((((([119,97,105,118,101,32]:List UInt8)++x35.Rule)++([32,102,111,114,32]:List UInt8))++y39)++([32,102,114,111,109,32]:List UInt8))) wants_none h.1 rfl (if_pos hc42) rfl (aops_nil ⟨rfl,rfl⟩)) rfl (vs 2 rfl (cD rfl rfl rfl rfl (W14 _ _ _ hx44) rfl (xD (OD.mk [(68,(sV ((((([119,97,105,118,101,32]:List UInt8)++x35.Rule)++([32,102,111,114,32]:List UInt8))++y39)++([32,102,114,111,109,32]:List UInt8)))),(71,(sV y43))] [] [(72,(sV (((((([119,97,105,118,101,32]:List UInt8)++x35.Rule)++([32,102,111,114,32]:List UInt8))++y39)++([32,102,114,111,109,32]:List UInt8))++y43)))] []) ⟨⟨rfl,rfl,trivial⟩,trivial⟩ (by exact fun S hn h hh=>aops_binT (str (((((([119,97,105,118,101,32]:List UInt8)++x35.Rule)++([32,102,111,114,32]:List UInt8))++y39)++([32,102,114,111,109,32]:List UInt8))++y43)) wants_none h.1 h.2.1 (if_pos hc45) rfl (aops_nil ⟨rfl,rfl⟩)) rfl (xD (OD.mk [(72,(sV (((((([119,97,105,118,101,32]:List UInt8)++x35.Rule)++([32,102,111,114,32]:List UInt8))++y39)++([32,102,114,111,109,32]:List UInt8))++y43)))] [] [(73,(sV ((((((([119,97,105,118,101,32]:List UInt8)++x35.Rule)++([32,102,111,114,32]:List UInt8))++y39)++([32,102,114,111,109,32]:List UInt8))++y43)++([32,116,111,32]:List UInt8))))] []) ⟨⟨rfl,trivial⟩,trivial⟩ (by exact fun S hn h hh=>aops_binT (str ((((((([119,97,105,118,101,32]:List UInt8)++x35.Rule)++([32,102,111,114,32]:List UInt8))++y39)++([32,102,114,111,109,32]:List UInt8))++y43)++([32,116,111,32]:List UInt8))) wants_none h.1 rfl (if_pos hc46) rfl (aops_nil ⟨rfl,rfl⟩)) rfl (vs 2 rfl (cD rfl rfl rfl rfl (W14 _ _ _ hx48) rfl (xD (OD.mk [(73,(sV ((((((([119,97,105,118,101,32]:List UInt8)++x35.Rule)++([32,102,111,114,32]:List UInt8))++y39)++([32,102,114,111,109,32]:List UInt8))++y43)++([32,116,111,32]:List UInt8)))),(76,(sV y47))] [] [(77,(sV (((((((([119,97,105,118,101,32]:List UInt8)++x35.Rule)++([32,102,111,114,32]:List UInt8))++y39)++([32,102,114,111,109,32]:List UInt8))++y43)++([32,116,111,32]:List UInt8))++y47)))] []) ⟨⟨rfl,rfl,trivial⟩,trivial⟩ (by exact fun S hn h hh=>aops_binT (str (((((((([119,97,105,118,101,32]:List UInt8)++x35.Rule)++([32,102,111,114,32]:List UInt8))++y39)++([32,102,114,111,109,32]:List UInt8))++y43)++([32,116,111,32]:List UInt8))++y47)) wants_none h.1 h.2.1 (if_pos hc49) rfl (aops_nil ⟨rfl,rfl⟩)) rfl (xD (OD.mk [(77,(sV (((((((([119,97,105,118,101,32]:List UInt8)++x35.Rule)++([32,102,111,114,32]:List UInt8))++y39)++([32,102,114,111,109,32]:List UInt8))++y43)++([32,116,111,32]:List UInt8))++y47)))] [] [(78,(sV ((((((((([119,97,105,118,101,32]:List UInt8)++x35.Rule)++([32,102,111,114,32]:List UInt8))++y39)++([32,102,114,111,109,32]:List UInt8))++y43)++([32,116,111,32]:List UInt8))++y47)++([32,98,121,32]:List UInt8))))] []) ⟨⟨rfl,trivial⟩,trivial⟩ (by exact fun S hn h hh=>aops_binT (str ((((((((([119,97,105,118,101,32]:List UInt8)++x35.Rule)++([32,102,111,114,32]:List UInt8))++y39)++([32,102,114,111,109,32]:List UInt8))++y43)++([32,116,111,32]:List UInt8))++y47)++([32,98,121,32]:List UInt8))) wants_none h.1 rfl (if_pos hc50) rfl (aops_nil ⟨rfl,rfl⟩)) rfl (vs 2 rfl (xD (OD.mk [(78,(sV ((((((((([119,97,105,118,101,32]:List UInt8)++x35.Rule)++([32,102,111,114,32]:List UInt8))++y39)++([32,102,114,111,109,32]:List UInt8))++y43)++([32,116,111,32]:List UInt8))++y47)++([32,98,121,32]:List UInt8)))),(80,(sV x35.Owner))] [] [(81,(sV (((((((((([119,97,105,118,101,32]:List UInt8)++x35.Rule)++([32,102,111,114,32]:List UInt8))++y39)++([32,102,114,111,109,32]:List UInt8))++y43)++([32,116,111,32]:List UInt8))++y47)++([32,98,121,32]:List UInt8))++x35.Owner)))] []) ⟨⟨rfl,rfl,trivial⟩,trivial⟩ (by exact fun S hn h hh=>aops_binT (str (((((((((([119,97,105,118,101,32]:List UInt8)++x35.Rule)++([32,102,111,114,32]:List UInt8))++y39)++([32,102,114,111,109,32]:List UInt8))++y43)++([32,116,111,32]:List UInt8))++y47)++([32,98,121,32]:List UInt8))++x35.Owner)) wants_none h.1 h.2.1 (if_pos hc51) rfl (aops_nil ⟨rfl,rfl⟩)) rfl (xD (OD.mk [(81,(sV (((((((((([119,97,105,118,101,32]:List UInt8)++x35.Rule)++([32,102,111,114,32]:List UInt8))++y39)++([32,102,114,111,109,32]:List UInt8))++y43)++([32,116,111,32]:List UInt8))++y47)++([32,98,121,32]:List UInt8))++x35.Owner)))] [] [(82,(sV ((((((((((([119,97,105,118,101,32]:List UInt8)++x35.Rule)++([32,102,111,114,32]:List UInt8))++y39)++([32,102,114,111,109,32]:List UInt8))++y43)++([32,116,111,32]:List UInt8))++y47)++([32,98,121,32]:List UInt8))++x35.Owner)++([32,97,115,32]:List UInt8))))] []) ⟨⟨rfl,trivial⟩,trivial⟩ (by exact fun S hn h hh=>aops_binT (str ((((((((((([119,97,105,118,101,32]:List UInt8)++x35.Rule)++([32,102,111,114,32]:List UInt8))++y39)++([32,102,114,111,109,32]:List UInt8))++y43)++([32,116,111,32]:List UInt8))++y47)++([32,98,121,32]:List UInt8))++x35.Owner)++([32,97,115,32]:List UInt8))) wants_none h.1 rfl (if_pos hc52) rfl (aops_nil ⟨rfl,rfl⟩)) rfl (vs 2 rfl (cD rfl rfl rfl rfl (W18 _ _ _ hx54) rfl (xD (OD.mk [(82,(sV ((((((((((([119,97,105,118,101,32]:List UInt8)++x35.Rule)++([32,102,111,114,32]:List UInt8))++y39)++([32,102,114,111,109,32]:List UInt8))++y43)++([32,116,111,32]:List UInt8))++y47)++([32,98,121,32]:List UInt8))++x35.Owner)++([32,97,115,32]:List UInt8)))),(85,(sV y53))] [] [(86,(sV (((((((((((([119,97,105,118,101,32]:List UInt8)++x35.Rule)++([32,102,111,114,32]:List UInt8))++y39)++([32,102,114,111,109,32]:List UInt8))++y43)++([32,116,111,32]:List UInt8))++y47)++([32,98,121,32]:List UInt8))++x35.Owner)++([32,97,115,32]:List UInt8))++y53)))] []) ⟨⟨rfl,rfl,trivial⟩,trivial⟩ (by exact fun S hn h hh=>aops_binT (str (((((((((((([119,97,105,118,101,32]:List UInt8)++x35.Rule)++([32,102,111,114,32]:List UInt8))++y39)++([32,102,114,111,109,32]:List UInt8))++y43)++([32,116,111,32]:List UInt8))++y47)++([32,98,121,32]:List UInt8))++x35.Owner)++([32,97,115,32]:List UInt8))++y53)) wants_none h.1 h.2.1 (if_pos hc55) rfl (aops_nil ⟨rfl,rfl⟩)) rfl (xD (OD.mk [(86,(sV (((((((((((([119,97,105,118,101,32]:List UInt8)++x35.Rule)++([32,102,111,114,32]:List UInt8))++y39)++([32,102,114,111,109,32]:List UInt8))++y43)++([32,116,111,32]:List UInt8))++y47)++([32,98,121,32]:List UInt8))++x35.Owner)++([32,97,115,32]:List UInt8))++y53)))] [] [(87,(sV ((((((((((((([119,97,105,118,101,32]:List UInt8)++x35.Rule)++([32,102,111,114,32]:List UInt8))++y39)++([32,102,114,111,109,32]:List UInt8))++y43)++([32,116,111,32]:List UInt8))++y47)++([32,98,121,32]:List UInt8))++x35.Owner)++([32,97,115,32]:List UInt8))++y53)++([10]:List UInt8))))] []) ⟨⟨rfl,trivial⟩,trivial⟩ (by exact fun S hn h hh=>aops_binT (str ((((((((((((([119,97,105,118,101,32]:List UInt8)++x35.Rule)++([32,102,111,114,32]:List UInt8))++y39)++([32,102,114,111,109,32]:List UInt8))++y43)++([32,116,111,32]:List UInt8))++y47)++([32,98,121,32]:List UInt8))++x35.Owner)++([32,97,115,32]:List UInt8))++y53)++([10]:List UInt8))) wants_none h.1 rfl (if_pos hc56) rfl (aops_nil ⟨rfl,rfl⟩)) rfl (xD (OD.mk [(59,(sV s32)),(87,(sV ((((((((((((([119,97,105,118,101,32]:List UInt8)++x35.Rule)++([32,102,111,114,32]:List UInt8))++y39)++([32,102,114,111,109,32]:List UInt8))++y43)++([32,116,111,32]:List UInt8))++y47)++([32,98,121,32]:List UInt8))++x35.Owner)++([32,97,115,32]:List UInt8))++y53)++([10]:List UInt8))))] [] [(88,(sV (s32++((((((((((((([119,97,105,118,101,32]:List UInt8)++x35.Rule)++([32,102,111,114,32]:List UInt8))++y39)++([32,102,114,111,109,32]:List UInt8))++y43)++([32,116,111,32]:List UInt8))++y47)++([32,98,121,32]:List UInt8))++x35.Owner)++([32,97,115,32]:List UInt8))++y53)++([10]:List UInt8)))))] []) ⟨⟨rfl,rfl,trivial⟩,trivial⟩ (by exact fun S hn h hh=>aops_binT (str (s32++((((((((((((([119,97,105,118,101,32]:List UInt8)++x35.Rule)++([32,102,111,114,32]:List UInt8))++y39)++([32,102,114,111,109,32]:List UInt8))++y43)++([32,116,111,32]:List UInt8))++y47)++([32,98,121,32]:List UInt8))++x35.Owner)++([32,97,115,32]:List UInt8))++y53)++([10]:List UInt8)))) wants_none h.1 h.2.1 (if_pos hc57) rfl (aops_nil ⟨rfl,rfl⟩)) rfl (vs 1 rfl .nil)))))))))))))))))))))))) (by kernel_rfl) ?_
   refine rn 6 rfl ?_
   exact jX ((s32++((((((((((((([119,97,105,118,101,32]:List UInt8)++x35.Rule)++([32,102,111,114,32]:List UInt8))++y39)++([32,102,114,111,109,32]:List UInt8))++y43)++([32,116,111,32]:List UInt8))++y47)++([32,98,121,32]:List UInt8))++x35.Owner)++([32,97,115,32]:List UInt8))++y53)++([10]:List UInt8))),(w64 (n33+1))) (hk2 _ h) (gr [0] rfl (hB rfl rfl rfl .nil) rfl)
  replace h:=RC.f h hb34
  unfold M5_L2 at h
  refine rn 1 rfl ?_
  exact jX s32 h (g0 rfl rfl)
 intro s29 h
 refine rn 7 rfl ?_
 refine spC h rfl (fun hb59 h=>?_) (fun hb59 h=>?_)
 ·refine rn 5 rfl ?_
  exact rt h rfl
 refine rn 7 rfl ?_
 exact rt h rfl
theorem W6(F:Nat)(r:Bool)(h:M6 F=some r):PureG gl Tryz.prog 6 [] (bV r):=by
 unfold M6 at h
 replace h:=ae8 h
 subst h
 exact told_pure
theorem W48(F:Nat)(a1:Tpolicy_reader)(r:Int)(h:M48 F a1=some r):MutG gl Tryz.prog 48 [(V.ptr 0 7 0 0)] 1 [(0,(Ob.arr 73 7 [(encTpolicy_reader a1)]))] (resV []) 1 [(0,(Ob.arr 73 7 [[(sV a1.s),(iV r),(iV a1.now.kind),(sV a1.now.text),(iV a1.now.at_),(iV a1.at_),(iV a1.bad)]]))]:=by
 refine mut_enter Tryz.func48 rfl rfl (l:=[]) rfl rfl [(0,(V.ptr 0 7 0 0))] rfl (fun w0 m0 β0 hg=>en ?_)
 unfold M48 at h
 refine rn 1 rfl ?_
 refine lC (fun(p:Int)=>(⟨[(0,(V.ptr 0 7 0 0))],[(0,(Ob.arr 73 7 [[(sV a1.s),(iV p),(iV a1.now.kind),(sV a1.now.text),(iV a1.now.at_),(iV a1.at_),(iV a1.bad)]]))],1⟩:St)) (fun n p=>M48_L1 F a1 n p=some r) (fun p h=>by simp[M48_L1] at h) F a1.end_ h (gr [0] rfl (hB rfl rfl rfl .nil) rfl) (fun n n28 h=>?_)
 unfold M48_L1 at h
 refine rn 2 rfl ?_
 refine dr mixed (vs 10 rfl .nil) (by kernel_rfl) ?_
 refine spC h rfl (fun hb29 h=>?_) (fun hb29 h=>?_)
 ·refine rn 1 rfl ?_
  refine jK h (fun(p:Int)=>(⟨[(0,(V.ptr 0 7 0 0))],[(0,(Ob.arr 73 7 [[(sV a1.s),(iV p),(iV a1.now.kind),(sV a1.now.text),(iV a1.now.at_),(iV a1.at_),(iV a1.bad)]]))],1⟩:St)) (fun k30 p=>k30 p=some r) (fun k30 h=>?_) ?_
  ·obtain⟨c32,hx33,h⟩:=bind_some h
   refine rn 2 rfl ?_
   refine dr mixed (vs 8 rfl (xD (OD.mk [(16,(sV a1.s)),(20,(iV n28))] [] [(21,(V.con (.int .u8 (c32.toNat:Int))))] []) ⟨⟨rfl,rfl,trivial⟩,trivial⟩ (by exact fun S hn h hh=>aops_indexT c32 tStr9 wants_none h.1 h.2.1 (idx_some hx33).1 (idx_some hx33).2 rfl (aops_nil ⟨rfl,rfl⟩)) rfl (vs 1 rfl .nil))) (by kernel_rfl) ?_
   refine jK h (fun(p:Int)=>(⟨[(0,(V.ptr 0 7 0 0))],[(0,(Ob.arr 73 7 [[(sV a1.s),(iV p),(iV a1.now.kind),(sV a1.now.text),(iV a1.now.at_),(iV a1.at_),(iV a1.bad)]]))],1⟩:St)) (fun k34 p=>k34 p=some r) (fun k34 h=>?_) ?_
   ·refine rn 6 rfl ?_
    refine spO 25 h rfl (fun hb36 h=>?_) (fun hb36 h=>?_)
    ·refine rn 25 rfl ?_
     exact jX (w64 (n28+1)) h (gr [0] rfl (hB rfl rfl rfl .nil) rfl)
    refine rn 4 rfl ?_
    refine spO 29 h rfl (fun hb37 h=>?_) (fun hb37 h=>?_)
    ·refine rn 21 rfl ?_
     exact jX (w64 (n28+1)) h (gr [0] rfl (hB rfl rfl rfl .nil) rfl)
    refine rn 4 rfl ?_
    refine spO 33 h rfl (fun hb38 h=>?_) (fun hb38 h=>?_)
    ·refine rn 17 rfl ?_
     exact jX (w64 (n28+1)) h (gr [0] rfl (hB rfl rfl rfl .nil) rfl)
    refine rn 5 rfl ?_
    refine jK h (fun(p:Int)=>(⟨[(0,(V.ptr 0 7 0 0)),(27,(bV ((c32.toNat:Int)==9))),(31,(bV ((c32.toNat:Int)==10))),(35,(bV ((c32.toNat:Int)==13)))],[(0,(Ob.arr 73 7 [[(sV a1.s),(iV p),(iV a1.now.kind),(sV a1.now.text),(iV a1.now.at_),(iV a1.at_),(iV a1.bad)]]))],1⟩:St)) (fun k39 p=>k39 p=some r) (fun k39 h=>?_) ?_
    ·refine spC h rfl (fun hb41 h=>?_) (fun hb41 h=>?_)
     ·refine rn 10 rfl ?_
      exact jX (w64 (n28+1)) h (gr [0] rfl (hB rfl rfl rfl .nil) rfl)
     refine rn 6 rfl ?_
     refine spC h rfl (fun hb42 h=>?_) (fun hb42 h=>?_)
     ·refine jK h (fun(p:Int)=>(⟨[(0,(V.ptr 0 7 0 0)),(27,(bV ((c32.toNat:Int)==9))),(31,(bV ((c32.toNat:Int)==10))),(35,(bV ((c32.toNat:Int)==13)))],[(0,(Ob.arr 73 7 [[(sV a1.s),(iV p),(iV a1.now.kind),(sV a1.now.text),(iV a1.now.at_),(iV a1.at_),(iV a1.bad)]]))],1⟩:St)) (fun k43 p=>k43 p=some r) (fun k43 h=>?_) ?_
      ·refine rn 1 rfl ?_
       refine lC (fun(p:Int)=>(⟨[(0,(V.ptr 0 7 0 0)),(27,(bV ((c32.toNat:Int)==9))),(31,(bV ((c32.toNat:Int)==10))),(35,(bV ((c32.toNat:Int)==13)))],[(0,(Ob.arr 73 7 [[(sV a1.s),(iV p),(iV a1.now.kind),(sV a1.now.text),(iV a1.now.at_),(iV a1.at_),(iV a1.bad)]]))],1⟩:St)) (fun n p=>M48_L2 F a1 k43 n p=some r) (fun p h=>by simp[M48_L2] at h) F n28 h (gr [0] rfl (hB rfl rfl rfl .nil) rfl) (fun n n46 h=>?_)
       unfold M48_L2 at h
       refine rn 2 rfl ?_
       refine bs h (fun hb47 h=>?_) (fun hb47 h=>?_)
       ·obtain⟨c48,hx49,h⟩:=bind_some h
        refine dr mixed (vs 10 rfl (vb hb47 rfl (vs 8 rfl (xD (OD.mk [(57,(bV true)),(61,(sV a1.s)),(65,(iV n46))] [] [(66,(V.con (.int .u8 (c48.toNat:Int))))] []) ⟨⟨rfl,rfl,rfl,trivial⟩,trivial⟩ (by exact fun S hn h hh=>aops_indexT c48 tStr9 (wants_some (c:=true) (b:=true) 57 rfl h.1 rfl) h.2.1 h.2.2.1 (idx_some hx49).1 (idx_some hx49).2 rfl (aops_nil ⟨rfl,rfl⟩)) rfl (vs 2 rfl .nil))))) (by kernel_rfl) ?_
        refine spC h rfl (fun hb50 h=>?_) (fun hb50 h=>?_)
        ·refine rn 13 rfl ?_
         exact jX (w64 (n46+1)) h (gr [0] rfl (hB rfl rfl rfl .nil) rfl)
        refine rn 1 rfl ?_
        exact jX n46 h (gr [0] rfl (hB rfl rfl rfl .nil) rfl)
       refine dr mixed (vs 10 rfl (vb hb47 rfl (vs 11 rfl .nil))) (by kernel_rfl) ?_
       refine rn 2 rfl ?_
       exact jX n46 h (gr [0] rfl (hB rfl rfl rfl .nil) rfl)
      intro n44 h
      exact jX n44 h (gr [0] rfl (hB rfl rfl rfl .nil) rfl)
     replace h:=ae8 h
     subst h
     exact wR ⟨.inl rfl,[],(gr [0] rfl (hB rfl rfl rfl .nil) rfl),.nil⟩
    intro n40 h
    refine rn 1 rfl ?_
    exact jX n40 h (gr [0] rfl (hB rfl rfl rfl .nil) rfl)
   intro n35 h
   refine rn 1 rfl ?_
   exact jX n35 h (gr [0] rfl (hB rfl rfl rfl .nil) rfl)
  intro n31 h
  exact jX n31 h (gr [0] rfl (hB rfl rfl rfl .nil) rfl)
 refine rn 1 rfl ?_
 replace h:=ae8 h
 subst h
 exact wE ⟨.inr rfl,[],(gr [0] rfl (hB rfl rfl rfl .nil) rfl),.nil⟩
theorem W49(F:Nat)(a1:Int)(r:Bool)(h:M49 F a1=some r):PureG gl Tryz.prog 49 [(V.con (.int .u8 a1))] (bV r):=by
 refine pin (fun r=>(bV r)) r rfl Tryz.func49 rfl rfl rfl rfl rfl (fun w0 m0 hg=>?_)
 unfold M49 at h
 refine rn 9 rfl ?_
 refine spO 5 h rfl (fun hb2 h=>?_) (fun hb2 h=>?_)
 ·refine rn 4 rfl ?_
  refine spO 9 h rfl (fun hb3 h=>?_) (fun hb3 h=>?_)
  ·refine rn 13 rfl ?_
   exact rt h rfl
  refine rn 3 rfl ?_
  refine spO 12 h rfl (fun hb4 h=>?_) (fun hb4 h=>?_)
  ·refine rn 5 rfl ?_
   refine spO 17 h rfl (fun hb5 h=>?_) (fun hb5 h=>?_)
   ·refine rn 5 rfl ?_
    exact rt h rfl
   refine rn 5 rfl ?_
   exact rt h rfl
  refine rn 10 rfl ?_
  exact rt h rfl
 refine rn 7 rfl ?_
 refine spO 12 h rfl (fun hb6 h=>?_) (fun hb6 h=>?_)
 ·refine rn 5 rfl ?_
  refine spO 17 h rfl (fun hb7 h=>?_) (fun hb7 h=>?_)
  ·refine rn 5 rfl ?_
   exact rt h rfl
  refine rn 5 rfl ?_
  exact rt h rfl
 refine rn 10 rfl ?_
 exact rt h rfl
theorem W50(F:Nat)(a1:Tpolicy_reader)(r:((List UInt8)×Bool×Int))(h:M50 F a1=some r):MutG gl Tryz.prog 50 [(V.ptr 0 7 0 0)] 1 [(0,(Ob.arr 73 7 [(encTpolicy_reader a1)]))] (resV [(sV (r.1)),(bV (r.2.1))]) 1 [(0,(Ob.arr 73 7 [[(sV a1.s),(iV (r.2.2)),(iV a1.now.kind),(sV a1.now.text),(iV a1.now.at_),(iV a1.at_),(iV a1.bad)]]))]:=by
 refine mut_enter Tryz.func50 rfl rfl (l:=[.tmp 2,.tmp 3]) rfl rfl [(0,(V.ptr 0 7 0 0))] rfl (fun w0 m0 β0 hg=>en ?_)
 unfold M50 at h
 refine rn 19 rfl ?_
 refine jK h (fun _:Unit=>(⟨[],[(0,(Ob.arr 73 7 [(encTpolicy_reader a1)]))],1⟩:St)) (fun k32 (_:Unit)=>k32=some r) (fun k32 h=>?_) ?_
 ·refine rn 1 rfl ?_
  refine lC (fun(p:Int×(List Int))=>(⟨[(0,(V.ptr 0 7 0 0)),(4,(V.own 1 (p.2).length)),(5,(iV (p.1)))],[(0,(Ob.arr 73 7 [(encTpolicy_reader a1)])),(1,(Ob.arr 5 1 ((p.2).map encI_u8)))],2⟩:St)) (fun n p=>M50_L1 F a1 k32 n p.1 p.2=some r) (fun p h=>by simp[M50_L1] at h) F ((w64 (a1.end_+1)),([]:List Int)) h (Ghost.trans (ghost_nilE 4 5 1 rfl) (ghost_ren 2 (fun i=>([0,1]:List Nat).getD i 0) _ _ (by decide) (EnvSub.get (.cons (Sub.ptr rfl rfl) (.cons (Sub.ownE rfl rfl (by simp)) (.cons (Sub.imm (Imm.con _)) .nil)))) (HpSub.get (.cons rfl (ObSub.box (.cons (Sub.imm (Imm.con _)) (.cons (Sub.imm (Imm.con _)) (.cons (Sub.imm (Imm.con _)) (.cons (Sub.imm (Imm.con _)) (.cons (Sub.imm (Imm.con _)) (.cons (Sub.imm (Imm.con _)) (.cons (Sub.imm (Imm.con _)) .nil)))))))) (.cons rfl (ObSub.rows (rows_imm imms_encI_u8)) .nil))) rfl)) (fun n p h=>?_)
  obtain⟨n35,l36⟩:=p
  unfold M50_L1 at h
  refine rn 11 rfl ?_
  refine spC h rfl (fun hb37 h=>?_) (fun hb37 h=>?_)
  ·refine rn 10 rfl ?_
   refine ixs h rfl rfl (fun c38 hx39 h=>?_)
   refine rn 10 rfl ?_
   refine jK h (fun(p:Int×Int)=>(⟨[(0,(V.ptr 0 7 0 0)),(4,(V.own 1 l36.length)),(5,(iV (p.1))),(6,(V.con (.int .u8 (p.2)))),(42,(bV (decide ((c38.toNat:Int)>126))))],[(0,(Ob.arr 73 7 [(encTpolicy_reader a1)])),(1,(Ob.arr 5 1 (l36.map encI_u8)))],2⟩:St)) (fun k40 p=>k40 p.1 p.2=some r) (fun k40 h=>?_) ?_
   ·refine spC h rfl (fun hb43 h=>?_) (fun hb43 h=>?_)
    ·refine rn 12 rfl ?_
     refine aops_ghost (ghost_frzEs 1 [35,4] rfl (rows_imm imms_encI_u8) (by8.2 ⟨rfl,(by8.2 ⟨rfl,(fun _ hx=>nomatch hx)⟩)⟩) (bb8 ..).symm) ?_
     refine aops_bytesStr l36 tBy36 tStr9 wants_none rfl rfl ?_
     refine fo (rn 3 rfl ?_)
     replace h:=ae8 h
     subst h
     exact wR ⟨.inl rfl,[(2,(sV (l36.map fun n=>UInt8.ofNat n.toNat))),(3,(bV true))],(gr [0] rfl (hB rfl rfl rfl .nil) rfl),(.cons (.tmp rfl) (.cons (.tmp rfl) .nil))⟩
    refine rn 5 rfl ?_
    refine spO 40 h rfl (fun hb44 h=>?_) (fun hb44 h=>?_)
    ·refine rn 11 rfl ?_
     replace h:=ae8 h
     subst h
     exact wR ⟨.inl rfl,[(2,(sV ([]:List UInt8))),(3,(bV false))],(gr [0] rfl (hB rfl rfl rfl .nil) rfl),(.cons (.tmp rfl) (.cons (.tmp rfl) .nil))⟩
    refine rn 5 rfl ?_
    refine spC h rfl (fun hb45 h=>?_) (fun hb45 h=>?_)
    ·refine rn 5 rfl ?_
     replace h:=ae8 h
     subst h
     exact wR ⟨.inl rfl,[(2,(sV ([]:List UInt8))),(3,(bV false))],(gr [0] rfl (hB rfl rfl rfl .nil) rfl),(.cons (.tmp rfl) (.cons (.tmp rfl) .nil))⟩
    refine rn 6 rfl ?_
    refine spC h rfl (fun hb46 h=>?_) (fun hb46 h=>?_)
    ·refine rn 17 rfl ?_
     refine spO 56 h rfl (fun hb47 h=>?_) (fun hb47 h=>?_)
     ·refine rn 24 rfl ?_
      replace h:=ae8 h
      subst h
      exact wR ⟨.inl rfl,[(2,(sV ([]:List UInt8))),(3,(bV false))],(gr [0] rfl (hB rfl rfl rfl .nil) rfl),(.cons (.tmp rfl) (.cons (.tmp rfl) .nil))⟩
     refine rn 5 rfl ?_
     refine ixs h rfl rfl (fun c48 hx49 h=>?_)
     refine rn 2 rfl ?_
     refine spO 64 h rfl (fun hb50 h=>?_) (fun hb50 h=>?_)
     ·refine rn 5 rfl ?_
      refine ixs h rfl rfl (fun c51 hx52 h=>?_)
      refine rn 4 rfl ?_
      refine spC h rfl (fun hb53 h=>?_) (fun hb53 h=>?_)
      ·refine rn 5 rfl ?_
       replace h:=ae8 h
       subst h
       exact wR ⟨.inl rfl,[(2,(sV ([]:List UInt8))),(3,(bV false))],(gr [0] rfl (hB rfl rfl rfl .nil) rfl),(.cons (.tmp rfl) (.cons (.tmp rfl) .nil))⟩
      refine rn 7 rfl ?_
      refine ixs h rfl rfl (fun c54 hx55 h=>?_)
      refine rn 2 rfl ?_
      exact jX ((w64 (n35+1)),(c54.toNat:Int)) h (gr [0,1] rfl (hB rfl rfl rfl (hR rfl rfl .nil)) rfl)
     refine rn 18 rfl ?_
     refine ixs h rfl rfl (fun c56 hx57 h=>?_)
     refine rn 2 rfl ?_
     exact jX ((w64 (n35+1)),(c56.toNat:Int)) h (gr [0,1] rfl (hB rfl rfl rfl (hR rfl rfl .nil)) rfl)
    refine rn 1 rfl ?_
    exact jX (n35,(c38.toNat:Int)) h (gr [0,1] rfl (hB rfl rfl rfl (hR rfl rfl .nil)) rfl)
   rintro⟨n41,n42⟩ h
   refine rn 4 rfl ?_
   refine aops_buildSlice [(0,(V.con (.int .u8 n42)))] [[(V.con (.int .u8 n42))]] tEl36 tZ5 rfl rfl rfl rfl wants_none (evp_cons rfl evp_nil) rfl rfl (by simp) rfl ?_
   refine fo ?_
   refine apO encI_u8 h rfl rfl rfl rfl rfl rfl rfl rfl (fun h=>?_)
   refine rn 8 rfl ?_
   exact jX ((w64 (n41+1)),(l36++([n42]:List Int))) h (gr [0,3] rfl (hB rfl rfl rfl (hR rfl rfl .nil)) rfl)
  refine rn 1 rfl ?_
  exact jX () h (gr [0] rfl (hB rfl rfl rfl .nil) rfl)
 intro _ h
 refine rn 5 rfl ?_
 replace h:=ae8 h
 subst h
 exact wR ⟨.inl rfl,[(2,(sV ([]:List UInt8))),(3,(bV false))],(gr [0] rfl (hB rfl rfl rfl .nil) rfl),(.cons (.tmp rfl) (.cons (.tmp rfl) .nil))⟩
theorem W26(F:Nat)(a1:Int)(a2:Int)(a3:Tpolicy_reader)(r:(Int×Int))(h:M26 F a1 a2 a3=some r):MutG gl Tryz.prog 26 [(V.ptr 0 7 0 0),(iV a1),(iV a2)] 1 [(0,(Ob.arr 73 7 [(encTpolicy_reader a3)]))] (resV []) 1 [(0,(Ob.arr 73 7 [[(sV a3.s),(iV a3.end_),(iV a3.now.kind),(sV a3.now.text),(iV a3.now.at_),(iV (r.1)),(iV (r.2))]]))]:=by
 refine mut_enter Tryz.func26 rfl rfl (l:=[]) rfl rfl [(0,(V.ptr 0 7 0 0)),(1,(iV a1)),(2,(iV a2))] rfl (fun w0 m0 β0 hg=>en ?_)
 unfold M26 at h
 refine rn 8 rfl ?_
 refine spC h rfl (fun hb7 h=>?_) (fun hb7 h=>?_)
 ·refine rn 12 rfl ?_
  replace h:=ae8 h
  subst h
  exact wE ⟨.inr rfl,[],(gr [0] rfl (hB rfl rfl rfl .nil) rfl),.nil⟩
 refine rn 1 rfl ?_
 replace h:=ae8 h
 subst h
 exact wE ⟨.inr rfl,[],(gr [0] rfl (hB rfl rfl rfl .nil) rfl),.nil⟩
theorem W79(F:Nat)(a1:(List UInt8))(a2:(List UInt8))(r:Bool)(h:M79 F a1 a2=some r):PureG gl Tryz.prog 79 [(sV a1),(sV a2)] (bV r):=by
 refine pin (fun r=>(bV r)) r rfl Tryz.func79 rfl rfl rfl rfl rfl (fun w0 m0 hg=>?_)
 unfold M79 at h
 refine rn 12 rfl ?_
 refine spO 10 h rfl (fun hb3 h=>?_) (fun hb3 h=>?_)
 ·refine rn 3 rfl ?_
  refine ck h (fun hc4 h=>?_)
  refine aops_sliceT (0) ((a2.length:Int).toNat) (a1.take (a2.length:Int).toNat) tStr9 (wants_some (c:=true) (b:=true) 10 rfl rfl rfl) rfl rfl ⟨_,(by rw[Int.toNat_of_nonneg hc4.1];exact rfl)⟩ (af8 _) hc4.2 slT_lo rfl ?_
  refine fo (rn 5 rfl ?_)
  exact rt h rfl
 refine rn 9 rfl ?_
 exact rt h rfl
theorem W51(F:Nat)(a1:(List UInt8))(a2:(List UInt8))(r:Bool)(h:M51 F a1 a2=some r):PureG gl Tryz.prog 51 [(sV a1),(sV a2)] (bV r):=by
 refine pin (fun r=>(bV r)) r rfl Tryz.func51 rfl rfl rfl rfl rfl (fun w0 m0 hg=>?_)
 unfold M51 at h
 refine rn 8 rfl ?_
 refine cl h rfl rfl rfl (W79 _ _ _) rfl (fun y3 hx4 h=>?_)
 refine rn 2 rfl ?_
 exact rt h rfl
theorem W22(F:Nat)(a1:Tpolicy_reader)(r:(Int×Int×(List UInt8)×Int×Int×Int))(h:M22 F a1=some r):MutG gl Tryz.prog 22 [(V.ptr 0 7 0 0)] 1 [(0,(Ob.arr 73 7 [(encTpolicy_reader a1)]))] (resV []) 1 [(0,(Ob.arr 73 7 [[(sV a1.s),(iV (r.1)),(iV (r.2.1)),(sV (r.2.2.1)),(iV (r.2.2.2.1)),(iV (r.2.2.2.2.1)),(iV (r.2.2.2.2.2))]]))]:=by
 refine mut_enter Tryz.func22 rfl rfl (l:=[]) rfl rfl [(0,(V.ptr 0 7 0 0))] rfl (fun w0 m0 β0 hg=>en ?_)
 unfold M22 at h
 obtain⟨y70,hx71,h⟩:=bind_some h
 refine rn 3 rfl ?_
 refine aops_mcallS (V.tup []) [(V.ptr 0 7 0 0)] (fun i=>([0]:List Nat).getD i 0) (fun i=>([0]:List Nat).getD i 0) 1 1 [(0,(Ob.arr 73 7 [[(sV a1.s),(iV y70),(iV a1.now.kind),(sV a1.now.text),(iV a1.now.at_),(iV a1.at_),(iV a1.bad)]]))] fOk48 wants_none rfl (evm_cons rfl evm_nil) (.cons (Sub.ptr rfl rfl) .nil) (.cons rfl (ObSub.box (.cons (Sub.imm (Imm.con _)) (.cons (Sub.imm (Imm.con _)) (.cons (Sub.imm (Imm.con _)) (.cons (Sub.imm (Imm.con _)) (.cons (Sub.imm (Imm.con _)) (.cons (Sub.imm (Imm.con _)) (.cons (Sub.imm (Imm.con _)) .nil)))))))) .nil) (W48 F a1 y70 hx71) rfl rfl rfl rfl (Sub.immT (Imm.tup .nil)) (.cons rfl (ObSub.box (.cons (Sub.immT (Imm.con _)) (.cons (Sub.immT (Imm.con _)) (.cons (Sub.immT (Imm.con _)) (.cons (Sub.immT (Imm.con _)) (.cons (Sub.immT (Imm.con _)) (.cons (Sub.immT (Imm.con _)) (.cons (Sub.immT (Imm.con _)) .nil)))))))) .nil) _ rfl ?_
 refine fo (rn 12 rfl ?_)
 refine jK h (fun(p:Int×Int×Int×Int×(List UInt8))=>(⟨[(0,(V.ptr 0 7 0 0)),(2,(V.ptr 1 3 0 0))],[(0,(Ob.arr 73 7 [[(sV a1.s),(iV (p.1)),(iV a1.now.kind),(sV a1.now.text),(iV a1.now.at_),(iV (p.2.1)),(iV (p.2.2.1))]])),(1,(Ob.arr 71 3 [[(iV (p.2.2.2.1)),(sV (p.2.2.2.2)),(iV y70)]]))],2⟩:St)) (fun k72 p=>k72 p.1 p.2.1 p.2.2.1 p.2.2.2.1 p.2.2.2.2=some r) (fun k72 h=>?_) ?_
 ·refine rn 2 rfl ?_
  refine dr mixed (vs 11 rfl .nil) (by kernel_rfl) ?_
  refine jK h (fun(p:Int×Int×Int×Int×(List UInt8))=>(⟨[(0,(V.ptr 0 7 0 0)),(2,(V.ptr 1 3 0 0))],[(0,(Ob.arr 73 7 [[(sV a1.s),(iV (p.1)),(iV a1.now.kind),(sV a1.now.text),(iV a1.now.at_),(iV (p.2.1)),(iV (p.2.2.1))]])),(1,(Ob.arr 71 3 [[(iV (p.2.2.2.1)),(sV (p.2.2.2.2)),(iV y70)]]))],2⟩:St)) (fun k78 p=>k78 p.1 p.2.1 p.2.2.1 p.2.2.2.1 p.2.2.2.2=some r) (fun k78 h=>?_) ?_
  ·refine spC h rfl (fun hb84 h=>?_) (fun hb84 h=>?_)
   ·refine rn 1 rfl ?_
    exact jX (y70,a1.at_,a1.bad,0,([]:List UInt8)) h (gr [0,1] rfl (hB rfl rfl rfl (hB rfl rfl rfl .nil)) rfl)
   obtain⟨c85,hx86,h⟩:=bind_some h
   obtain⟨y87,hx88,h⟩:=bind_some h
   refine rn 1 rfl ?_
   refine dr mixed (vs 8 rfl (xD (OD.mk [(82,(sV a1.s)),(86,(iV y70))] [] [(87,(V.con (.int .u8 (c85.toNat:Int))))] []) ⟨⟨rfl,rfl,trivial⟩,trivial⟩ (by exact fun S hn h hh=>aops_indexT c85 tStr9 wants_none h.1 h.2.1 (idx_some hx86).1 (idx_some hx86).2 rfl (aops_nil ⟨rfl,rfl⟩)) rfl (cD rfl rfl rfl rfl (W49 _ _ _ hx88) rfl (vs 1 rfl .nil)))) (by kernel_rfl) ?_
   refine spC h rfl (fun hb89 h=>?_) (fun hb89 h=>?_)
   ·refine rn 9 rfl ?_
    refine jK h (fun(p:Int)=>(⟨[(0,(V.ptr 0 7 0 0)),(2,(V.ptr 1 3 0 0)),(3,(iV p))],[(0,(Ob.arr 73 7 [[(sV a1.s),(iV y70),(iV a1.now.kind),(sV a1.now.text),(iV a1.now.at_),(iV a1.at_),(iV a1.bad)]])),(1,(Ob.arr 71 3 [[(iV 0),(sV ([]:List UInt8)),(iV y70)]]))],2⟩:St)) (fun k90 p=>k90 p=some r) (fun k90 h=>?_) ?_
    ·refine rn 1 rfl ?_
     refine lC (fun(p:Int)=>(⟨[(0,(V.ptr 0 7 0 0)),(2,(V.ptr 1 3 0 0)),(3,(iV p))],[(0,(Ob.arr 73 7 [[(sV a1.s),(iV y70),(iV a1.now.kind),(sV a1.now.text),(iV a1.now.at_),(iV a1.at_),(iV a1.bad)]])),(1,(Ob.arr 71 3 [[(iV 0),(sV ([]:List UInt8)),(iV y70)]]))],2⟩:St)) (fun n p=>M22_L1 F a1 k90 n p=some r) (fun p h=>by simp[M22_L1] at h) F y70 h (gr [0,1] rfl (hB rfl rfl rfl (hB rfl rfl rfl .nil)) rfl) (fun n n93 h=>?_)
     unfold M22_L1 at h
     refine rn 11 rfl ?_
     refine spO 100 h rfl (fun hb94 h=>?_) (fun hb94 h=>?_)
     ·refine rn 5 rfl ?_
      refine ixs h rfl rfl (fun c95 hx96 h=>?_)
      refine cl h rfl rfl rfl (W49 _ _) rfl (fun y97 hx98 h=>?_)
      refine rn 2 rfl ?_
      refine spC h rfl (fun hb99 h=>?_) (fun hb99 h=>?_)
      ·refine rn 8 rfl ?_
       exact jX (w64 (n93+1)) h (gr [0,1] rfl (hB rfl rfl rfl (hB rfl rfl rfl .nil)) rfl)
      refine rn 1 rfl ?_
      exact jX n93 h (gr [0,1] rfl (hB rfl rfl rfl (hB rfl rfl rfl .nil)) rfl)
     refine rn 11 rfl ?_
     exact jX n93 h (gr [0,1] rfl (hB rfl rfl rfl (hB rfl rfl rfl .nil)) rfl)
    intro n91 h
    refine ck h (fun hc100 h=>?_)
    refine dr mixed (vs 10 rfl (xD (OD.mk [(115,(sV a1.s)),(119,(iV y70)),(120,(iV n91))] [] [(121,(sV ((a1.s.drop y70.toNat).take (n91.toNat - y70.toNat))))] []) ⟨⟨rfl,rfl,rfl,trivial⟩,trivial⟩ (by exact fun S hn h hh=>aops_sliceT (y70.toNat) (n91.toNat) ((a1.s.drop y70.toNat).take (n91.toNat - y70.toNat)) tStr9 wants_none h.1 ⟨_,(by rw[Int.toNat_of_nonneg hc100.1];exact h.2.1)⟩ ⟨_,(by rw[Int.toNat_of_nonneg hc100.2.1];exact h.2.2.1)⟩ hc100.2.2.1 hc100.2.2.2 rfl rfl (aops_nil ⟨rfl,rfl⟩)) rfl (vs 8 rfl .nil))) (by kernel_rfl) ?_
    exact jX (n91,a1.at_,a1.bad,1,((a1.s.drop y70.toNat).take (n91.toNat - y70.toNat))) h (gr [0,1] rfl (hB rfl rfl rfl (hB rfl rfl rfl .nil)) rfl)
   obtain⟨c101,hx102,h⟩:=bind_some h
   refine rn 1 rfl ?_
   refine dr mixed (vs 8 rfl (xD (OD.mk [(131,(sV a1.s)),(135,(iV y70))] [] [(136,(V.con (.int .u8 (c101.toNat:Int))))] []) ⟨⟨rfl,rfl,trivial⟩,trivial⟩ (by exact fun S hn h hh=>aops_indexT c101 tStr9 wants_none h.1 h.2.1 (idx_some hx102).1 (idx_some hx102).2 rfl (aops_nil ⟨rfl,rfl⟩)) rfl (vs 2 rfl .nil))) (by kernel_rfl) ?_
   refine spC h rfl (fun hb103 h=>?_) (fun hb103 h=>?_)
   ·obtain⟨y104,hx105,h⟩:=bind_some h
    refine rn 3 rfl ?_
    refine aops_mcallS (V.tup [(sV (y104.1)),(bV (y104.2.1))]) [(V.ptr 0 7 0 0)] (fun i=>([0]:List Nat).getD i 0) (fun i=>([0]:List Nat).getD i 0) 2 2 [(0,(Ob.arr 73 7 [[(sV a1.s),(iV (y104.2.2)),(iV a1.now.kind),(sV a1.now.text),(iV a1.now.at_),(iV a1.at_),(iV a1.bad)]]))] fOk50 wants_none rfl (evm_cons rfl evm_nil) (.cons (Sub.ptr rfl rfl) .nil) (.cons rfl (ObSub.box (.cons (Sub.imm (Imm.con _)) (.cons (Sub.imm (Imm.con _)) (.cons (Sub.imm (Imm.con _)) (.cons (Sub.imm (Imm.con _)) (.cons (Sub.imm (Imm.con _)) (.cons (Sub.imm (Imm.con _)) (.cons (Sub.imm (Imm.con _)) .nil)))))))) .nil) (W50 F (Tpolicy_reader.mk a1.s y70 a1.now a1.at_ a1.bad) y104 hx105) rfl rfl rfl rfl (Sub.immT (Imm.tup (.cons (Imm.con _) (.cons (Imm.con _) .nil)))) (.cons rfl (ObSub.box (.cons (Sub.immT (Imm.con _)) (.cons (Sub.immT (Imm.con _)) (.cons (Sub.immT (Imm.con _)) (.cons (Sub.immT (Imm.con _)) (.cons (Sub.immT (Imm.con _)) (.cons (Sub.immT (Imm.con _)) (.cons (Sub.immT (Imm.con _)) .nil)))))))) .nil) _ rfl ?_
    refine fo (rn 12 rfl ?_)
    refine jK h (fun(p:Int×Int)=>(⟨[(0,(V.ptr 0 7 0 0)),(2,(V.ptr 1 3 0 0)),(4,(sV (y104.1)))],[(0,(Ob.arr 73 7 [[(sV a1.s),(iV (y104.2.2)),(iV a1.now.kind),(sV a1.now.text),(iV a1.now.at_),(iV (p.1)),(iV (p.2))]])),(1,(Ob.arr 71 3 [[(iV 0),(sV ([]:List UInt8)),(iV y70)]]))],2⟩:St)) (fun k106 p=>k106 p.1 p.2=some r) (fun k106 h=>?_) ?_
    ·refine spC h rfl (fun hb109 h=>?_) (fun hb109 h=>?_)
     ·obtain⟨y110,hx111,h⟩:=bind_some h
      refine rn 4 rfl ?_
      refine aops_mcallS (V.tup []) [(V.ptr 0 7 0 0),(iV y70),(iV 6)] (fun i=>([0]:List Nat).getD i 0) (fun i=>([0]:List Nat).getD i 0) 2 2 [(0,(Ob.arr 73 7 [[(sV a1.s),(iV (y104.2.2)),(iV a1.now.kind),(sV a1.now.text),(iV a1.now.at_),(iV (y110.1)),(iV (y110.2))]]))] fOk26 wants_none rfl (evm_cons rfl (evm_cons rfl (evm_cons rfl evm_nil))) (.cons (Sub.ptr rfl rfl) (.cons (Sub.imm (Imm.con _)) (.cons (Sub.imm (Imm.con _)) .nil))) (.cons rfl (ObSub.box (.cons (Sub.imm (Imm.con _)) (.cons (Sub.imm (Imm.con _)) (.cons (Sub.imm (Imm.con _)) (.cons (Sub.imm (Imm.con _)) (.cons (Sub.imm (Imm.con _)) (.cons (Sub.imm (Imm.con _)) (.cons (Sub.imm (Imm.con _)) .nil)))))))) .nil) (W26 F y70 6 (Tpolicy_reader.mk a1.s (y104.2.2) a1.now a1.at_ a1.bad) y110 hx111) rfl rfl rfl rfl (Sub.immT (Imm.tup .nil)) (.cons rfl (ObSub.box (.cons (Sub.immT (Imm.con _)) (.cons (Sub.immT (Imm.con _)) (.cons (Sub.immT (Imm.con _)) (.cons (Sub.immT (Imm.con _)) (.cons (Sub.immT (Imm.con _)) (.cons (Sub.immT (Imm.con _)) (.cons (Sub.immT (Imm.con _)) .nil)))))))) .nil) _ rfl ?_
      refine fo (rn 1 rfl ?_)
      exact jX ((y110.1),(y110.2)) h (gr [0,1] rfl (hB rfl rfl rfl (hB rfl rfl rfl .nil)) rfl)
     refine rn 1 rfl ?_
     exact jX (a1.at_,a1.bad) h (gr [0,1] rfl (hB rfl rfl rfl (hB rfl rfl rfl .nil)) rfl)
    rintro⟨n107,n108⟩ h
    refine rn 7 rfl ?_
    exact jX ((y104.2.2),n107,n108,2,(y104.1)) h (gr [0,1] rfl (hB rfl rfl rfl (hB rfl rfl rfl .nil)) rfl)
   refine rn 7 rfl ?_
   refine aops_buildSlice [(0,(sV ([60,61]:List UInt8))),(1,(sV ([62,61]:List UInt8))),(2,(sV ([60]:List UInt8))),(3,(sV ([62]:List UInt8))),(4,(sV ([61]:List UInt8))),(5,(sV ([40]:List UInt8))),(6,(sV ([41]:List UInt8))),(7,(sV ([44]:List UInt8)))] [[(sV ([60,61]:List UInt8))],[(sV ([62,61]:List UInt8))],[(sV ([60]:List UInt8))],[(sV ([62]:List UInt8))],[(sV ([61]:List UInt8))],[(sV ([40]:List UInt8))],[(sV ([41]:List UInt8))],[(sV ([44]:List UInt8))]] tEl39 tZ9 rfl rfl rfl rfl wants_none (evp_cons rfl (evp_cons rfl (evp_cons rfl (evp_cons rfl (evp_cons rfl (evp_cons rfl (evp_cons rfl (evp_cons rfl evp_nil)))))))) rfl rfl (by simp) rfl ?_
   refine fo (rn 3 rfl ?_)
   refine jK h (fun(p:Int)=>(⟨[(0,(V.ptr 0 7 0 0)),(2,(V.ptr 1 3 0 0)),(6,(iV p))],[(0,(Ob.arr 73 7 [[(sV a1.s),(iV y70),(iV a1.now.kind),(sV a1.now.text),(iV a1.now.at_),(iV a1.at_),(iV a1.bad)]])),(1,(Ob.arr 71 3 [[(iV 0),(sV ([]:List UInt8)),(iV y70)]]))],2⟩:St)) (fun k112 p=>k112 p=some r) (fun k112 h=>?_) ?_
   ·refine rn 1 rfl ?_
    refine ck h (fun hA123 h=>?_)
    refine lC (fun(p:Int)=>(⟨[(0,(V.ptr 0 7 0 0)),(2,(V.ptr 1 3 0 0)),(6,(iV 0)),(16,(V.own 2 ([([60,61]:List UInt8),([62,61]:List UInt8),([60]:List UInt8),([62]:List UInt8),([61]:List UInt8),([40]:List UInt8),([41]:List UInt8),([44]:List UInt8)]:List (List UInt8)).length)),(17,(iV ((8:Nat):Int))),(18,(iV p))],[(0,(Ob.arr 73 7 [[(sV a1.s),(iV y70),(iV a1.now.kind),(sV a1.now.text),(iV a1.now.at_),(iV a1.at_),(iV a1.bad)]])),(1,(Ob.arr 71 3 [[(iV 0),(sV ([]:List UInt8)),(iV y70)]])),(2,(Ob.arr 9 1 (([([60,61]:List UInt8),([62,61]:List UInt8),([60]:List UInt8),([62]:List UInt8),([61]:List UInt8),([40]:List UInt8),([41]:List UInt8),([44]:List UInt8)]:List (List UInt8)).map encS)))],3⟩:St)) (fun n p=>RC ((8:Nat):Int) (fun tl nn=>M22_L2 F a1 y70 k112 tl nn=some r) n p) (fun p h=>RC.zero h) (Int.toNat ((8:Nat):Int)+1) 0 (RC.start h) (ghost_ren 3 (fun i=>([0,1,2]:List Nat).getD i 0) _ _ (by decide) (EnvSub.get (.cons (Sub.ptr rfl rfl) (.cons (Sub.ptr rfl rfl) (.cons (Sub.imm (Imm.con _)) (.cons (Sub.ownE rfl rfl (by simp)) (.cons (Sub.imm (Imm.con _)) (.cons (Sub.imm (Imm.con _)) .nil))))))) (HpSub.get (.cons rfl (ObSub.box (.cons (Sub.imm (Imm.con _)) (.cons (Sub.imm (Imm.con _)) (.cons (Sub.imm (Imm.con _)) (.cons (Sub.imm (Imm.con _)) (.cons (Sub.imm (Imm.con _)) (.cons (Sub.imm (Imm.con _)) (.cons (Sub.imm (Imm.con _)) .nil)))))))) (.cons rfl (ObSub.box (.cons (Sub.imm (Imm.con _)) (.cons (Sub.imm (Imm.con _)) (.cons (Sub.imm (Imm.con _)) .nil)))) (.cons rfl (ObSub.rows (rows_imm imms_encS)) .nil)))) rfl) (fun n n115 h=>?_)
    refine rn 5 rfl ?_
    refine spL rfl (fun hb116=>?_) (fun hb116=>?_)
    ·obtain⟨tl,h,hk2⟩:=RC.t hA123 h hb116
     unfold M22_L2 at h
     refine rn 5 rfl ?_
     refine ixo (a:=([([60,61]:List UInt8),([62,61]:List UInt8),([60]:List UInt8),([62]:List UInt8),([61]:List UInt8),([40]:List UInt8),([41]:List UInt8),([44]:List UInt8)]:List (List UInt8))) h rfl rfl rfl (fun x117 hx118 h=>?_)
     refine ldp hx118 rfl rfl rfl rfl ?_
     refine rn 3 rfl ?_
     refine ck h (fun hc119 h=>?_)
     obtain⟨y120,hx121,h⟩:=bind_some h
     refine dr mixed (vs 8 rfl (xD (OD.mk [(25,(sV a1.s)),(29,(iV y70))] [] [(30,(sV (a1.s.drop y70.toNat)))] []) ⟨⟨rfl,rfl,trivial⟩,trivial⟩ (by exact fun S hn h hh=>aops_sliceT (y70.toNat) (a1.s.length) (a1.s.drop y70.toNat) tStr9 wants_none h.1 ⟨_,(by rw[Int.toNat_of_nonneg hc119.1];exact h.2.1)⟩ rfl hc119.2 (ab8 _) slT_hi rfl (aops_nil ⟨rfl,rfl⟩)) rfl (vs 1 rfl (cD rfl rfl rfl rfl (W51 _ _ _ _ hx121) rfl .nil)))) (by kernel_rfl) ?_
     refine spC h rfl (fun hb122 h=>?_) (fun hb122 h=>?_)
     ·refine rn 7 rfl ?_
      exact jX (x117.length:Int) h (gr [0,1] rfl (hB rfl rfl rfl (hB rfl rfl rfl .nil)) rfl)
     refine rn 6 rfl ?_
     exact jX (w64 (n115+1)) (hk2 _ h) (gr [0,1,2] rfl (hB rfl rfl rfl (hB rfl rfl rfl (hR rfl rfl .nil))) rfl)
    replace h:=RC.f h hb116
    unfold M22_L2 at h
    refine rn 1 rfl ?_
    exact jX 0 h (gr [0,1] rfl (hB rfl rfl rfl (hB rfl rfl rfl .nil)) rfl)
   intro n113 h
   refine rn 6 rfl ?_
   refine jK h (fun(p:Int×Int×Int)=>(⟨[(0,(V.ptr 0 7 0 0)),(2,(V.ptr 1 3 0 0)),(6,(iV (p.1)))],[(0,(Ob.arr 73 7 [[(sV a1.s),(iV y70),(iV a1.now.kind),(sV a1.now.text),(iV a1.now.at_),(iV (p.2.1)),(iV (p.2.2))]])),(1,(Ob.arr 71 3 [[(iV 0),(sV ([]:List UInt8)),(iV y70)]]))],2⟩:St)) (fun k124 p=>k124 p.1 p.2.1 p.2.2=some r) (fun k124 h=>?_) ?_
   ·refine spC h rfl (fun hb128 h=>?_) (fun hb128 h=>?_)
    ·obtain⟨y129,hx130,h⟩:=bind_some h
     refine rn 5 rfl ?_
     refine aops_mcallS (V.tup []) [(V.ptr 0 7 0 0),(iV y70),(iV 6)] (fun i=>([0]:List Nat).getD i 0) (fun i=>([0]:List Nat).getD i 0) 2 2 [(0,(Ob.arr 73 7 [[(sV a1.s),(iV y70),(iV a1.now.kind),(sV a1.now.text),(iV a1.now.at_),(iV (y129.1)),(iV (y129.2))]]))] fOk26 wants_none rfl (evm_cons rfl (evm_cons rfl (evm_cons rfl evm_nil))) (.cons (Sub.ptr rfl rfl) (.cons (Sub.imm (Imm.con _)) (.cons (Sub.imm (Imm.con _)) .nil))) (.cons rfl (ObSub.box (.cons (Sub.imm (Imm.con _)) (.cons (Sub.imm (Imm.con _)) (.cons (Sub.imm (Imm.con _)) (.cons (Sub.imm (Imm.con _)) (.cons (Sub.imm (Imm.con _)) (.cons (Sub.imm (Imm.con _)) (.cons (Sub.imm (Imm.con _)) .nil)))))))) .nil) (W26 F y70 6 (Tpolicy_reader.mk a1.s y70 a1.now a1.at_ a1.bad) y129 hx130) rfl rfl rfl rfl (Sub.immT (Imm.tup .nil)) (.cons rfl (ObSub.box (.cons (Sub.immT (Imm.con _)) (.cons (Sub.immT (Imm.con _)) (.cons (Sub.immT (Imm.con _)) (.cons (Sub.immT (Imm.con _)) (.cons (Sub.immT (Imm.con _)) (.cons (Sub.immT (Imm.con _)) (.cons (Sub.immT (Imm.con _)) .nil)))))))) .nil) _ rfl ?_
     refine fo (rn 4 rfl ?_)
     exact jX (1,(y129.1),(y129.2)) h (gr [0,1] rfl (hB rfl rfl rfl (hB rfl rfl rfl .nil)) rfl)
    refine rn 1 rfl ?_
    exact jX (n113,a1.at_,a1.bad) h (gr [0,1] rfl (hB rfl rfl rfl (hB rfl rfl rfl .nil)) rfl)
   rintro⟨n125,n126,n127⟩ h
   refine rn 1 rfl ?_
   refine ck h (fun hc131 h=>?_)
   refine dr mixed (vs 14 rfl (xD (OD.mk [(45,(sV a1.s)),(49,(iV y70)),(55,(iV (w64 (y70+n125))))] [] [(56,(sV ((a1.s.drop y70.toNat).take ((w64 (y70+n125)).toNat - y70.toNat))))] []) ⟨⟨rfl,rfl,rfl,trivial⟩,trivial⟩ (by exact fun S hn h hh=>aops_sliceT (y70.toNat) ((w64 (y70+n125)).toNat) ((a1.s.drop y70.toNat).take ((w64 (y70+n125)).toNat - y70.toNat)) tStr9 wants_none h.1 ⟨_,(by rw[Int.toNat_of_nonneg hc131.1];exact h.2.1)⟩ ⟨_,(by rw[Int.toNat_of_nonneg hc131.2.1];exact h.2.2.1)⟩ hc131.2.2.1 hc131.2.2.2 rfl rfl (aops_nil ⟨rfl,rfl⟩)) rfl (vs 4 rfl .nil))) (by kernel_rfl) ?_
   refine rn 11 rfl ?_
   exact jX ((w64 (y70+n125)),n126,n127,3,((a1.s.drop y70.toNat).take ((w64 (y70+n125)).toNat - y70.toNat))) h (gr [0,1] rfl (hB rfl rfl rfl (hB rfl rfl rfl .nil)) rfl)
  rintro⟨n79,n80,n81,n82,s83⟩ h
  refine rn 1 rfl ?_
  exact jX (n79,n80,n81,n82,s83) h (gr [0,1] rfl (hB rfl rfl rfl (hB rfl rfl rfl .nil)) rfl)
 rintro⟨n73,n74,n75,n76,s77⟩ h
 refine rn 7 rfl ?_
 replace h:=ae8 h
 subst h
 exact wE ⟨.inr rfl,[],(gr [0] rfl (hB rfl rfl rfl .nil) rfl),.nil⟩
theorem W23(F:Nat)(a1:Int)(a2:(List UInt8))(a3:Tpolicy_reader)(r:(Bool×Int×Int×(List UInt8)×Int×Int×Int))(h:M23 F a1 a2 a3=some r):MutG gl Tryz.prog 23 [(V.ptr 0 7 0 0),(iV a1),(sV a2)] 1 [(0,(Ob.arr 73 7 [(encTpolicy_reader a3)]))] (resV [(bV (r.1))]) 1 [(0,(Ob.arr 73 7 [[(sV a3.s),(iV (r.2.1)),(iV (r.2.2.1)),(sV (r.2.2.2.1)),(iV (r.2.2.2.2.1)),(iV (r.2.2.2.2.2.1)),(iV (r.2.2.2.2.2.2))]]))]:=by
 refine mut_enter Tryz.func23 rfl rfl (l:=[.tmp 6]) rfl rfl [(0,(V.ptr 0 7 0 0)),(1,(iV a1)),(2,(sV a2))] rfl (fun w0 m0 β0 hg=>en ?_)
 unfold M23 at h
 refine rn 13 rfl ?_
 refine spO 12 h rfl (fun hb16 h=>?_) (fun hb16 h=>?_)
 ·refine rn 23 rfl ?_
  replace h:=ae8 h
  subst h
  exact wR ⟨.inl rfl,[(6,(bV false))],(gr [0] rfl (hB rfl rfl rfl .nil) rfl),(.cons (.tmp rfl) .nil)⟩
 refine rn 9 rfl ?_
 refine spO 21 h rfl (fun hb17 h=>?_) (fun hb17 h=>?_)
 ·refine rn 14 rfl ?_
  replace h:=ae8 h
  subst h
  exact wR ⟨.inl rfl,[(6,(bV false))],(gr [0] rfl (hB rfl rfl rfl .nil) rfl),(.cons (.tmp rfl) .nil)⟩
 refine rn 9 rfl ?_
 refine spC h rfl (fun hb18 h=>?_) (fun hb18 h=>?_)
 ·refine rn 4 rfl ?_
  replace h:=ae8 h
  subst h
  exact wR ⟨.inl rfl,[(6,(bV false))],(gr [0] rfl (hB rfl rfl rfl .nil) rfl),(.cons (.tmp rfl) .nil)⟩
 obtain⟨y19,hx20,h⟩:=bind_some h
 refine rn 4 rfl ?_
 refine aops_mcallS (V.tup []) [(V.ptr 0 7 0 0)] (fun i=>([0]:List Nat).getD i 0) (fun i=>([0]:List Nat).getD i 0) 1 1 [(0,(Ob.arr 73 7 [[(sV a3.s),(iV (y19.1)),(iV (y19.2.1)),(sV (y19.2.2.1)),(iV (y19.2.2.2.1)),(iV (y19.2.2.2.2.1)),(iV (y19.2.2.2.2.2))]]))] fOk22 wants_none rfl (evm_cons rfl evm_nil) (.cons (Sub.ptr rfl rfl) .nil) (.cons rfl (ObSub.box (.cons (Sub.imm (Imm.con _)) (.cons (Sub.imm (Imm.con _)) (.cons (Sub.imm (Imm.con _)) (.cons (Sub.imm (Imm.con _)) (.cons (Sub.imm (Imm.con _)) (.cons (Sub.imm (Imm.con _)) (.cons (Sub.imm (Imm.con _)) .nil)))))))) .nil) (W22 F a3 y19 hx20) rfl rfl rfl rfl (Sub.immT (Imm.tup .nil)) (.cons rfl (ObSub.box (.cons (Sub.immT (Imm.con _)) (.cons (Sub.immT (Imm.con _)) (.cons (Sub.immT (Imm.con _)) (.cons (Sub.immT (Imm.con _)) (.cons (Sub.immT (Imm.con _)) (.cons (Sub.immT (Imm.con _)) (.cons (Sub.immT (Imm.con _)) .nil)))))))) .nil) _ rfl ?_
 refine fo (rn 5 rfl ?_)
 replace h:=ae8 h
 subst h
 exact wR ⟨.inl rfl,[(6,(bV true))],(gr [0] rfl (hB rfl rfl rfl .nil) rfl),(.cons (.tmp rfl) .nil)⟩
end Go.Proofs.YtppfkkkifdbnaaaGreatDoor
