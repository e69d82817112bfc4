/- Part of the proof: D5W5a. -/
import Derived.Test.YtelmfadihfcgnaaGreatDoorDD5M
import Derived.Test.YtelmfadihfcgnaaGreatDoorDD5Lay
import Derived.Test.YtelmfadihfcgnaaGreatDoorDD5SP
import Derived.KernelRfl
namespace Go.Proofs.YtelmfadihfcgnaaGreatDoor
open Go Go.Pv
set_option linter.unusedVariables false
set_option maxRecDepth 100000
theorem W88(F:Nat)(a1:(List UInt8))(r:Bool)(h:M88 F a1=some r):Pure Tryz.prog 88 [(sV a1)] (bV r):=by
 refine pin (fun r=>(bV r)) r rfl Tryz.func88 rfl rfl rfl rfl rfl (fun w0 m0 hg=>?_)
 unfold M88 at h
 refine rn 16 rfl ?_
 refine jK h (fun(p:Bool)=>(⟨[(4,(bV p))],[],0⟩:St)) (fun k2 p=>k2 p=some r) (fun k2 h=>?_) ?_
 ·refine spC h rfl (fun hb4 h=>?_) (fun hb4 h=>?_)
  ·refine rn 1 rfl ?_
   exact jX (a1==([114,117,108,101]:List UInt8)) h (g0 rfl rfl)
  refine rn 5 rfl ?_
  refine spC h rfl (fun hb5 h=>?_) (fun hb5 h=>?_)
  ·refine rn 1 rfl ?_
   exact jX (a1==([97,98,111,117,116]:List UInt8)) h (g0 rfl rfl)
  refine rn 5 rfl ?_
  refine spC h rfl (fun hb6 h=>?_) (fun hb6 h=>?_)
  ·refine rn 1 rfl ?_
   exact jX (a1==([119,104,101,110]:List UInt8)) h (g0 rfl rfl)
  refine rn 5 rfl ?_
  refine spC h rfl (fun hb7 h=>?_) (fun hb7 h=>?_)
  ·refine rn 1 rfl ?_
   exact jX (a1==([119,97,105,118,101]:List UInt8)) h (g0 rfl rfl)
  refine rn 5 rfl ?_
  refine spC h rfl (fun hb8 h=>?_) (fun hb8 h=>?_)
  ·refine rn 1 rfl ?_
   exact jX (a1==([102,111,114]:List UInt8)) h (g0 rfl rfl)
  refine rn 5 rfl ?_
  refine spC h rfl (fun hb9 h=>?_) (fun hb9 h=>?_)
  ·refine rn 1 rfl ?_
   exact jX (a1==([102,114,111,109]:List UInt8)) h (g0 rfl rfl)
  refine rn 5 rfl ?_
  refine spC h rfl (fun hb10 h=>?_) (fun hb10 h=>?_)
  ·refine rn 1 rfl ?_
   exact jX (a1==([116,111]:List UInt8)) h (g0 rfl rfl)
  refine rn 5 rfl ?_
  refine spC h rfl (fun hb11 h=>?_) (fun hb11 h=>?_)
  ·refine rn 1 rfl ?_
   exact jX (a1==([98,121]:List UInt8)) h (g0 rfl rfl)
  refine rn 5 rfl ?_
  refine spC h rfl (fun hb12 h=>?_) (fun hb12 h=>?_)
  ·refine rn 1 rfl ?_
   exact jX (a1==([97,115]:List UInt8)) h (g0 rfl rfl)
  refine rn 5 rfl ?_
  refine spC h rfl (fun hb13 h=>?_) (fun hb13 h=>?_)
  ·refine rn 1 rfl ?_
   exact jX (a1==([112,97,115,115]:List UInt8)) h (g0 rfl rfl)
  refine rn 5 rfl ?_
  refine spC h rfl (fun hb14 h=>?_) (fun hb14 h=>?_)
  ·refine rn 1 rfl ?_
   exact jX (a1==([110,111,116,101]:List UInt8)) h (g0 rfl rfl)
  refine rn 5 rfl ?_
  refine spC h rfl (fun hb15 h=>?_) (fun hb15 h=>?_)
  ·refine rn 1 rfl ?_
   exact jX (a1==([119,97,114,110]:List UInt8)) h (g0 rfl rfl)
  refine rn 5 rfl ?_
  refine spC h rfl (fun hb16 h=>?_) (fun hb16 h=>?_)
  ·refine rn 1 rfl ?_
   exact jX (a1==([100,101,110,121]:List UInt8)) h (g0 rfl rfl)
  refine rn 5 rfl ?_
  refine spC h rfl (fun hb17 h=>?_) (fun hb17 h=>?_)
  ·refine rn 1 rfl ?_
   exact jX (a1==([111,114]:List UInt8)) h (g0 rfl rfl)
  refine rn 5 rfl ?_
  refine spC h rfl (fun hb18 h=>?_) (fun hb18 h=>?_)
  ·refine rn 1 rfl ?_
   exact jX (a1==([97,110,100]:List UInt8)) h (g0 rfl rfl)
  refine rn 5 rfl ?_
  refine spC h rfl (fun hb19 h=>?_) (fun hb19 h=>?_)
  ·refine rn 1 rfl ?_
   exact jX (a1==([116,114,117,101]:List UInt8)) h (g0 rfl rfl)
  refine rn 5 rfl ?_
  refine spC h rfl (fun hb20 h=>?_) (fun hb20 h=>?_)
  ·refine rn 1 rfl ?_
   exact jX (a1==([105,115]:List UInt8)) h (g0 rfl rfl)
  refine rn 5 rfl ?_
  refine spC h rfl (fun hb21 h=>?_) (fun hb21 h=>?_)
  ·refine rn 1 rfl ?_
   exact jX (a1==([98,101,103,105,110,115]:List UInt8)) h (g0 rfl rfl)
  refine rn 5 rfl ?_
  refine spC h rfl (fun hb22 h=>?_) (fun hb22 h=>?_)
  ·refine rn 1 rfl ?_
   exact jX (a1==([104,97,115]:List UInt8)) h (g0 rfl rfl)
  refine rn 4 rfl ?_
  exact jX (a1==([110,111,116]:List UInt8)) h (g0 rfl rfl)
 intro b3 h
 refine spC h rfl (fun hb23 h=>?_) (fun hb23 h=>?_)
 ·refine rn 4 rfl ?_
  exact rt h rfl
 refine rn 6 rfl ?_
 exact rt h rfl
theorem W31(F:Nat)(a1:(List UInt8))(r:Bool)(h:M31 F a1=some r):Pure Tryz.prog 31 [(sV a1)] (bV r):=by
 refine pin (fun r=>(bV r)) r rfl Tryz.func31 rfl rfl rfl rfl rfl (fun w0 m0 hg=>?_)
 unfold M31 at h
 refine rn 11 rfl ?_
 refine jK h (fun _:Unit=>(⟨[(0,(sV a1))],[],0⟩:St)) (fun k2 (_:Unit)=>k2=some r) (fun k2 h=>?_) ?_
 ·refine rn 1 rfl ?_
  refine ck h (fun hA21 h=>?_)
  refine lC (fun(p:Int)=>(⟨[(0,(sV a1)),(6,(iV (a1.length:Int))),(7,(iV p))],[],0⟩:St)) (fun n p=>RC (a1.length:Int) (fun tl nn=>M31_L1 F a1 k2 tl nn=some r) n p) (fun p h=>RC.zero h) (Int.toNat (a1.length:Int)+1) 0 (RC.start h) (g0 rfl rfl) (fun n n4 h=>?_)
  refine rn 5 rfl ?_
  refine spL rfl (fun hb5=>?_) (fun hb5=>?_)
  ·obtain⟨tl,h,hk1⟩:=RC.t hA21 h hb5
   unfold M31_L1 at h
   refine rn 2 rfl ?_
   refine jK h (fun _:Unit=>(⟨[(0,(sV a1)),(6,(iV (a1.length:Int))),(7,(iV n4))],[],0⟩:St)) (fun k6 (_:Unit)=>k6=some r) (fun k6 h=>?_) ?_
   ·refine rn 10 rfl ?_
    refine ixs h rfl rfl (fun c7 hx8 h=>?_)
    refine rn 7 rfl ?_
    refine spO 15 h rfl (fun hb9 h=>?_) (fun hb9 h=>?_)
    ·refine rn 4 rfl ?_
     refine spO 19 h rfl (fun hb10 h=>?_) (fun hb10 h=>?_)
     ·refine rn 20 rfl ?_
      exact jX () h (g0 rfl rfl)
     refine rn 3 rfl ?_
     refine spO 22 h rfl (fun hb11 h=>?_) (fun hb11 h=>?_)
     ·refine rn 3 rfl ?_
      refine spO 25 h rfl (fun hb12 h=>?_) (fun hb12 h=>?_)
      ·refine rn 4 rfl ?_
       refine spO 29 h rfl (fun hb13 h=>?_) (fun hb13 h=>?_)
       ·refine rn 10 rfl ?_
        exact jX () h (g0 rfl rfl)
       refine rn 7 rfl ?_
       refine spC h rfl (fun hb14 h=>?_) (fun hb14 h=>?_)
       ·refine rn 4 rfl ?_
        exact rt h rfl
       refine rn 2 rfl ?_
       exact jX () h (g0 rfl rfl)
      refine rn 11 rfl ?_
      refine spC h rfl (fun hb15 h=>?_) (fun hb15 h=>?_)
      ·refine rn 4 rfl ?_
       exact rt h rfl
      refine rn 2 rfl ?_
      exact jX () h (g0 rfl rfl)
     refine rn 19 rfl ?_
     exact rt h rfl
    refine rn 7 rfl ?_
    refine spO 22 h rfl (fun hb16 h=>?_) (fun hb16 h=>?_)
    ·refine rn 3 rfl ?_
     refine spO 25 h rfl (fun hb17 h=>?_) (fun hb17 h=>?_)
     ·refine rn 4 rfl ?_
      refine spO 29 h rfl (fun hb18 h=>?_) (fun hb18 h=>?_)
      ·refine rn 10 rfl ?_
       exact jX () h (g0 rfl rfl)
      refine rn 7 rfl ?_
      refine spC h rfl (fun hb19 h=>?_) (fun hb19 h=>?_)
      ·refine rn 4 rfl ?_
       exact rt h rfl
      refine rn 2 rfl ?_
      exact jX () h (g0 rfl rfl)
     refine rn 11 rfl ?_
     refine spC h rfl (fun hb20 h=>?_) (fun hb20 h=>?_)
     ·refine rn 4 rfl ?_
      exact rt h rfl
     refine rn 2 rfl ?_
     exact jX () h (g0 rfl rfl)
    refine rn 19 rfl ?_
    exact rt h rfl
   intro _ h
   refine rn 4 rfl ?_
   exact jX (w64 (n4+1)) (hk1 _ h) (g0 rfl rfl)
  replace h:=RC.f h hb5
  unfold M31_L1 at h
  refine rn 1 rfl ?_
  exact jX () h (g0 rfl rfl)
 intro _ h
 refine rn 5 rfl ?_
 refine spO 39 h rfl (fun hb22 h=>?_) (fun hb22 h=>?_)
 ·refine rn 5 rfl ?_
  refine spO 44 h rfl (fun hb23 h=>?_) (fun hb23 h=>?_)
  ·refine rn 1 rfl ?_
   refine cl h rfl rfl rfl (W88 _ _) rfl (fun y24 hx25 h=>?_)
   refine rn 4 rfl ?_
   exact rt h rfl
  refine rn 6 rfl ?_
  exact rt h rfl
 refine rn 11 rfl ?_
 exact rt h rfl
theorem W86_B(R86:TTest->Int->Option (Int×Int))(hR86:∀(a1:TTest) (a2:Int) (r:(Int×Int)),R86 a1 a2=some r->Pure Tryz.prog 86 [(V.agg (encTTest a1)),(iV a2)] (V.tup [(iV (r.1)),(iV (r.2))]))(F:Nat)(a1:TTest)(a2:Int)(r:(Int×Int))(h:M86_B R86 F a1 a2=some r):Pure Tryz.prog 86 [(V.agg (encTTest a1)),(iV a2)] (V.tup [(iV (r.1)),(iV (r.2))]):=by
 refine pin (fun r=>(V.tup [(iV (r.1)),(iV (r.2))])) r rfl Tryz.func86 rfl rfl rfl rfl rfl (fun w0 m0 hg=>?_)
 unfold M86_B at h
 refine rn 18 rfl ?_
 refine spC h rfl (fun hb3 h=>?_) (fun hb3 h=>?_)
 ·refine rn 7 rfl ?_
  exact rt h rfl
 refine rn 6 rfl ?_
 refine ln rfl rfl ?_
 refine rn 2 rfl ?_
 refine jK h (fun(p:Int×Int)=>(⟨[(4,(iV (p.1))),(5,(iV (p.2)))],[],0⟩:St)) (fun k4 p=>k4 p.1 p.2=some r) (fun k4 h=>?_) ?_
 ·refine rn 1 rfl ?_
  refine wl (A:=a1.Kids) 16 rfl (fun hA20=>?_)
  refine lC (fun(p:Int×Int×Int)=>(⟨[(1,(iV a2)),(4,(iV (p.1))),(5,(iV (p.2.1))),(16,(V.lst 6 (a1.Kids.map KRow.row))),(17,(iV ((a1.Kids.length:Nat):Int))),(18,(iV (p.2.2)))],[],0⟩:St)) (fun n p=>RG a1.Kids (fun tl nn=>M86_L1 R86 F a2 k4 tl p.1 p.2.1=some r) n p.2.2) (fun p h=>RG.zero h) (a1.Kids.length+1) (1,a2,0) (RG.start h) (g0 rfl rfl) (fun n p h=>?_)
  obtain⟨n10,n11,n12⟩:=p
  refine rn 5 rfl ?_
  refine spL rfl (fun hb13=>?_) (fun hb13=>?_)
  ·obtain⟨x14,tl,hx15,h,hk1⟩:=RG.t hA20 h hb13
   unfold M86_L1 at h
   refine rn 5 rfl ?_
   refine ixh hx15 rfl rfl ?_
   obtain⟨y16,hx17,h⟩:=bind_some h
   refine kroO 20 hx17 rfl ?_
   refine rn 9 rfl ?_
   refine cl h rfl rfl rfl (hR86 _ _) rfl (fun y18 hx19 h=>?_)
   refine rn 22 rfl ?_
   exact jX ((if 61<(w64 (n10+(y18.1))) then 61 else (w64 (n10+(y18.1)))),(if (y18.2)>n11 then (y18.2) else n11),(w64 (n12+1))) (hk1 _ h) (g0 rfl rfl)
  replace h:=RG.f h hb13
  unfold M86_L1 at h
  refine rn 1 rfl ?_
  exact jX (n10,n11) h (g0 rfl rfl)
 rintro⟨n5,n6⟩ h
 refine rn 7 rfl ?_
 exact rt h rfl
theorem W86:∀(F:Nat) (a1:TTest) (a2:Int) (r:(Int×Int)) (h:M86 F a1 a2=some r),Pure Tryz.prog 86 [(V.agg (encTTest a1)),(iV a2)] (V.tup [(iV (r.1)),(iV (r.2))]):=by
 intro F
 induction F with
 |zero=>intros;simp[M86] at *
 |succ F ih=>exact fun a1 a2 r h=>W86_B (M86 F) ih F a1 a2 r h
theorem W128(F:Nat)(r:(Nat->Tpolicy_uses))(h:M128 F  = some r):Pure Tryz.prog 128 [] (V.agg [(bV (r 0).name),(bV (r 0).texts),(bV (r 0).number),(iV (r 0).kids),(bV (r 1).name),(bV (r 1).texts),(bV (r 1).number),(iV (r 1).kids),(bV (r 2).name),(bV (r 2).texts),(bV (r 2).number),(iV (r 2).kids),(bV (r 3).name),(bV (r 3).texts),(bV (r 3).number),(iV (r 3).kids),(bV (r 4).name),(bV (r 4).texts),(bV (r 4).number),(iV (r 4).kids),(bV (r 5).name),(bV (r 5).texts),(bV (r 5).number),(iV (r 5).kids),(bV (r 6).name),(bV (r 6).texts),(bV (r 6).number),(iV (r 6).kids),(bV (r 7).name),(bV (r 7).texts),(bV (r 7).number),(iV (r 7).kids),(bV (r 8).name),(bV (r 8).texts),(bV (r 8).number),(iV (r 8).kids)]):=by
 refine pin (fun r=>(V.agg [(bV (r 0).name),(bV (r 0).texts),(bV (r 0).number),(iV (r 0).kids),(bV (r 1).name),(bV (r 1).texts),(bV (r 1).number),(iV (r 1).kids),(bV (r 2).name),(bV (r 2).texts),(bV (r 2).number),(iV (r 2).kids),(bV (r 3).name),(bV (r 3).texts),(bV (r 3).number),(iV (r 3).kids),(bV (r 4).name),(bV (r 4).texts),(bV (r 4).number),(iV (r 4).kids),(bV (r 5).name),(bV (r 5).texts),(bV (r 5).number),(iV (r 5).kids),(bV (r 6).name),(bV (r 6).texts),(bV (r 6).number),(iV (r 6).kids),(bV (r 7).name),(bV (r 7).texts),(bV (r 7).number),(iV (r 7).kids),(bV (r 8).name),(bV (r 8).texts),(bV (r 8).number),(iV (r 8).kids)])) r rfl Tryz.func128 rfl rfl rfl rfl rfl (fun w0 m0 hg=>?_)
 unfold M128 at h
 refine rn 13 rfl ?_
 refine aops_buildA [(2,(V.agg [(bV true),(bV true),(bV false),(iV 0)])),(3,(V.agg [(bV true),(bV true),(bV false),(iV 0)])),(4,(V.agg [(bV true),(bV false),(bV false),(iV 0)])),(5,(V.agg [(bV true),(bV false),(bV true),(iV 0)])),(6,(V.agg [(bV false),(bV false),(bV false),(iV 1)])),(7,(V.agg [(bV false),(bV false),(bV false),(iV (-1))])),(8,(V.agg [(bV false),(bV false),(bV false),(iV (-1))]))] [(bV false),(bV false),(bV false),(iV 0),(bV false),(bV false),(bV false),(iV 0),(bV true),(bV true),(bV false),(iV 0),(bV true),(bV true),(bV false),(iV 0),(bV true),(bV false),(bV false),(iV 0),(bV true),(bV false),(bV true),(iV 0),(bV false),(bV false),(bV false),(iV 1),(bV false),(bV false),(bV false),(iV (-1)),(bV false),(bV false),(bV false),(iV (-1))] tZ208 tArr208 rfl wants_none (evp_cons rfl (evp_cons rfl (evp_cons rfl (evp_cons rfl (evp_cons rfl (evp_cons rfl (evp_cons rfl evp_nil))))))) rfl rfl ?_
 refine fo (rn 2 rfl ?_)
 exact rt h rfl
theorem W129(F:Nat)(a1:TTest)(r:Bool)(h:M129 F a1=some r):Pure Tryz.prog 129 [(V.agg (encTTest a1))] (bV r):=by
 refine pin (fun r=>(bV r)) r rfl Tryz.func129 rfl rfl rfl rfl rfl (fun w0 m0 hg=>?_)
 unfold M129 at h
 obtain⟨y2,hx3,h⟩:=bind_some h
 refine rn 6 rfl ?_
 refine ck h (fun hc4 h=>?_)
 refine awp_ghost ghost_res ?_
 refine fa ?_
 refine dr mixed (cD rfl rfl rfl rfl (W128 _ _ hx3) rfl (vs 2 rfl (xD (OD.mk [(4,(V.agg [(bV (y2 0).name),(bV (y2 0).texts),(bV (y2 0).number),(iV (y2 0).kids),(bV (y2 1).name),(bV (y2 1).texts),(bV (y2 1).number),(iV (y2 1).kids),(bV (y2 2).name),(bV (y2 2).texts),(bV (y2 2).number),(iV (y2 2).kids),(bV (y2 3).name),(bV (y2 3).texts),(bV (y2 3).number),(iV (y2 3).kids),(bV (y2 4).name),(bV (y2 4).texts),(bV (y2 4).number),(iV (y2 4).kids),(bV (y2 5).name),(bV (y2 5).texts),(bV (y2 5).number),(iV (y2 5).kids),(bV (y2 6).name),(bV (y2 6).texts),(bV (y2 6).number),(iV (y2 6).kids),(bV (y2 7).name),(bV (y2 7).texts),(bV (y2 7).number),(iV (y2 7).kids),(bV (y2 8).name),(bV (y2 8).texts),(bV (y2 8).number),(iV (y2 8).kids)])),(6,(iV a1.Kind))] [] [(7,(V.agg (encTpolicy_uses (y2 a1.Kind.toNat))))] []) ⟨⟨rfl,rfl,trivial⟩,trivial⟩ (by exact fun S hn h hh=>aops_indexA (encTpolicy_uses (y2 a1.Kind.toNat)) tAA208 wants_none h.1 h.2.1 hc4 rfl (arr_row (f:=y2) rfl (fun x=>rfl) hc4.2) rfl (aops_nil ⟨rfl,rfl⟩)) rfl (xD (OD.mk [] [(1,Ob.res)] [(3,(V.ptr 1 4 0 0))] [(1,(Ob.arr 207 4 [[(bV false),(bV false),(bV false),(iV 0)]]))]) ⟨trivial,⟨rfl,trivial⟩⟩ (by exact fun S hn h hh=>aops_alloc_at 1 rfl hn hh.1 tZ207 rfl rfl wants_none rfl (aops_nil ⟨rfl,rfl⟩)) rfl (vs 1 rfl .nil))))) (by kernel_rfl) ?_
 refine rn 7 rfl ?_
 refine spO 11 h rfl (fun hb5 h=>?_) (fun hb5 h=>?_)
 ·refine rn 5 rfl ?_
  refine spO 16 h rfl (fun hb6 h=>?_) (fun hb6 h=>?_)
  ·refine rn 31 rfl ?_
   exact rt h rfl
  refine rn 4 rfl ?_
  refine spO 20 h rfl (fun hb7 h=>?_) (fun hb7 h=>?_)
  ·refine rn 2 rfl ?_
   refine ln rfl rfl ?_
   refine rn 4 rfl ?_
   refine spO 27 h rfl (fun hb8 h=>?_) (fun hb8 h=>?_)
   ·refine rn 20 rfl ?_
    exact rt h rfl
   refine rn 4 rfl ?_
   refine spO 31 h rfl (fun hb9 h=>?_) (fun hb9 h=>?_)
   ·refine rn 4 rfl ?_
    refine spO 35 h rfl (fun hb10 h=>?_) (fun hb10 h=>?_)
    ·refine rn 12 rfl ?_
     exact rt h rfl
    refine rn 7 rfl ?_
    refine spC h rfl (fun hb11 h=>?_) (fun hb11 h=>?_)
    ·refine rn 4 rfl ?_
     exact rt h rfl
    refine rn 8 rfl ?_
    refine spC h rfl (fun hb12 h=>?_) (fun hb12 h=>?_)
    ·refine rn 4 rfl ?_
     refine ln rfl rfl ?_
     refine rn 3 rfl ?_
     exact rt h rfl
    refine rn 5 rfl ?_
    refine ln rfl rfl ?_
    refine rn 5 rfl ?_
    exact rt h rfl
   refine rn 20 rfl ?_
   refine spC h rfl (fun hb13 h=>?_) (fun hb13 h=>?_)
   ·refine rn 4 rfl ?_
    refine ln rfl rfl ?_
    refine rn 3 rfl ?_
    exact rt h rfl
   refine rn 5 rfl ?_
   refine ln rfl rfl ?_
   refine rn 5 rfl ?_
   exact rt h rfl
  refine rn 11 rfl ?_
  refine spO 31 h rfl (fun hb14 h=>?_) (fun hb14 h=>?_)
  ·refine rn 4 rfl ?_
   refine spO 35 h rfl (fun hb15 h=>?_) (fun hb15 h=>?_)
   ·refine rn 12 rfl ?_
    exact rt h rfl
   refine rn 7 rfl ?_
   refine spC h rfl (fun hb16 h=>?_) (fun hb16 h=>?_)
   ·refine rn 4 rfl ?_
    exact rt h rfl
   refine rn 8 rfl ?_
   refine spC h rfl (fun hb17 h=>?_) (fun hb17 h=>?_)
   ·refine rn 4 rfl ?_
    refine ln rfl rfl ?_
    refine rn 3 rfl ?_
    exact rt h rfl
   refine rn 5 rfl ?_
   refine ln rfl rfl ?_
   refine rn 5 rfl ?_
   exact rt h rfl
  refine rn 20 rfl ?_
  refine spC h rfl (fun hb18 h=>?_) (fun hb18 h=>?_)
  ·refine rn 4 rfl ?_
   refine ln rfl rfl ?_
   refine rn 3 rfl ?_
   exact rt h rfl
  refine rn 5 rfl ?_
  refine ln rfl rfl ?_
  refine rn 5 rfl ?_
  exact rt h rfl
 refine rn 9 rfl ?_
 refine spO 20 h rfl (fun hb19 h=>?_) (fun hb19 h=>?_)
 ·refine rn 2 rfl ?_
  refine ln rfl rfl ?_
  refine rn 4 rfl ?_
  refine spO 27 h rfl (fun hb20 h=>?_) (fun hb20 h=>?_)
  ·refine rn 20 rfl ?_
   exact rt h rfl
  refine rn 4 rfl ?_
  refine spO 31 h rfl (fun hb21 h=>?_) (fun hb21 h=>?_)
  ·refine rn 4 rfl ?_
   refine spO 35 h rfl (fun hb22 h=>?_) (fun hb22 h=>?_)
   ·refine rn 12 rfl ?_
    exact rt h rfl
   refine rn 7 rfl ?_
   refine spC h rfl (fun hb23 h=>?_) (fun hb23 h=>?_)
   ·refine rn 4 rfl ?_
    exact rt h rfl
   refine rn 8 rfl ?_
   refine spC h rfl (fun hb24 h=>?_) (fun hb24 h=>?_)
   ·refine rn 4 rfl ?_
    refine ln rfl rfl ?_
    refine rn 3 rfl ?_
    exact rt h rfl
   refine rn 5 rfl ?_
   refine ln rfl rfl ?_
   refine rn 5 rfl ?_
   exact rt h rfl
  refine rn 20 rfl ?_
  refine spC h rfl (fun hb25 h=>?_) (fun hb25 h=>?_)
  ·refine rn 4 rfl ?_
   refine ln rfl rfl ?_
   refine rn 3 rfl ?_
   exact rt h rfl
  refine rn 5 rfl ?_
  refine ln rfl rfl ?_
  refine rn 5 rfl ?_
  exact rt h rfl
 refine rn 11 rfl ?_
 refine spO 31 h rfl (fun hb26 h=>?_) (fun hb26 h=>?_)
 ·refine rn 4 rfl ?_
  refine spO 35 h rfl (fun hb27 h=>?_) (fun hb27 h=>?_)
  ·refine rn 12 rfl ?_
   exact rt h rfl
  refine rn 7 rfl ?_
  refine spC h rfl (fun hb28 h=>?_) (fun hb28 h=>?_)
  ·refine rn 4 rfl ?_
   exact rt h rfl
  refine rn 8 rfl ?_
  refine spC h rfl (fun hb29 h=>?_) (fun hb29 h=>?_)
  ·refine rn 4 rfl ?_
   refine ln rfl rfl ?_
   refine rn 3 rfl ?_
   exact rt h rfl
  refine rn 5 rfl ?_
  refine ln rfl rfl ?_
  refine rn 5 rfl ?_
  exact rt h rfl
 refine rn 20 rfl ?_
 refine spC h rfl (fun hb30 h=>?_) (fun hb30 h=>?_)
 ·refine rn 4 rfl ?_
  refine ln rfl rfl ?_
  refine rn 3 rfl ?_
  exact rt h rfl
 refine rn 5 rfl ?_
 refine ln rfl rfl ?_
 refine rn 5 rfl ?_
 exact rt h rfl
theorem W105(F:Nat)(a1:(List UInt8))(r:Bool)(h:M105 F a1=some r):Pure Tryz.prog 105 [(sV a1)] (bV r):=by
 refine pin (fun r=>(bV r)) r rfl Tryz.func105 rfl rfl rfl rfl rfl (fun w0 m0 hg=>?_)
 unfold M105 at h
 refine rn 11 rfl ?_
 refine jK h (fun _:Unit=>(⟨[(0,(sV a1))],[],0⟩:St)) (fun k2 (_:Unit)=>k2=some r) (fun k2 h=>?_) ?_
 ·refine rn 1 rfl ?_
  refine ck h (fun hA12 h=>?_)
  refine lC (fun(p:Int)=>(⟨[(0,(sV a1)),(5,(iV (a1.length:Int))),(6,(iV p))],[],0⟩:St)) (fun n p=>RC (a1.length:Int) (fun tl nn=>M105_L1 F a1 k2 tl nn=some r) n p) (fun p h=>RC.zero h) (Int.toNat (a1.length:Int)+1) 0 (RC.start h) (g0 rfl rfl) (fun n n4 h=>?_)
  refine rn 5 rfl ?_
  refine spL rfl (fun hb5=>?_) (fun hb5=>?_)
  ·obtain⟨tl,h,hk1⟩:=RC.t hA12 h hb5
   unfold M105_L1 at h
   refine rn 12 rfl ?_
   refine ixs h rfl rfl (fun c6 hx7 h=>?_)
   refine rn 2 rfl ?_
   refine spO 13 h rfl (fun hb8 h=>?_) (fun hb8 h=>?_)
   ·refine rn 11 rfl ?_
    exact rt h rfl
   refine rn 2 rfl ?_
   refine ixs h rfl rfl (fun c9 hx10 h=>?_)
   refine rn 3 rfl ?_
   refine spC h rfl (fun hb11 h=>?_) (fun hb11 h=>?_)
   ·refine rn 4 rfl ?_
    exact rt h rfl
   refine rn 6 rfl ?_
   exact jX (w64 (n4+1)) (hk1 _ h) (g0 rfl rfl)
  replace h:=RC.f h hb5
  unfold M105_L1 at h
  refine rn 1 rfl ?_
  exact jX () h (g0 rfl rfl)
 intro _ h
 refine rn 7 rfl ?_
 exact rt h rfl
theorem W130(F:Nat)(a1:(List (List UInt8)))(r:Int)(h:M130 F a1=some r):Pure Tryz.prog 130 [(V.lst 1 (a1.map encS))] (iV r):=by
 refine pin (fun r=>(iV r)) r rfl Tryz.func130 rfl rfl rfl rfl rfl (fun w0 m0 hg=>?_)
 unfold M130 at h
 refine rn 9 rfl ?_
 refine ln rfl rfl ?_
 refine rn 3 rfl ?_
 refine spC h rfl (fun hb2 h=>?_) (fun hb2 h=>?_)
 ·refine rn 4 rfl ?_
  exact rt h rfl
 refine rn 3 rfl ?_
 refine ln rfl rfl ?_
 refine rn 3 rfl ?_
 refine spC h rfl (fun hb3 h=>?_) (fun hb3 h=>?_)
 ·refine rn 4 rfl ?_
  exact rt h rfl
 refine rn 6 rfl ?_
 refine ln rfl rfl ?_
 refine rn 2 rfl ?_
 refine jK h (fun _:Unit=>(⟨[],[],0⟩:St)) (fun k4 (_:Unit)=>k4=some r) (fun k4 h=>?_) ?_
 ·refine rn 1 rfl ?_
  refine wl (A:=a1) 0 rfl (fun hA18=>?_)
  refine lC (fun(p:Int)=>(⟨[(0,(V.lst 1 (a1.map encS))),(13,(V.lst 1 (a1.map encS))),(14,(iV ((a1.length:Nat):Int))),(15,(iV p))],[],0⟩:St)) (fun n p=>RG a1 (fun tl nn=>M130_L1 F a1 k4 tl nn=some r) n p) (fun p h=>RG.zero h) (a1.length+1) 0 (RG.start h) (g0 rfl rfl) (fun n n6 h=>?_)
  refine rn 5 rfl ?_
  refine spL rfl (fun hb7=>?_) (fun hb7=>?_)
  ·obtain⟨x8,tl,hx9,h,hk1⟩:=RG.t hA18 h hb7
   unfold M130_L1 at h
   refine rn 6 rfl ?_
   refine ixh hx9 rfl rfl ?_
   refine rn 8 rfl ?_
   refine cl h rfl rfl rfl (W105 _ _) rfl (fun y10 hx11 h=>?_)
   refine rn 3 rfl ?_
   refine jK h (fun _:Unit=>(⟨[(0,(V.lst 1 (a1.map encS))),(13,(V.lst 1 (a1.map encS))),(14,(iV ((a1.length:Nat):Int))),(15,(iV n6))],[],0⟩:St)) (fun k12 (_:Unit)=>k12=some r) (fun k12 h=>?_) ?_
   ·refine spC h rfl (fun hb13 h=>?_) (fun hb13 h=>?_)
    ·refine rn 4 rfl ?_
     exact rt h rfl
    refine rn 5 rfl ?_
    refine spO 27 h rfl (fun hb14 h=>?_) (fun hb14 h=>?_)
    ·refine rn 4 rfl ?_
     refine ixl h rfl rfl (fun x15 hx16 h=>?_)
     refine rn 5 rfl ?_
     refine spC h rfl (fun hb17 h=>?_) (fun hb17 h=>?_)
     ·refine rn 4 rfl ?_
      exact rt h rfl
     refine rn 1 rfl ?_
     exact jX () h (g0 rfl rfl)
    refine rn 12 rfl ?_
    exact jX () h (g0 rfl rfl)
   intro _ h
   refine rn 6 rfl ?_
   exact jX (w64 (n6+1)) (hk1 _ h) (g0 rfl rfl)
  replace h:=RG.f h hb7
  unfold M130_L1 at h
  refine rn 1 rfl ?_
  exact jX () h (g0 rfl rfl)
 intro _ h
 refine rn 4 rfl ?_
 exact rt h rfl
theorem W106(F:Nat)(a1:Int)(r:Bool)(h:M106 F a1=some r):Pure Tryz.prog 106 [(iV a1)] (bV r):=by
 refine pin (fun r=>(bV r)) r rfl Tryz.func106 rfl rfl rfl rfl rfl (fun w0 m0 hg=>?_)
 unfold M106 at h
 refine rn 9 rfl ?_
 refine spO 5 h rfl (fun hb2 h=>?_) (fun hb2 h=>?_)
 ·refine rn 5 rfl ?_
  exact rt h rfl
 refine rn 5 rfl ?_
 exact rt h rfl
theorem W87_B(R87:TTest->Option Int)(hR87:∀(a1:TTest) (r:Int),R87 a1=some r->Pure Tryz.prog 87 [(V.agg (encTTest a1))] (iV r))(F:Nat)(a1:TTest)(r:Int)(h:M87_B R87 F a1=some r):Pure Tryz.prog 87 [(V.agg (encTTest a1))] (iV r):=by
 refine pin (fun r=>(iV r)) r rfl Tryz.func87 rfl rfl rfl rfl rfl (fun w0 m0 hg=>?_)
 unfold M87_B at h
 refine rn 12 rfl ?_
 refine spO 11 h rfl (fun hb2 h=>?_) (fun hb2 h=>?_)
 ·refine rn 10 rfl ?_
  exact rt h rfl
 refine rn 5 rfl ?_
 refine spC h rfl (fun hb3 h=>?_) (fun hb3 h=>?_)
 ·refine rn 4 rfl ?_
  exact rt h rfl
 obtain⟨y4,hx5,h⟩:=bind_some h
 refine rn 2 rfl ?_
 refine ck h (fun hc6 h=>?_)
 refine awp_ghost ghost_res ?_
 refine fa ?_
 refine dr mixed (cD rfl rfl rfl rfl (W128 _ _ hx5) rfl (vs 2 rfl (xD (OD.mk [(16,(V.agg [(bV (y4 0).name),(bV (y4 0).texts),(bV (y4 0).number),(iV (y4 0).kids),(bV (y4 1).name),(bV (y4 1).texts),(bV (y4 1).number),(iV (y4 1).kids),(bV (y4 2).name),(bV (y4 2).texts),(bV (y4 2).number),(iV (y4 2).kids),(bV (y4 3).name),(bV (y4 3).texts),(bV (y4 3).number),(iV (y4 3).kids),(bV (y4 4).name),(bV (y4 4).texts),(bV (y4 4).number),(iV (y4 4).kids),(bV (y4 5).name),(bV (y4 5).texts),(bV (y4 5).number),(iV (y4 5).kids),(bV (y4 6).name),(bV (y4 6).texts),(bV (y4 6).number),(iV (y4 6).kids),(bV (y4 7).name),(bV (y4 7).texts),(bV (y4 7).number),(iV (y4 7).kids),(bV (y4 8).name),(bV (y4 8).texts),(bV (y4 8).number),(iV (y4 8).kids)])),(18,(iV a1.Kind))] [] [(19,(V.agg (encTpolicy_uses (y4 a1.Kind.toNat))))] []) ⟨⟨rfl,rfl,trivial⟩,trivial⟩ (by exact fun S hn h hh=>aops_indexA (encTpolicy_uses (y4 a1.Kind.toNat)) tAA208 wants_none h.1 h.2.1 hc6 rfl (arr_row (f:=y4) rfl (fun x=>rfl) hc6.2) rfl (aops_nil ⟨rfl,rfl⟩)) rfl (xD (OD.mk [] [(1,Ob.res)] [(3,(V.ptr 1 4 0 0))] [(1,(Ob.arr 207 4 [[(bV false),(bV false),(bV false),(iV 0)]]))]) ⟨trivial,⟨rfl,trivial⟩⟩ (by exact fun S hn h hh=>aops_alloc_at 1 rfl hn hh.1 tZ207 rfl rfl wants_none rfl (aops_nil ⟨rfl,rfl⟩)) rfl (vs 1 rfl .nil))))) (by kernel_rfl) ?_
 refine rn 5 rfl ?_
 refine cl h rfl rfl rfl (W129 _ _) rfl (fun y7 hx8 h=>?_)
 refine rn 3 rfl ?_
 refine jK h (fun _:Unit=>(⟨[(1,(V.ptr 0 6 0 0)),(3,(V.ptr 1 4 0 0))],[(0,(Ob.arr 25 6 [(encTTest a1)])),(1,(Ob.arr 207 4 [(encTpolicy_uses (y4 a1.Kind.toNat))]))],2⟩:St)) (fun k9 (_:Unit)=>k9=some r) (fun k9 h=>?_) ?_
 ·refine spC h rfl (fun hb10 h=>?_) (fun hb10 h=>?_)
  ·refine rn 4 rfl ?_
   exact rt h rfl
  refine rn 5 rfl ?_
  refine spO 27 h rfl (fun hb11 h=>?_) (fun hb11 h=>?_)
  ·refine rn 2 rfl ?_
   refine cl h rfl rfl rfl (W31 _ _) rfl (fun y12 hx13 h=>?_)
   refine rn 4 rfl ?_
   refine spC h rfl (fun hb14 h=>?_) (fun hb14 h=>?_)
   ·refine rn 4 rfl ?_
    exact rt h rfl
   refine rn 1 rfl ?_
   exact jX () h (gr [0,1] rfl (hB rfl rfl rfl (hB rfl rfl rfl .nil)) rfl)
  refine rn 9 rfl ?_
  exact jX () h (gr [0,1] rfl (hB rfl rfl rfl (hB rfl rfl rfl .nil)) rfl)
 intro _ h
 refine rn 7 rfl ?_
 refine jK h (fun _:Unit=>(⟨[(1,(V.ptr 0 6 0 0)),(3,(V.ptr 1 4 0 0))],[(0,(Ob.arr 25 6 [(encTTest a1)])),(1,(Ob.arr 207 4 [(encTpolicy_uses (y4 a1.Kind.toNat))]))],2⟩:St)) (fun k15 (_:Unit)=>k15=some r) (fun k15 h=>?_) ?_
 ·refine spC h rfl (fun hb16 h=>?_) (fun hb16 h=>?_)
  ·refine rn 4 rfl ?_
   refine cl h rfl rfl rfl (W130 _ _) rfl (fun y17 hx18 h=>?_)
   refine rn 7 rfl ?_
   refine spC h rfl (fun hb19 h=>?_) (fun hb19 h=>?_)
   ·refine rn 5 rfl ?_
    exact rt h rfl
   refine rn 1 rfl ?_
   exact jX () h (gr [0,1] rfl (hB rfl rfl rfl (hB rfl rfl rfl .nil)) rfl)
  refine rn 1 rfl ?_
  exact jX () h (gr [0,1] rfl (hB rfl rfl rfl (hB rfl rfl rfl .nil)) rfl)
 intro _ h
 refine rn 6 rfl ?_
 refine jK h (fun _:Unit=>(⟨[(1,(V.ptr 0 6 0 0))],[(0,(Ob.arr 25 6 [(encTTest a1)]))],1⟩:St)) (fun k20 (_:Unit)=>k20=some r) (fun k20 h=>?_) ?_
 ·refine spC h rfl (fun hb21 h=>?_) (fun hb21 h=>?_)
  ·refine rn 7 rfl ?_
   refine spO 47 h rfl (fun hb22 h=>?_) (fun hb22 h=>?_)
   ·refine rn 11 rfl ?_
    exact rt h rfl
   refine rn 6 rfl ?_
   refine spC h rfl (fun hb23 h=>?_) (fun hb23 h=>?_)
   ·refine rn 4 rfl ?_
    exact rt h rfl
   refine rn 4 rfl ?_
   refine cl h rfl rfl rfl (W106 _ _) rfl (fun y24 hx25 h=>?_)
   refine rn 3 rfl ?_
   refine spC h rfl (fun hb26 h=>?_) (fun hb26 h=>?_)
   ·refine rn 4 rfl ?_
    exact rt h rfl
   refine rn 2 rfl ?_
   exact jX () h (gr [0] rfl (hB rfl rfl rfl .nil) rfl)
  refine rn 1 rfl ?_
  exact jX () h (gr [0] rfl (hB rfl rfl rfl .nil) rfl)
 intro _ h
 refine rn 5 rfl ?_
 refine ln rfl rfl ?_
 refine rn 2 rfl ?_
 refine jK h (fun _:Unit=>(⟨[],[],0⟩:St)) (fun k27 (_:Unit)=>k27=some r) (fun k27 h=>?_) ?_
 ·refine rn 1 rfl ?_
  refine wl (A:=a1.Kids) 58 rfl (fun hA38=>?_)
  refine lC (fun(p:Int)=>(⟨[(58,(V.lst 6 (a1.Kids.map KRow.row))),(59,(iV ((a1.Kids.length:Nat):Int))),(60,(iV p))],[],0⟩:St)) (fun n p=>RG a1.Kids (fun tl nn=>M87_L1 R87 F k27 tl=some r) n p) (fun p h=>RG.zero h) (a1.Kids.length+1) 0 (RG.start h) (g0 rfl rfl) (fun n n29 h=>?_)
  refine rn 5 rfl ?_
  refine spL rfl (fun hb30=>?_) (fun hb30=>?_)
  ·obtain⟨x31,tl,hx32,h,hk1⟩:=RG.t hA38 h hb30
   unfold M87_L1 at h
   refine rn 5 rfl ?_
   refine ixh hx32 rfl rfl ?_
   obtain⟨y33,hx34,h⟩:=bind_some h
   refine kroO 62 hx34 rfl ?_
   refine rn 7 rfl ?_
   refine cl h rfl rfl rfl (hR87 _) rfl (fun y35 hx36 h=>?_)
   refine rn 7 rfl ?_
   refine spC h rfl (fun hb37 h=>?_) (fun hb37 h=>?_)
   ·refine rn 5 rfl ?_
    exact rt h rfl
   refine rn 6 rfl ?_
   exact jX (w64 (n29+1)) (hk1 _ h) (g0 rfl rfl)
  replace h:=RG.f h hb30
  unfold M87_L1 at h
  refine rn 1 rfl ?_
  exact jX () h (g0 rfl rfl)
 intro _ h
 refine rn 4 rfl ?_
 exact rt h rfl
theorem W87:∀(F:Nat) (a1:TTest) (r:Int) (h:M87 F a1=some r),Pure Tryz.prog 87 [(V.agg (encTTest a1))] (iV r):=by
 intro F
 induction F with
 |zero=>intros;simp[M87] at *
 |succ F ih=>exact fun a1 r h=>W87_B (M87 F) ih F a1 r h
theorem W30(F:Nat)(a1:TTest)(r:Int)(h:M30 F a1=some r):Pure Tryz.prog 30 [(V.agg (encTTest a1))] (iV r):=by
 refine pin (fun r=>(iV r)) r rfl Tryz.func30 rfl rfl rfl rfl rfl (fun w0 m0 hg=>?_)
 unfold M30 at h
 refine rn 9 rfl ?_
 refine cl h rfl rfl rfl (W86 _ _ _) rfl (fun y2 hx3 h=>?_)
 refine rn 11 rfl ?_
 refine spO 12 h rfl (fun hb4 h=>?_) (fun hb4 h=>?_)
 ·refine rn 9 rfl ?_
  exact rt h rfl
 refine rn 4 rfl ?_
 refine spC h rfl (fun hb5 h=>?_) (fun hb5 h=>?_)
 ·refine rn 4 rfl ?_
  exact rt h rfl
 refine rn 4 rfl ?_
 refine cl h rfl rfl rfl (W87 _ _) rfl (fun y6 hx7 h=>?_)
 refine rn 2 rfl ?_
 exact rt h rfl
theorem W149(F:Nat)(a1:(List UInt8))(a2:Int)(r:Int)(h:M149 F a1 a2=some r):Pure Tryz.prog 149 [(sV a1),(V.con (.int .u8 a2))] (iV r):=by
 unfold M149 at h
 replace h:=Option.some.inj h
 subst h
 exact pure_indexByte (fun c w=>Go.Proofs.Tryz.strings_IndexByte _ c w)
theorem W151(F:Nat)(a1:TPolicyRule)(a2:List UInt8)(a3:List UInt8)(a4:Int)(a5:Int)(a6:List UInt8)(a7:Int)(r:Bool)(h:M151 F a1 a2 a3 a4 a5 a6 a7=some r):Pure Tryz.prog 151 [(V.agg (encTPolicyRule a1)),(V.iptr [(sV a2),(sV a3),(iV a4),(iV a5),(sV a6),(iV a7)] 0)] (bV r):=by
 refine pin (fun r=>(bV r)) r rfl Tryz.func151 rfl rfl rfl rfl rfl (fun w0 m0 hg=>?_)
 unfold M151 at h
 refine rn 14 rfl ?_
 exact rt h rfl
theorem W163(F:Nat)(a1:(List TPolicyRule))(a2:List UInt8)(a3:List UInt8)(a4:Int)(a5:Int)(a6:List UInt8)(a7:Int)(r:Int)(h:M163 F a1 a2 a3 a4 a5 a6 a7=some r):Pure Tryz.prog 163 [(V.lst 9 (a1.map encTPolicyRule)),(V.fn (.func 151) [] [(V.iptr [(sV a2),(sV a3),(iV a4),(iV a5),(sV a6),(iV a7)] 0)])] (iV r):=by
 refine pin (fun r=>(iV r)) r rfl Tryz.func163 rfl rfl rfl rfl rfl (fun w0 m0 hg=>?_)
 unfold M163 at h
 refine rn 8 rfl ?_
 refine ln rfl rfl ?_
 refine rn 2 rfl ?_
 refine jK h (fun _:Unit=>(⟨[],[],0⟩:St)) (fun k8 (_:Unit)=>k8=some r) (fun k8 h=>?_) ?_
 ·refine rn 1 rfl ?_
  refine wl (A:=a1) 0 rfl (fun hA17=>?_)
  refine lC (fun(p:Int)=>(⟨[(0,(V.lst 9 (a1.map encTPolicyRule))),(1,(V.fn (.func 151) [] [(V.iptr [(sV a2),(sV a3),(iV a4),(iV a5),(sV a6),(iV a7)] 0)])),(7,(iV ((a1.length:Nat):Int))),(8,(iV p))],[],0⟩:St)) (fun n p=>RG a1 (fun tl nn=>M163_L1 F a2 a3 a4 a5 a6 a7 k8 tl nn=some r) n p) (fun p h=>RG.zero h) (a1.length+1) 0 (RG.start h) (g0 rfl rfl) (fun n n10 h=>?_)
  refine rn 5 rfl ?_
  refine spL rfl (fun hb11=>?_) (fun hb11=>?_)
  ·obtain⟨x12,tl,hx13,h,hk1⟩:=RG.t hA17 h hb11
   unfold M163_L1 at h
   refine rn 13 rfl ?_
   refine ixh hx13 rfl rfl ?_
   refine rn 1 rfl ?_
   refine cl h rfl rfl rfl (W151 _ _ _ _ _ _ _ _) rfl (fun y14 hx15 h=>?_)
   refine rn 1 rfl ?_
   refine spC h rfl (fun hb16 h=>?_) (fun hb16 h=>?_)
   ·refine rn 5 rfl ?_
    exact rt h rfl
   refine rn 6 rfl ?_
   exact jX (w64 (n10+1)) (hk1 _ h) (g0 rfl rfl)
  replace h:=RG.f h hb11
  unfold M163_L1 at h
  refine rn 1 rfl ?_
  exact jX () h (g0 rfl rfl)
 intro _ h
 refine rn 4 rfl ?_
 exact rt h rfl
theorem W150(F:Nat)(a1:(List TPolicyRule))(a2:List UInt8)(a3:List UInt8)(a4:Int)(a5:Int)(a6:List UInt8)(a7:Int)(r:Bool)(h:M150 F a1 a2 a3 a4 a5 a6 a7=some r):Pure Tryz.prog 150 [(V.lst 9 (a1.map encTPolicyRule)),(V.fn (.func 151) [] [(V.iptr [(sV a2),(sV a3),(iV a4),(iV a5),(sV a6),(iV a7)] 0)])] (bV r):=by
 refine pin (fun r=>(bV r)) r rfl Tryz.func150 rfl rfl rfl rfl rfl (fun w0 m0 hg=>?_)
 unfold M150 at h
 refine rn 8 rfl ?_
 refine cl h rfl rfl rfl (W163 _ _ _ _ _ _ _ _) rfl (fun y8 hx9 h=>?_)
 refine rn 3 rfl ?_
 exact rt h rfl
theorem W113(F:Nat)(a1:TPolicy)(a2:TWaiver)(r:Int)(h:M113 F a1 a2=some r):Pure Tryz.prog 113 [(V.agg (encTPolicy a1)),(V.agg (encTWaiver a2))] (iV r):=by
 refine pin (fun r=>(iV r)) r rfl Tryz.func113 rfl rfl rfl rfl rfl (fun w0 m0 hg=>?_)
 unfold M113 at h
 refine rn 10 rfl ?_
 refine cl h rfl rfl rfl (W149 _ _ _) rfl (fun y3 hx4 h=>?_)
 obtain⟨y5,hx6,h⟩:=bind_some h
 refine rn 9 rfl ?_
 refine aops_lend_call (bV y5) [(V.lst 9 (a1.Rules.map encTPolicyRule)),(V.fn (.func 151) [] [(V.iptr (encTWaiver a2) 0)])] fOk150 (ghost_frzV 1 12 (V.fn (.func 151) [] [(V.iptr (encTWaiver a2) 0)]) rfl (imms_rows (.cons (imms_encTWaiver _) .nil)) rfl (Sub.fnc (.cons (Sub.frzptr rfl) .nil))) (Flat.con _) wants_none (evm_cons rfl (evm_cons rfl evm_nil)) (.cons (Imm.lst _ _) (.cons (Imm.fn .nil (.cons (Imm.iptr _ _) .nil)) .nil)) (W150 F a1.Rules a2.Rule a2.Subject a2.From a2.To a2.Owner a2.Level y5 hx6) rfl ?_
 refine fo (rn 3 rfl ?_)
 refine jK h (fun _:Unit=>(⟨[],[],0⟩:St)) (fun k7 (_:Unit)=>k7=some r) (fun k7 h=>?_) ?_
 ·refine spC h rfl (fun hb8 h=>?_) (fun hb8 h=>?_)
  ·refine rn 4 rfl ?_
   exact rt h rfl
  refine rn 4 rfl ?_
  refine cl h rfl rfl rfl (W105 _ _) rfl (fun y9 hx10 h=>?_)
  refine rn 2 rfl ?_
  refine spO 20 h rfl (fun hb11 h=>?_) (fun hb11 h=>?_)
  ·refine rn 18 rfl ?_
   exact rt h rfl
  refine rn 3 rfl ?_
  refine spO 23 h rfl (fun hb12 h=>?_) (fun hb12 h=>?_)
  ·refine rn 10 rfl ?_
   refine spC h rfl (fun hb13 h=>?_) (fun hb13 h=>?_)
   ·refine rn 4 rfl ?_
    exact rt h rfl
   refine rn 6 rfl ?_
   refine spO 36 h rfl (fun hb14 h=>?_) (fun hb14 h=>?_)
   ·refine rn 18 rfl ?_
    exact rt h rfl
   refine rn 7 rfl ?_
   refine spO 43 h rfl (fun hb15 h=>?_) (fun hb15 h=>?_)
   ·refine rn 11 rfl ?_
    exact rt h rfl
   refine rn 6 rfl ?_
   refine spC h rfl (fun hb16 h=>?_) (fun hb16 h=>?_)
   ·refine rn 4 rfl ?_
    exact rt h rfl
   refine rn 4 rfl ?_
   refine cl h rfl rfl rfl (W31 _ _) rfl (fun y17 hx18 h=>?_)
   refine rn 3 rfl ?_
   refine spC h rfl (fun hb19 h=>?_) (fun hb19 h=>?_)
   ·refine rn 4 rfl ?_
    exact rt h rfl
   refine rn 6 rfl ?_
   refine spO 57 h rfl (fun hb20 h=>?_) (fun hb20 h=>?_)
   ·refine rn 11 rfl ?_
    exact rt h rfl
   refine rn 6 rfl ?_
   refine spC h rfl (fun hb21 h=>?_) (fun hb21 h=>?_)
   ·refine rn 4 rfl ?_
    exact rt h rfl
   refine rn 1 rfl ?_
   exact jX () h (g0 rfl rfl)
  refine rn 17 rfl ?_
  refine spO 36 h rfl (fun hb22 h=>?_) (fun hb22 h=>?_)
  ·refine rn 18 rfl ?_
   exact rt h rfl
  refine rn 7 rfl ?_
  refine spO 43 h rfl (fun hb23 h=>?_) (fun hb23 h=>?_)
  ·refine rn 11 rfl ?_
   exact rt h rfl
  refine rn 6 rfl ?_
  refine spC h rfl (fun hb24 h=>?_) (fun hb24 h=>?_)
  ·refine rn 4 rfl ?_
   exact rt h rfl
  refine rn 4 rfl ?_
  refine cl h rfl rfl rfl (W31 _ _) rfl (fun y25 hx26 h=>?_)
  refine rn 3 rfl ?_
  refine spC h rfl (fun hb27 h=>?_) (fun hb27 h=>?_)
  ·refine rn 4 rfl ?_
   exact rt h rfl
  refine rn 6 rfl ?_
  refine spO 57 h rfl (fun hb28 h=>?_) (fun hb28 h=>?_)
  ·refine rn 11 rfl ?_
   exact rt h rfl
  refine rn 6 rfl ?_
  refine spC h rfl (fun hb29 h=>?_) (fun hb29 h=>?_)
  ·refine rn 4 rfl ?_
   exact rt h rfl
  refine rn 1 rfl ?_
  exact jX () h (g0 rfl rfl)
 intro _ h
 refine rn 5 rfl ?_
 exact rt h rfl
theorem W54(F:Nat)(a1:TPolicy)(r:Int)(h:M54 F a1=some r):Pure Tryz.prog 54 [(V.agg (encTPolicy a1))] (iV r):=by
 refine pin (fun r=>(iV r)) r rfl Tryz.func54 rfl rfl rfl rfl rfl (fun w0 m0 hg=>?_)
 unfold M54 at h
 refine rn 10 rfl ?_
 refine ln rfl rfl ?_
 refine rn 2 rfl ?_
 refine spO 14 h rfl (fun hb2 h=>?_) (fun hb2 h=>?_)
 ·refine rn 11 rfl ?_
  exact rt h rfl
 refine rn 2 rfl ?_
 refine ln rfl rfl ?_
 refine rn 3 rfl ?_
 refine spC h rfl (fun hb3 h=>?_) (fun hb3 h=>?_)
 ·refine rn 4 rfl ?_
  exact rt h rfl
 refine rn 11 rfl ?_
 refine ln rfl rfl ?_
 refine rn 2 rfl ?_
 refine jK h (fun _:Unit=>(⟨[(1,(V.ptr 0 2 0 0))],[(0,(Ob.arr 49 2 [(encTPolicy a1)]))],1⟩:St)) (fun k4 (_:Unit)=>k4=some r) (fun k4 h=>?_) ?_
 ·refine rn 1 rfl ?_
  refine wl (A:=a1.Rules) 11 rfl (fun hA24=>?_)
  refine lC (fun(p:Int×(List ((List UInt8)×Bool)))=>(⟨[(1,(V.ptr 0 2 0 0)),(3,(V.map 1)),(22,(V.lst 9 (a1.Rules.map encTPolicyRule))),(23,(iV ((a1.Rules.length:Nat):Int))),(24,(iV (p.1)))],[(0,(Ob.arr 49 2 [(encTPolicy a1)])),(1,(Ob.map ((p.2).map encM9_4)))],2⟩:St)) (fun n p=>RG a1.Rules (fun tl nn=>M54_L1 F k4 tl p.2=some r) n p.1) (fun p h=>RG.zero h) (a1.Rules.length+1) (0,([]:List ((List UInt8)×Bool))) (RG.start h) (gr [0,1] rfl (hB rfl rfl rfl (hM rfl rfl .nil)) rfl) (fun n p h=>?_)
  obtain⟨n7,m8⟩:=p
  refine rn 5 rfl ?_
  refine spL rfl (fun hb9=>?_) (fun hb9=>?_)
  ·obtain⟨x10,tl,hx11,h,hk1⟩:=RG.t hA24 h hb9
   unfold M54_L1 at h
   refine rn 5 rfl ?_
   refine ixh hx11 rfl rfl ?_
   refine rn 10 rfl ?_
   refine cl h rfl rfl rfl (W31 _ _) rfl (fun y12 hx13 h=>?_)
   refine rn 3 rfl ?_
   refine spC h rfl (fun hb14 h=>?_) (fun hb14 h=>?_)
   ·refine rn 4 rfl ?_
    exact rt h rfl
   refine rn 5 rfl ?_
   refine aops_lookup _ (bV false) (bV ((mget m8 x10.Name).getD false)) tMap92 tKey9 tZo4 (irel_con _) wants_none rfl (.own rfl) (.con rfl) ⟨_,rfl⟩ encM9_4_good (encM9_4_look m8 x10.Name) (getD_map (encM9_4_val) (mget m8 x10.Name) false) rfl ?_
   refine fo (rn 2 rfl ?_)
   refine spC h rfl (fun hb15 h=>?_) (fun hb15 h=>?_)
   ·refine rn 4 rfl ?_
    exact rt h rfl
   refine rn 4 rfl ?_
   refine cl h rfl rfl rfl (W31 _ _) rfl (fun y16 hx17 h=>?_)
   refine rn 3 rfl ?_
   refine spC h rfl (fun hb18 h=>?_) (fun hb18 h=>?_)
   ·refine rn 4 rfl ?_
    exact rt h rfl
   refine rn 7 rfl ?_
   refine aops_mapUpdate (es:=m8.map encM9_4) ((mput m8 x10.Name true).map encM9_4) tMap92 tKey9 wants_none rfl rfl (.con rfl) ⟨_,rfl⟩ encM9_4_good rfl (encM9_4_puts m8 x10.Name true) ?_
   refine fo (rn 6 rfl ?_)
   refine cl h rfl rfl rfl (W30 _ _) rfl (fun y19 hx20 h=>?_)
   refine rn 7 rfl ?_
   refine spC h rfl (fun hb21 h=>?_) (fun hb21 h=>?_)
   ·refine rn 5 rfl ?_
    exact rt h rfl
   refine rn 7 rfl ?_
   refine spO 55 h rfl (fun hb22 h=>?_) (fun hb22 h=>?_)
   ·refine rn 10 rfl ?_
    exact rt h rfl
   refine rn 5 rfl ?_
   refine spC h rfl (fun hb23 h=>?_) (fun hb23 h=>?_)
   ·refine rn 4 rfl ?_
    exact rt h rfl
   refine rn 6 rfl ?_
   exact jX ((w64 (n7+1)),(mput m8 x10.Name true)) (hk1 _ h) (gr [0,1] rfl (hB rfl rfl rfl (hM rfl rfl .nil)) rfl)
  replace h:=RG.f h hb9
  unfold M54_L1 at h
  refine rn 1 rfl ?_
  exact jX () h (gr [0] rfl (hB rfl rfl rfl .nil) rfl)
 intro _ h
 refine rn 5 rfl ?_
 refine ln rfl rfl ?_
 refine rn 2 rfl ?_
 refine jK h (fun _:Unit=>(⟨[],[],0⟩:St)) (fun k25 (_:Unit)=>k25=some r) (fun k25 h=>?_) ?_
 ·refine rn 1 rfl ?_
  refine wl (A:=a1.Waivers) 62 rfl (fun hA34=>?_)
  refine lC (fun(p:Int)=>(⟨[(1,(V.ptr 0 2 0 0)),(62,(V.lst 6 (a1.Waivers.map encTWaiver))),(63,(iV ((a1.Waivers.length:Nat):Int))),(64,(iV p))],[(0,(Ob.arr 49 2 [(encTPolicy a1)]))],1⟩:St)) (fun n p=>RG a1.Waivers (fun tl nn=>M54_L2 F a1 k25 tl=some r) n p) (fun p h=>RG.zero h) (a1.Waivers.length+1) 0 (RG.start h) (gr [0] rfl (hB rfl rfl rfl .nil) rfl) (fun n n27 h=>?_)
  refine rn 5 rfl ?_
  refine spL rfl (fun hb28=>?_) (fun hb28=>?_)
  ·obtain⟨x29,tl,hx30,h,hk2⟩:=RG.t hA34 h hb28
   unfold M54_L2 at h
   refine rn 5 rfl ?_
   refine ixh hx30 rfl rfl ?_
   refine rn 8 rfl ?_
   refine cl h rfl rfl rfl (W113 _ _ _) rfl (fun y31 hx32 h=>?_)
   refine rn 7 rfl ?_
   refine spC h rfl (fun hb33 h=>?_) (fun hb33 h=>?_)
   ·refine rn 5 rfl ?_
    exact rt h rfl
   refine rn 6 rfl ?_
   exact jX (w64 (n27+1)) (hk2 _ h) (gr [0] rfl (hB rfl rfl rfl .nil) rfl)
  replace h:=RG.f h hb28
  unfold M54_L2 at h
  refine rn 1 rfl ?_
  exact jX () h (g0 rfl rfl)
 intro _ h
 refine rn 4 rfl ?_
 exact rt h rfl
theorem W55(F:Nat)(a1:TPolicy)(a2:(List UInt8))(r:(List Int))(h:M55 F a1 a2=some r):Pure Tryz.prog 55 [(V.agg (encTPolicy a1)),(sV a2)] (V.lst 1 (r.map encI_i64)):=by
 refine pin (fun r=>(V.lst 1 (r.map encI_i64))) r rfl Tryz.func55 rfl rfl rfl rfl rfl (fun w0 m0 hg=>?_)
 unfold M55 at h
 refine rn 14 rfl ?_
 refine ln rfl rfl ?_
 refine rn 2 rfl ?_
 refine jK h (fun(p:(List Int))=>(⟨[(5,(V.own 0 p.length))],[(0,(Ob.arr 3 1 (p.map encI_i64)))],1⟩:St)) (fun k3 p=>k3 p=some r) (fun k3 h=>?_) ?_
 ·refine rn 1 rfl ?_
  refine wl (A:=a1.Rules) 9 rfl (fun hA16=>?_)
  refine lC (fun(p:Int×(List Int))=>(⟨[(1,(sV a2)),(5,(V.own 0 (p.2).length)),(9,(V.lst 9 (a1.Rules.map encTPolicyRule))),(10,(iV ((a1.Rules.length:Nat):Int))),(11,(iV (p.1)))],[(0,(Ob.arr 3 1 ((p.2).map encI_i64)))],1⟩:St)) (fun n p=>RG a1.Rules (fun tl nn=>M55_L1 F a2 k3 tl nn p.2=some r) n p.1) (fun p h=>RG.zero h) (a1.Rules.length+1) (0,([]:List Int)) (RG.start h) (Ghost.trans (ghost_nilE 5 3 1 rfl) (ghost_ren 1 (fun i=>([1]:List Nat).getD i 0) _ _ (by decide) (EnvSub.get (.cons (Sub.imm (Imm.con _)) (.cons (Sub.ownE rfl rfl (by simp)) (.cons (Sub.imm (Imm.lst _ _)) (.cons (Sub.imm (Imm.con _)) (.cons (Sub.imm (Imm.con _)) .nil)))))) (HpSub.get (.cons rfl (ObSub.rows (rows_imm imms_encI_i64)) .nil)) rfl)) (fun n p h=>?_)
  obtain⟨n7,l8⟩:=p
  refine rn 5 rfl ?_
  refine spL rfl (fun hb9=>?_) (fun hb9=>?_)
  ·obtain⟨x10,tl,hx11,h,hk1⟩:=RG.t hA16 h hb9
   unfold M55_L1 at h
   refine rn 6 rfl ?_
   refine ixh hx11 rfl rfl ?_
   refine rn 12 rfl ?_
   refine jK h (fun(p:(List Int))=>(⟨[(1,(sV a2)),(5,(V.own 0 p.length)),(9,(V.lst 9 (a1.Rules.map encTPolicyRule))),(10,(iV ((a1.Rules.length:Nat):Int))),(11,(iV n7))],[(0,(Ob.arr 3 1 (p.map encI_i64)))],1⟩:St)) (fun k12 p=>k12 p=some r) (fun k12 h=>?_) ?_
   ·refine spC h rfl (fun hb14 h=>?_) (fun hb14 h=>?_)
    ·refine rn 3 rfl ?_
     refine aops_buildSlice [(0,(iV n7))] [[(iV n7)]] tEl51 tZ3 rfl rfl rfl rfl wants_none (evp_cons rfl evp_nil) rfl rfl (by simp) rfl ?_
     refine fo ?_
     refine apO encI_i64 h rfl rfl rfl rfl rfl rfl rfl rfl (fun h=>?_)
     refine rn 2 rfl ?_
     exact jX (l8++([n7]:List Int)) h (gr [3] rfl (hR rfl rfl .nil) rfl)
    refine rn 1 rfl ?_
    exact jX l8 h (gr [0] rfl (hR rfl rfl .nil) rfl)
   intro l13 h
   refine rn 5 rfl ?_
   exact jX ((w64 (n7+1)),l13) (hk1 _ h) (gr [0] rfl (hR rfl rfl .nil) rfl)
  replace h:=RG.f h hb9
  unfold M55_L1 at h
  refine rn 1 rfl ?_
  exact jX l8 h (gr [0] rfl (hR rfl rfl .nil) rfl)
 intro l4 h
 refine rn 5 rfl ?_
 refine awp_ghost (ghost_frzEs 0 [4,5,25] rfl (rows_imm imms_encI_i64) (List.forall_mem_cons.2 ⟨rfl,(List.forall_mem_cons.2 ⟨rfl,(List.forall_mem_cons.2 ⟨rfl,(fun _ hx=>nomatch hx)⟩)⟩)⟩) (List.length_map ..).symm) ?_
 refine fa ?_
 exact rt h rfl
theorem W32_B(R32:TTest->Option KV)(hR32:∀(a1:TTest) (r:KV),R32 a1=some r->Pure Tryz.prog 32 [(V.agg (encTTest a1))] (V.ifc r.t r.d))(F:Nat)(a1:TTest)(r:KV)(h:M32_B R32 F a1=some r):Pure Tryz.prog 32 [(V.agg (encTTest a1))] (V.ifc r.t r.d):=by
 refine pin (fun r=>(V.ifc r.t r.d)) r rfl Tryz.func32 rfl rfl rfl rfl rfl (fun w0 m0 hg=>?_)
 unfold M32_B at h
 refine rn 14 rfl ?_
 refine ln rfl rfl ?_
 refine rn 2 rfl ?_
 refine jK h (fun(p:(List KV))=>(⟨[(1,(V.ptr 0 6 0 0)),(3,(V.own 1 p.length))],[(0,(Ob.arr 25 6 [(encTTest a1)])),(1,(Ob.arr 75 1 (p.map KV.enc)))],2⟩:St)) (fun k2 p=>k2 p=some r) (fun k2 h=>?_) ?_
 ·refine rn 1 rfl ?_
  refine wl (A:=a1.Kids) 7 rfl (fun hA16=>?_)
  refine lC (fun(p:Int×(List KV))=>(⟨[(1,(V.ptr 0 6 0 0)),(3,(V.own 1 (p.2).length)),(7,(V.lst 6 (a1.Kids.map KRow.row))),(8,(iV ((a1.Kids.length:Nat):Int))),(9,(iV (p.1)))],[(0,(Ob.arr 25 6 [(encTTest a1)])),(1,(Ob.arr 75 1 ((p.2).map KV.enc)))],2⟩:St)) (fun n p=>RG a1.Kids (fun tl nn=>M32_L1 R32 F k2 tl p.2=some r) n p.1) (fun p h=>RG.zero h) (a1.Kids.length+1) (0,([]:List KV)) (RG.start h) (Ghost.trans (ghost_nilE 3 75 1 rfl) (ghost_ren 2 (fun i=>([0,1]:List Nat).getD i 0) _ _ (by decide) (EnvSub.get (.cons (Sub.ptr rfl rfl) (.cons (Sub.ownE rfl rfl (by simp)) (.cons (Sub.imm (Imm.lst _ _)) (.cons (Sub.imm (Imm.con _)) (.cons (Sub.imm (Imm.con _)) .nil)))))) (HpSub.get (.cons rfl (ObSub.box (.cons (Sub.imm (Imm.con _)) (.cons (Sub.imm (Imm.con _)) (.cons (Sub.imm (Imm.lst _ _)) (.cons (Sub.imm (Imm.con _)) (.cons (Sub.imm (Imm.con _)) (.cons (Sub.imm (Imm.lst _ _)) .nil))))))) (.cons rfl (ObSub.rows (rows_imm KV.enc_imm)) .nil))) rfl)) (fun n p h=>?_)
  obtain⟨n6,l7⟩:=p
  refine rn 5 rfl ?_
  refine spL rfl (fun hb8=>?_) (fun hb8=>?_)
  ·obtain⟨x9,tl,hx10,h,hk1⟩:=RG.t hA16 h hb8
   unfold M32_L1 at h
   refine rn 5 rfl ?_
   refine ixh hx10 rfl rfl ?_
   obtain⟨y11,hx12,h⟩:=bind_some h
   refine kroO 11 hx12 rfl ?_
   refine rn 7 rfl ?_
   refine cl h rfl rfl rfl (hR32 _) rfl (fun y13 hx14 h=>?_)
   refine aops_buildSlice [(0,(V.ifc y13.t y13.d))] [[(V.ifc y13.t y13.d)]] tEl109 tZ75 rfl rfl rfl rfl wants_none (evp_cons rfl evp_nil) rfl rfl (by simp) rfl ?_
   refine fo ?_
   refine apO KV.enc h rfl rfl rfl rfl rfl rfl rfl rfl (fun h=>?_)
   refine rn 7 rfl ?_
   exact jX ((w64 (n6+1)),(l7++([y13]:List KV))) (hk1 _ h) (gr [0,4] rfl (hB rfl rfl rfl (hR rfl rfl .nil)) rfl)
  replace h:=RG.f h hb8
  unfold M32_L1 at h
  refine rn 1 rfl ?_
  exact jX l7 h (gr [0,1] rfl (hB rfl rfl rfl (hR rfl rfl .nil)) rfl)
 intro l3 h
 refine rn 12 rfl ?_
 refine spC h rfl (fun hb17 h=>?_) (fun hb17 h=>?_)
 ·refine rn 7 rfl ?_
  refine aops_mkIfc tCn147 wants_none rfl (Imm.agg (.cons (Imm.con _) (.cons (Imm.lst _ _) .nil))) rfl ?_
  refine fo (rn 2 rfl ?_)
  exact rt h rfl
 refine rn 5 rfl ?_
 refine spC h rfl (fun hb18 h=>?_) (fun hb18 h=>?_)
 ·refine rn 7 rfl ?_
  refine aops_mkIfc tCn148 wants_none rfl (Imm.agg (.cons (Imm.con _) (.cons (Imm.lst _ _) .nil))) rfl ?_
  refine fo (rn 2 rfl ?_)
  exact rt h rfl
 refine rn 5 rfl ?_
 refine spC h rfl (fun hb19 h=>?_) (fun hb19 h=>?_)
 ·refine rn 5 rfl ?_
  refine aops_mkIfc tCn150 wants_none rfl (Imm.agg (.cons (Imm.con _) .nil)) rfl ?_
  refine fo (rn 2 rfl ?_)
  exact rt h rfl
 refine rn 5 rfl ?_
 refine spC h rfl (fun hb20 h=>?_) (fun hb20 h=>?_)
 ·refine rn 9 rfl ?_
  refine aops_mkIfc tCn152 wants_none rfl (Imm.agg (.cons (Imm.con _) (.cons (Imm.con _) (.cons (Imm.con _) .nil)))) rfl ?_
  refine fo (rn 2 rfl ?_)
  exact rt h rfl
 refine rn 5 rfl ?_
 refine spC h rfl (fun hb21 h=>?_) (fun hb21 h=>?_)
 ·refine rn 3 rfl ?_
  refine ixo (a:=l3) h rfl rfl rfl (fun x22 hx23 h=>?_)
  refine ldp hx23 rfl rfl rfl rfl ?_
  refine rn 1 rfl ?_
  refine aops_mkIfc tCn154 wants_none rfl (Imm.agg (.cons (Imm.ifc _ _) .nil)) rfl ?_
  refine fo (rn 2 rfl ?_)
  exact rt h rfl
 refine rn 5 rfl ?_
 refine spC h rfl (fun hb24 h=>?_) (fun hb24 h=>?_)
 ·refine rn 4 rfl ?_
  refine aops_ghost (ghost_frzV 1 63 (V.agg [(V.lst 1 (l3.map KV.enc))]) rfl (rows_imm KV.enc_imm) rfl (Sub.agg (.cons (Sub.frzAll (rows:=l3.map KV.enc) (List.length_map ..).symm) .nil))) ?_
  refine aops_mkIfc tCn156 wants_none rfl (Imm.agg (.cons (Imm.lst _ _) .nil)) rfl ?_
  refine fo (rn 2 rfl ?_)
  exact rt h rfl
 refine rn 5 rfl ?_
 refine spC h rfl (fun hb25 h=>?_) (fun hb25 h=>?_)
 ·refine rn 4 rfl ?_
  refine aops_ghost (ghost_frzV 1 68 (V.agg [(V.lst 1 (l3.map KV.enc))]) rfl (rows_imm KV.enc_imm) rfl (Sub.agg (.cons (Sub.frzAll (rows:=l3.map KV.enc) (List.length_map ..).symm) .nil))) ?_
  refine aops_mkIfc tCn157 wants_none rfl (Imm.agg (.cons (Imm.lst _ _) .nil)) rfl ?_
  refine fo (rn 2 rfl ?_)
  exact rt h rfl
 refine rn 5 rfl ?_
 refine aops_mkIfc tCn159 wants_none rfl (Imm.agg .nil) rfl ?_
 refine fo (rn 2 rfl ?_)
 exact rt h rfl
theorem W32:∀(F:Nat) (a1:TTest) (r:KV) (h:M32 F a1=some r),Pure Tryz.prog 32 [(V.agg (encTTest a1))] (V.ifc r.t r.d):=by
 intro F
 induction F with
 |zero=>intros;simp[M32] at *
 |succ F ih=>exact fun a1 r h=>W32_B (M32 F) ih F a1 r h
theorem W89(F:Nat)(a1:(List UInt8))(a2:List ((List UInt8)×(Option Tpolicy_subject)))(r:(List ((List UInt8)×(Option Tpolicy_subject))×Tpolicy_subject))(h:M89 F a1 a2=some r):Mut Tryz.prog 89 [(sV a1),(V.ptr 0 1 0 0)] 2 [(0,(Ob.arr 77 1 [[(V.map 1)]])),(1,(Ob.map (a2.map encM9_335)))] (resV [(V.ptr 2 7 0 0)]) 6 [(0,(Ob.arr 77 1 [[(V.map 1)]])),(1,(Ob.map (holeP encM9_335 (V.ptr 2 7 0 0) a1 r.1))),(2,(Ob.arr 161 7 [[(V.own 3 r.2.is.length),(V.own 4 r.2.begins.length),(V.own 5 r.2.numbers.length),(bV r.2.asText),(bV r.2.asNo),(bV r.2.has),(iV r.2.weight)]])),(3,(Ob.arr 9 1 (r.2.is.map encS))),(4,(Ob.arr 9 1 (r.2.begins.map encS))),(5,(Ob.arr 3 1 (r.2.numbers.map encI_i64)))]:=of_M89 F a1 a2 r h
theorem W33_B(R33:KV->(List ((List UInt8)×(Option Tpolicy_subject)))->Option (List ((List UInt8)×(Option Tpolicy_subject))))(hR33:∀(a1:KV) (a2:List ((List UInt8)×(Option Tpolicy_subject))) (r:(List ((List UInt8)×(Option Tpolicy_subject)))),R33 a1 a2=some r->Mut Tryz.prog 33 [(V.ifc a1.t a1.d),(V.map 0)] 1 [(0,(Ob.map (a2.map encM9_335)))] (resV []) 1 [(0,(Ob.map (r.map encM9_335)))])(F:Nat)(a1:KV)(a2:List ((List UInt8)×(Option Tpolicy_subject)))(r:(List ((List UInt8)×(Option Tpolicy_subject))))(h:M33_B R33 F a1 a2=some r):Mut Tryz.prog 33 [(V.ifc a1.t a1.d),(V.map 0)] 1 [(0,(Ob.map (a2.map encM9_335)))] (resV []) 1 [(0,(Ob.map (r.map encM9_335)))]:=by
 refine mut_enter Tryz.func33 rfl rfl (l:=[]) rfl rfl [(0,(V.ifc a1.t a1.d)),(1,(V.map 0))] rfl (fun w0 m0 β0 hg=>en ?_)
 unfold M33_B at h
 refine rn 16 rfl ?_
 refine bs h (fun hb62 h=>?_) (fun hb62 h=>?_)
 ·obtain⟨y63,hx64,h⟩:=bind_some h
  refine aops_tassT (k:=a1) tNI147 hx64 wants_none rfl rfl ?_
  obtain⟨y65,hx66,h⟩:=bind_some h
  refine fo (rn 14 rfl ?_)
  refine aops_mcallvS (V.ptr 3 7 0 0) [(sV y63.name),(V.ptr 1 1 0 0)] (fun i=>([1,0]:List Nat).getD i 0) (fun i=>([1,0,3,4,5,6]:List Nat).getD i 0) 3 7 [(1,(Ob.arr 77 1 [[(V.map 0)]])),(0,(Ob.map (holeP encM9_335 (V.ptr 3 7 0 0) y63.name (y65.1)))),(3,(Ob.arr 161 7 [[(V.own 4 (y65.2).is.length),(V.own 5 (y65.2).begins.length),(V.own 6 (y65.2).numbers.length),(bV (y65.2).asText),(bV (y65.2).asNo),(bV (y65.2).has),(iV (y65.2).weight)]])),(4,(Ob.arr 9 1 ((y65.2).is.map encS))),(5,(Ob.arr 9 1 ((y65.2).begins.map encS))),(6,(Ob.arr 3 1 ((y65.2).numbers.map encI_i64)))] fOk89 wants_none rfl rfl rfl (.cons (Sub.imm (Imm.con _)) (.cons (Sub.ptr rfl rfl) .nil)) (.cons rfl (ObSub.box (.cons (Sub.map rfl rfl) .nil)) (.cons rfl (ObSub.mapsK ents_keepK) .nil)) (W89 F y63.name a2 y65 hx66) rfl rfl rfl rfl (Sub.ptrT rfl rfl) (.cons rfl (ObSub.box (.cons (Sub.mapT rfl rfl) .nil)) (.cons rfl (ObSub.holePT rfl rfl) (.cons rfl (ObSub.box (.cons (Sub.ownT rfl rfl) (.cons (Sub.ownT rfl rfl) (.cons (Sub.ownT rfl rfl) (.cons (Sub.immT (Imm.con _)) (.cons (Sub.immT (Imm.con _)) (.cons (Sub.immT (Imm.con _)) (.cons (Sub.immT (Imm.con _)) .nil)))))))) (.cons rfl (ObSub.rowsT (rows_imm imms_encS)) (.cons rfl (ObSub.rowsT (rows_imm imms_encS)) (.cons rfl (ObSub.rowsT (rows_imm imms_encI_i64)) .nil)))))) _ rfl ?_
  refine fo (rn 2 rfl ?_)
  refine ck h (fun hc67 h=>?_)
  refine awp_ghost ghost_res ?_
  refine fa ?_
  refine dr mixed (vs 9 rfl (xD (OD.mk [(34,(V.own 4 (y65.2).is.length)),(36,(V.lst 1 (y63.texts.map encS)))] [(4,(Ob.arr 9 1 ((y65.2).is.map encS))),(7,Ob.res)] [(37,(V.own 7 ((y65.2).is++y63.texts).length))] [(7,(Ob.arr 9 1 (((y65.2).is++y63.texts).map encS))),(4,Ob.dead)]) ⟨⟨rfl,rfl,trivial⟩,⟨rfl,rfl,trivial⟩⟩ (by exact fun S hn h hh=>aops_append_at 7 rfl hn hh.2.1 (y63.texts.map encS) (((y65.2).is++y63.texts).map encS) tEl22 tIsSl22 rfl rfl wants_none h.1 hh.1 (by simp) h.2.1 (.lst (rows_one one_encS)) (map_snoc encS (y65.2).is y63.texts) (List.length_map ..) hc67 rfl (aops_nil ⟨rfl,rfl⟩)) rfl (vs 6 rfl (nD rfl rfl rfl (vs 10 rfl .nil))))) (by kernel_rfl) ?_
  refine rn 1 rfl ?_
  replace h:=Option.some.inj h
  subst h
  exact wE ⟨.inr rfl,[],(Ghost.trans (closeS 0 3 7 5 6 ((y65.2).is++y63.texts) ((y65.2).begins) ((y65.2).numbers) true ((y65.2).asNo) ((y65.2).has) (w64 ((y65.2).weight+((y63.texts.length:Nat):Int))) (M89_some hx66) rfl rfl rfl rfl rfl (by decide)) (gr [0] rfl (hM rfl rfl .nil) rfl)),.nil⟩
 refine aops_tassF (k:=a1) (V.agg [(sV ([]:List UInt8)),(V.lst 1 (([]:List (List UInt8)).map encS))]) tNI147 hb62 tZo147 (irel_aggZ (.con (.sl .nil))) wants_none rfl rfl ?_
 refine fo (rn 6 rfl ?_)
 refine bs h (fun hb68 h=>?_) (fun hb68 h=>?_)
 ·obtain⟨y69,hx70,h⟩:=bind_some h
  refine aops_tassT (k:=a1) tNI148 hx70 wants_none rfl rfl ?_
  obtain⟨y71,hx72,h⟩:=bind_some h
  refine fo (rn 14 rfl ?_)
  refine aops_mcallvS (V.ptr 3 7 0 0) [(sV y69.name),(V.ptr 1 1 0 0)] (fun i=>([1,0]:List Nat).getD i 0) (fun i=>([1,0,3,4,5,6]:List Nat).getD i 0) 3 7 [(1,(Ob.arr 77 1 [[(V.map 0)]])),(0,(Ob.map (holeP encM9_335 (V.ptr 3 7 0 0) y69.name (y71.1)))),(3,(Ob.arr 161 7 [[(V.own 4 (y71.2).is.length),(V.own 5 (y71.2).begins.length),(V.own 6 (y71.2).numbers.length),(bV (y71.2).asText),(bV (y71.2).asNo),(bV (y71.2).has),(iV (y71.2).weight)]])),(4,(Ob.arr 9 1 ((y71.2).is.map encS))),(5,(Ob.arr 9 1 ((y71.2).begins.map encS))),(6,(Ob.arr 3 1 ((y71.2).numbers.map encI_i64)))] fOk89 wants_none rfl rfl rfl (.cons (Sub.imm (Imm.con _)) (.cons (Sub.ptr rfl rfl) .nil)) (.cons rfl (ObSub.box (.cons (Sub.map rfl rfl) .nil)) (.cons rfl (ObSub.mapsK ents_keepK) .nil)) (W89 F y69.name a2 y71 hx72) rfl rfl rfl rfl (Sub.ptrT rfl rfl) (.cons rfl (ObSub.box (.cons (Sub.mapT rfl rfl) .nil)) (.cons rfl (ObSub.holePT rfl rfl) (.cons rfl (ObSub.box (.cons (Sub.ownT rfl rfl) (.cons (Sub.ownT rfl rfl) (.cons (Sub.ownT rfl rfl) (.cons (Sub.immT (Imm.con _)) (.cons (Sub.immT (Imm.con _)) (.cons (Sub.immT (Imm.con _)) (.cons (Sub.immT (Imm.con _)) .nil)))))))) (.cons rfl (ObSub.rowsT (rows_imm imms_encS)) (.cons rfl (ObSub.rowsT (rows_imm imms_encS)) (.cons rfl (ObSub.rowsT (rows_imm imms_encI_i64)) .nil)))))) _ rfl ?_
  refine fo (rn 2 rfl ?_)
  refine ck h (fun hc73 h=>?_)
  refine awp_ghost ghost_res ?_
  refine fa ?_
  refine dr mixed (vs 9 rfl (xD (OD.mk [(65,(V.own 5 (y71.2).begins.length)),(67,(V.lst 1 (y69.texts.map encS)))] [(5,(Ob.arr 9 1 ((y71.2).begins.map encS))),(7,Ob.res)] [(68,(V.own 7 ((y71.2).begins++y69.texts).length))] [(7,(Ob.arr 9 1 (((y71.2).begins++y69.texts).map encS))),(5,Ob.dead)]) ⟨⟨rfl,rfl,trivial⟩,⟨rfl,rfl,trivial⟩⟩ (by exact fun S hn h hh=>aops_append_at 7 rfl hn hh.2.1 (y69.texts.map encS) (((y71.2).begins++y69.texts).map encS) tEl22 tIsSl22 rfl rfl wants_none h.1 hh.1 (by simp) h.2.1 (.lst (rows_one one_encS)) (map_snoc encS (y71.2).begins y69.texts) (List.length_map ..) hc73 rfl (aops_nil ⟨rfl,rfl⟩)) rfl (vs 6 rfl (nD rfl rfl rfl (vs 11 rfl .nil))))) (by kernel_rfl) ?_
  refine rn 1 rfl ?_
  replace h:=Option.some.inj h
  subst h
  exact wE ⟨.inr rfl,[],(Ghost.trans (closeS 0 3 4 7 6 ((y71.2).is) ((y71.2).begins++y69.texts) ((y71.2).numbers) true ((y71.2).asNo) ((y71.2).has) (w64 ((y71.2).weight+(w64 (2*((y69.texts.length:Nat):Int))))) (M89_some hx72) rfl rfl rfl rfl rfl (by decide)) (gr [0] rfl (hM rfl rfl .nil) rfl)),.nil⟩
 refine aops_tassF (k:=a1) (V.agg [(sV ([]:List UInt8)),(V.lst 1 (([]:List (List UInt8)).map encS))]) tNI148 hb68 tZo148 (irel_aggZ (.con (.sl .nil))) wants_none rfl rfl ?_
 refine fo (rn 6 rfl ?_)
 refine bs h (fun hb74 h=>?_) (fun hb74 h=>?_)
 ·obtain⟨y75,hx76,h⟩:=bind_some h
  refine aops_tassT (k:=a1) tNI150 hx76 wants_none rfl rfl ?_
  obtain⟨y77,hx78,h⟩:=bind_some h
  refine fo (rn 13 rfl ?_)
  refine aops_mcallvS (V.ptr 3 7 0 0) [(sV y75.name),(V.ptr 1 1 0 0)] (fun i=>([1,0]:List Nat).getD i 0) (fun i=>([1,0,3,4,5,6]:List Nat).getD i 0) 3 7 [(1,(Ob.arr 77 1 [[(V.map 0)]])),(0,(Ob.map (holeP encM9_335 (V.ptr 3 7 0 0) y75.name (y77.1)))),(3,(Ob.arr 161 7 [[(V.own 4 (y77.2).is.length),(V.own 5 (y77.2).begins.length),(V.own 6 (y77.2).numbers.length),(bV (y77.2).asText),(bV (y77.2).asNo),(bV (y77.2).has),(iV (y77.2).weight)]])),(4,(Ob.arr 9 1 ((y77.2).is.map encS))),(5,(Ob.arr 9 1 ((y77.2).begins.map encS))),(6,(Ob.arr 3 1 ((y77.2).numbers.map encI_i64)))] fOk89 wants_none rfl rfl rfl (.cons (Sub.imm (Imm.con _)) (.cons (Sub.ptr rfl rfl) .nil)) (.cons rfl (ObSub.box (.cons (Sub.map rfl rfl) .nil)) (.cons rfl (ObSub.mapsK ents_keepK) .nil)) (W89 F y75.name a2 y77 hx78) rfl rfl rfl rfl (Sub.ptrT rfl rfl) (.cons rfl (ObSub.box (.cons (Sub.mapT rfl rfl) .nil)) (.cons rfl (ObSub.holePT rfl rfl) (.cons rfl (ObSub.box (.cons (Sub.ownT rfl rfl) (.cons (Sub.ownT rfl rfl) (.cons (Sub.ownT rfl rfl) (.cons (Sub.immT (Imm.con _)) (.cons (Sub.immT (Imm.con _)) (.cons (Sub.immT (Imm.con _)) (.cons (Sub.immT (Imm.con _)) .nil)))))))) (.cons rfl (ObSub.rowsT (rows_imm imms_encS)) (.cons rfl (ObSub.rowsT (rows_imm imms_encS)) (.cons rfl (ObSub.rowsT (rows_imm imms_encI_i64)) .nil)))))) _ rfl ?_
  refine fo (rn 5 rfl ?_)
  replace h:=Option.some.inj h
  subst h
  exact wE ⟨.inr rfl,[],(Ghost.trans (closeS 0 3 4 5 6 ((y77.2).is) ((y77.2).begins) ((y77.2).numbers) ((y77.2).asText) ((y77.2).asNo) true ((y77.2).weight) (M89_some hx78) rfl rfl rfl rfl rfl (by decide)) (gr [0] rfl (hM rfl rfl .nil) rfl)),.nil⟩
 refine aops_tassF (k:=a1) (V.agg [(sV ([]:List UInt8))]) tNI150 hb74 tZo150 (irel_conAgg [str ([]:List UInt8)]) wants_none rfl rfl ?_
 refine fo (rn 6 rfl ?_)
 refine bs h (fun hb79 h=>?_) (fun hb79 h=>?_)
 ·obtain⟨y80,hx81,h⟩:=bind_some h
  refine aops_tassT (k:=a1) tNI152 hx81 wants_none rfl rfl ?_
  obtain⟨y82,hx83,h⟩:=bind_some h
  refine fo (rn 14 rfl ?_)
  refine aops_mcallvS (V.ptr 3 7 0 0) [(sV y80.name),(V.ptr 1 1 0 0)] (fun i=>([1,0]:List Nat).getD i 0) (fun i=>([1,0,3,4,5,6]:List Nat).getD i 0) 3 7 [(1,(Ob.arr 77 1 [[(V.map 0)]])),(0,(Ob.map (holeP encM9_335 (V.ptr 3 7 0 0) y80.name (y82.1)))),(3,(Ob.arr 161 7 [[(V.own 4 (y82.2).is.length),(V.own 5 (y82.2).begins.length),(V.own 6 (y82.2).numbers.length),(bV (y82.2).asText),(bV (y82.2).asNo),(bV (y82.2).has),(iV (y82.2).weight)]])),(4,(Ob.arr 9 1 ((y82.2).is.map encS))),(5,(Ob.arr 9 1 ((y82.2).begins.map encS))),(6,(Ob.arr 3 1 ((y82.2).numbers.map encI_i64)))] fOk89 wants_none rfl rfl rfl (.cons (Sub.imm (Imm.con _)) (.cons (Sub.ptr rfl rfl) .nil)) (.cons rfl (ObSub.box (.cons (Sub.map rfl rfl) .nil)) (.cons rfl (ObSub.mapsK ents_keepK) .nil)) (W89 F y80.name a2 y82 hx83) rfl rfl rfl rfl (Sub.ptrT rfl rfl) (.cons rfl (ObSub.box (.cons (Sub.mapT rfl rfl) .nil)) (.cons rfl (ObSub.holePT rfl rfl) (.cons rfl (ObSub.box (.cons (Sub.ownT rfl rfl) (.cons (Sub.ownT rfl rfl) (.cons (Sub.ownT rfl rfl) (.cons (Sub.immT (Imm.con _)) (.cons (Sub.immT (Imm.con _)) (.cons (Sub.immT (Imm.con _)) (.cons (Sub.immT (Imm.con _)) .nil)))))))) (.cons rfl (ObSub.rowsT (rows_imm imms_encS)) (.cons rfl (ObSub.rowsT (rows_imm imms_encS)) (.cons rfl (ObSub.rowsT (rows_imm imms_encI_i64)) .nil)))))) _ rfl ?_
  refine fo (rn 2 rfl ?_)
  refine ck h (fun hc84 h=>?_)
  refine awp_ghost ghost_res ?_
  refine fa ?_
  refine dr mixed (vs 9 rfl (xD (OD.mk [(108,(iV y80.n))] [] [(109,(V.lst 1 (([y80.n]:List Int).map encI_i64)))] []) ⟨⟨rfl,trivial⟩,trivial⟩ (by exact fun S hn h hh=>aops_buildSlice_imm [(0,(iV y80.n))] [[(iV y80.n)]] tEl51 tZ3 wants_none rfl rfl rfl rfl (evp_cons h.1 evp_nil) rfl rfl (by simp) (imms_rows (.cons (.cons (Imm.con _) .nil) .nil)) rfl (aops_nil ⟨rfl,rfl⟩)) rfl (xD (OD.mk [(106,(V.own 6 (y82.2).numbers.length)),(109,(V.lst 1 (([y80.n]:List Int).map encI_i64)))] [(6,(Ob.arr 3 1 ((y82.2).numbers.map encI_i64))),(7,Ob.res)] [(110,(V.own 7 ((y82.2).numbers++([y80.n]:List Int)).length))] [(7,(Ob.arr 3 1 (((y82.2).numbers++([y80.n]:List Int)).map encI_i64))),(6,Ob.dead)]) ⟨⟨rfl,rfl,trivial⟩,⟨rfl,rfl,trivial⟩⟩ (by exact fun S hn h hh=>aops_append_at 7 rfl hn hh.2.1 (([y80.n]:List Int).map encI_i64) (((y82.2).numbers++([y80.n]:List Int)).map encI_i64) tEl51 tIsSl51 rfl rfl wants_none h.1 hh.1 (by simp) h.2.1 (.lst (rows_one one_encI_i64)) (map_snoc encI_i64 (y82.2).numbers ([y80.n]:List Int)) (List.length_map ..) hc84 rfl (aops_nil ⟨rfl,rfl⟩)) rfl (vs 14 rfl .nil)))) (by kernel_rfl) ?_
  refine rn 1 rfl ?_
  replace h:=Option.some.inj h
  subst h
  exact wE ⟨.inr rfl,[],(Ghost.trans (closeS 0 3 4 5 7 ((y82.2).is) ((y82.2).begins) ((y82.2).numbers++([y80.n]:List Int)) ((y82.2).asText) true ((y82.2).has) (w64 ((y82.2).weight+2)) (M89_some hx83) rfl rfl rfl rfl rfl (by decide)) (gr [0] rfl (hM rfl rfl .nil) rfl)),.nil⟩
 refine aops_tassF (k:=a1) (V.agg [(sV ([]:List UInt8)),(iV 0),(iV 0)]) tNI152 hb79 tZo152 (irel_conAgg [str ([]:List UInt8),.int .i64 0,.int .i64 0]) wants_none rfl rfl ?_
 refine fo (rn 6 rfl ?_)
 refine bs h (fun hb85 h=>?_) (fun hb85 h=>?_)
 ·obtain⟨y86,hx87,h⟩:=bind_some h
  refine aops_tassT (k:=a1) tNI154 hx87 wants_none rfl rfl ?_
  obtain⟨y88,hx89,h⟩:=bind_some h
  refine fo (rn 13 rfl ?_)
  refine aops_mcallS (V.tup []) [(V.ifc y86.kid.t y86.kid.d),(V.map 0)] (fun i=>([0]:List Nat).getD i 0) (fun i=>([0]:List Nat).getD i 0) 3 3 [(0,(Ob.map (y88.map encM9_335)))] fOk33 wants_none rfl (evm_cons rfl (evm_cons rfl evm_nil)) (.cons (Sub.imm (Imm.ifc _ _)) (.cons (Sub.map rfl rfl) .nil)) (.cons rfl (ObSub.mapsK ents_keepK) .nil) (hR33 y86.kid a2 _ hx89) rfl rfl rfl rfl (Sub.immT (Imm.tup .nil)) (.cons rfl (ObSub.mapsTK ents_keepK) .nil) _ rfl ?_
  refine fo (rn 2 rfl ?_)
  replace h:=Option.some.inj h
  subst h
  exact wE ⟨.inr rfl,[],(gr [0] rfl (hM rfl rfl .nil) rfl),.nil⟩
 refine aops_tassF (k:=a1) (V.agg [(V.con (.nilIface))]) tNI154 hb85 tZo154 (irel_conAgg [.nilIface]) wants_none rfl rfl ?_
 refine fo (rn 6 rfl ?_)
 refine bs h (fun hb90 h=>?_) (fun hb90 h=>?_)
 ·obtain⟨y91,hx92,h⟩:=bind_some h
  refine aops_tassT (k:=a1) tNI156 hx92 wants_none rfl rfl ?_
  refine fo (rn 13 rfl ?_)
  refine ln rfl rfl ?_
  refine rn 2 rfl ?_
  refine jK h (fun(p:(List ((List UInt8)×(Option Tpolicy_subject))))=>(⟨[],[(0,(Ob.map (p.map encM9_335)))],1⟩:St)) (fun k93 p=>k93 p=some r) (fun k93 h=>?_) ?_
  ·refine rn 1 rfl ?_
   refine wl (A:=y91.kids) 133 rfl (fun hA104=>?_)
   refine lC (fun(p:Int×(List ((List UInt8)×(Option Tpolicy_subject))))=>(⟨[(3,(V.ptr 1 1 0 0)),(133,(V.lst 1 (y91.kids.map KV.enc))),(134,(iV ((y91.kids.length:Nat):Int))),(135,(iV (p.1)))],[(0,(Ob.map ((p.2).map encM9_335))),(1,(Ob.arr 77 1 [[(V.map 0)]]))],2⟩:St)) (fun n p=>RG y91.kids (fun tl nn=>M33_L1 R33 F k93 tl p.2=some r) n p.1) (fun p h=>RG.zero h) (y91.kids.length+1) (0,a2) (RG.start h) (gr [0,1] rfl (hM rfl rfl (hB rfl rfl rfl .nil)) rfl) (fun n p h=>?_)
   obtain⟨n97,m98⟩:=p
   refine rn 5 rfl ?_
   refine spL rfl (fun hb99=>?_) (fun hb99=>?_)
   ·obtain⟨x100,tl,hx101,h,hk1⟩:=RG.t hA104 h hb99
    unfold M33_L1 at h
    refine rn 5 rfl ?_
    refine ixh hx101 rfl rfl ?_
    obtain⟨y102,hx103,h⟩:=bind_some h
    refine rn 6 rfl ?_
    refine aops_mcallS (V.tup []) [(V.ifc x100.t x100.d),(V.map 0)] (fun i=>([0]:List Nat).getD i 0) (fun i=>([0]:List Nat).getD i 0) 2 2 [(0,(Ob.map (y102.map encM9_335)))] fOk33 wants_none rfl (evm_cons rfl (evm_cons rfl evm_nil)) (.cons (Sub.imm (Imm.ifc _ _)) (.cons (Sub.map rfl rfl) .nil)) (.cons rfl (ObSub.mapsK ents_keepK) .nil) (hR33 x100 m98 _ hx103) rfl rfl rfl rfl (Sub.immT (Imm.tup .nil)) (.cons rfl (ObSub.mapsTK ents_keepK) .nil) _ rfl ?_
    refine fo (rn 6 rfl ?_)
    exact jX ((w64 (n97+1)),y102) (hk1 _ h) (gr [0,1] rfl (hM rfl rfl (hB rfl rfl rfl .nil)) rfl)
   replace h:=RG.f h hb99
   unfold M33_L1 at h
   refine rn 1 rfl ?_
   exact jX m98 h (gr [0] rfl (hM rfl rfl .nil) rfl)
  intro m94 h
  refine rn 1 rfl ?_
  replace h:=Option.some.inj h
  subst h
  exact wE ⟨.inr rfl,[],(gr [0] rfl (hM rfl rfl .nil) rfl),.nil⟩
 refine aops_tassF (k:=a1) (V.agg [(V.lst 1 (([]:List KV).map KV.enc))]) tNI156 hb90 tZo156 (irel_aggZ (.sl .nil)) wants_none rfl rfl ?_
 refine fo (rn 6 rfl ?_)
 refine bs h (fun hb105 h=>?_) (fun hb105 h=>?_)
 ·obtain⟨y106,hx107,h⟩:=bind_some h
  refine aops_tassT (k:=a1) tNI157 hx107 wants_none rfl rfl ?_
  refine fo (rn 13 rfl ?_)
  refine ln rfl rfl ?_
  refine rn 2 rfl ?_
  refine jK h (fun(p:(List ((List UInt8)×(Option Tpolicy_subject))))=>(⟨[],[(0,(Ob.map (p.map encM9_335)))],1⟩:St)) (fun k108 p=>k108 p=some r) (fun k108 h=>?_) ?_
  ·refine rn 1 rfl ?_
   refine wl (A:=y106.kids) 147 rfl (fun hA119=>?_)
   refine lC (fun(p:Int×(List ((List UInt8)×(Option Tpolicy_subject))))=>(⟨[(3,(V.ptr 1 1 0 0)),(147,(V.lst 1 (y106.kids.map KV.enc))),(148,(iV ((y106.kids.length:Nat):Int))),(149,(iV (p.1)))],[(0,(Ob.map ((p.2).map encM9_335))),(1,(Ob.arr 77 1 [[(V.map 0)]]))],2⟩:St)) (fun n p=>RG y106.kids (fun tl nn=>M33_L1 R33 F k108 tl p.2=some r) n p.1) (fun p h=>RG.zero h) (y106.kids.length+1) (0,a2) (RG.start h) (gr [0,1] rfl (hM rfl rfl (hB rfl rfl rfl .nil)) rfl) (fun n p h=>?_)
   obtain⟨n112,m113⟩:=p
   refine rn 5 rfl ?_
   refine spL rfl (fun hb114=>?_) (fun hb114=>?_)
   ·obtain⟨x115,tl,hx116,h,hk2⟩:=RG.t hA119 h hb114
    unfold M33_L1 at h
    refine rn 5 rfl ?_
    refine ixh hx116 rfl rfl ?_
    obtain⟨y117,hx118,h⟩:=bind_some h
    refine rn 6 rfl ?_
    refine aops_mcallS (V.tup []) [(V.ifc x115.t x115.d),(V.map 0)] (fun i=>([0]:List Nat).getD i 0) (fun i=>([0]:List Nat).getD i 0) 2 2 [(0,(Ob.map (y117.map encM9_335)))] fOk33 wants_none rfl (evm_cons rfl (evm_cons rfl evm_nil)) (.cons (Sub.imm (Imm.ifc _ _)) (.cons (Sub.map rfl rfl) .nil)) (.cons rfl (ObSub.mapsK ents_keepK) .nil) (hR33 x115 m113 _ hx118) rfl rfl rfl rfl (Sub.immT (Imm.tup .nil)) (.cons rfl (ObSub.mapsTK ents_keepK) .nil) _ rfl ?_
    refine fo (rn 6 rfl ?_)
    exact jX ((w64 (n112+1)),y117) (hk2 _ h) (gr [0,1] rfl (hM rfl rfl (hB rfl rfl rfl .nil)) rfl)
   replace h:=RG.f h hb114
   unfold M33_L1 at h
   refine rn 1 rfl ?_
   exact jX m113 h (gr [0] rfl (hM rfl rfl .nil) rfl)
  intro m109 h
  refine rn 1 rfl ?_
  replace h:=Option.some.inj h
  subst h
  exact wE ⟨.inr rfl,[],(gr [0] rfl (hM rfl rfl .nil) rfl),.nil⟩
 refine aops_tassF (k:=a1) (V.agg [(V.lst 1 (([]:List KV).map KV.enc))]) tNI157 hb105 tZo157 (irel_aggZ (.sl .nil)) wants_none rfl rfl ?_
 refine fo (rn 6 rfl ?_)
 replace h:=Option.some.inj h
 subst h
 exact wE ⟨.inr rfl,[],(gr [0] rfl (hM rfl rfl .nil) rfl),.nil⟩
theorem W33:∀(F:Nat) (a1:KV) (a2:List ((List UInt8)×(Option Tpolicy_subject))) (r:(List ((List UInt8)×(Option Tpolicy_subject)))) (h:M33 F a1 a2=some r),Mut Tryz.prog 33 [(V.ifc a1.t a1.d),(V.map 0)] 1 [(0,(Ob.map (a2.map encM9_335)))] (resV []) 1 [(0,(Ob.map (r.map encM9_335)))]:=by
 intro F
 induction F with
 |zero=>intros;simp[M33] at *
 |succ F ih=>exact fun a1 a2 r h=>W33_B (M33 F) ih F a1 a2 r h
theorem W56(F:Nat)(a1:TPolicy)(a2:(List Int))(a3:List ((List UInt8)×(Option Tpolicy_subject)))(r:((List ((List UInt8)×(Option Tpolicy_subject)))×(List KV)))(h:M56 F a1 a2 a3=some r):Mut Tryz.prog 56 [(V.agg (encTPolicy a1)),(V.lst 1 (a2.map encI_i64)),(V.map 0)] 1 [(0,(Ob.map (a3.map encM9_335)))] (resV [(V.own 1 (r.2).length)]) 2 [(0,(Ob.map ((r.1).map encM9_335))),(1,(Ob.arr 75 1 ((r.2).map KV.enc)))]:=by
 refine mut_enter Tryz.func56 rfl rfl (l:=[.tmp 6]) rfl rfl [(0,(V.agg (encTPolicy a1))),(1,(V.lst 1 (a2.map encI_i64))),(2,(V.map 0))] rfl (fun w0 m0 β0 hg=>en ?_)
 unfold M56 at h
 refine rn 13 rfl ?_
 refine ln rfl rfl ?_
 refine rn 2 rfl ?_
 refine jK h (fun(p:(List ((List UInt8)×(Option Tpolicy_subject)))×(List KV))=>(⟨[(7,(V.own 1 (p.2).length))],[(0,(Ob.map ((p.1).map encM9_335))),(1,(Ob.arr 75 1 ((p.2).map KV.enc)))],2⟩:St)) (fun k26 p=>k26 p.1 p.2=some r) (fun k26 h=>?_) ?_
 ·refine rn 1 rfl ?_
  refine wl (A:=a2) 1 rfl (fun hA45=>?_)
  refine lC (fun(p:Int×(List ((List UInt8)×(Option Tpolicy_subject)))×(List KV))=>(⟨[(2,(V.map 0)),(3,(V.ptr 1 2 0 0)),(7,(V.own 2 (p.2.2).length)),(11,(V.lst 1 (a2.map encI_i64))),(12,(iV ((a2.length:Nat):Int))),(13,(iV (p.1)))],[(0,(Ob.map ((p.2.1).map encM9_335))),(1,(Ob.arr 49 2 [(encTPolicy a1)])),(2,(Ob.arr 75 1 ((p.2.2).map KV.enc)))],3⟩:St)) (fun n p=>RG a2 (fun tl nn=>M56_L1 F a1 k26 tl p.2.1 p.2.2=some r) n p.1) (fun p h=>RG.zero h) (a2.length+1) (0,a3,([]:List KV)) (RG.start h) (Ghost.trans (ghost_nilE 7 75 1 rfl) (ghost_ren 3 (fun i=>([0,1,2]:List Nat).getD i 0) _ _ (by decide) (EnvSub.get (.cons (Sub.map rfl rfl) (.cons (Sub.ptr rfl rfl) (.cons (Sub.ownE rfl rfl (by simp)) (.cons (Sub.imm (Imm.lst _ _)) (.cons (Sub.imm (Imm.con _)) (.cons (Sub.imm (Imm.con _)) .nil))))))) (HpSub.get (.cons rfl (ObSub.mapsK ents_keepK) (.cons rfl (ObSub.box (.cons (Sub.imm (Imm.lst _ _)) (.cons (Sub.imm (Imm.lst _ _)) .nil))) (.cons rfl (ObSub.rows (rows_imm KV.enc_imm)) .nil)))) rfl)) (fun n p h=>?_)
  obtain⟨n32,m33,l34⟩:=p
  refine rn 5 rfl ?_
  refine spL rfl (fun hb35=>?_) (fun hb35=>?_)
  ·obtain⟨x36,tl,hx37,h,hk1⟩:=RG.t hA45 h hb35
   unfold M56_L1 at h
   refine rn 5 rfl ?_
   refine ixh hx37 rfl rfl ?_
   refine rn 8 rfl ?_
   refine ixl h rfl rfl (fun x38 hx39 h=>?_)
   refine rn 2 rfl ?_
   refine cl h rfl rfl rfl (W32 _ _) rfl (fun y40 hx41 h=>?_)
   obtain⟨y42,hx43,h⟩:=bind_some h
   refine rn 6 rfl ?_
   refine aops_mcallS (V.tup []) [(V.ifc y40.t y40.d),(V.map 0)] (fun i=>([0]:List Nat).getD i 0) (fun i=>([0]:List Nat).getD i 0) 3 3 [(0,(Ob.map (y42.map encM9_335)))] fOk33 wants_none rfl (evm_cons rfl (evm_cons rfl evm_nil)) (.cons (Sub.imm (Imm.ifc _ _)) (.cons (Sub.map rfl rfl) .nil)) (.cons rfl (ObSub.mapsK ents_keepK) .nil) (W33 F y40 m33 y42 hx43) rfl rfl rfl rfl (Sub.immT (Imm.tup .nil)) (.cons rfl (ObSub.mapsTK ents_keepK) .nil) _ rfl ?_
   refine fo (rn 4 rfl ?_)
   refine aops_buildSlice [(0,(V.ifc y40.t y40.d))] [[(V.ifc y40.t y40.d)]] tEl109 tZ75 rfl rfl rfl rfl wants_none (evp_cons rfl evp_nil) rfl rfl (by simp) rfl ?_
   refine fo ?_
   refine apO KV.enc h rfl rfl rfl rfl rfl rfl rfl rfl (fun h=>?_)
   refine rn 7 rfl ?_
   exact jX ((w64 (n32+1)),y42,(l34++([y40]:List KV))) (hk1 _ h) (gr [0,1,4] rfl (hM rfl rfl (hB rfl rfl rfl (hR rfl rfl .nil))) rfl)
  replace h:=RG.f h hb35
  unfold M56_L1 at h
  refine rn 1 rfl ?_
  exact jX (m33,l34) h (gr [0,2] rfl (hM rfl rfl (hR rfl rfl .nil)) rfl)
 rintro⟨m27,l28⟩ h
 refine rn 5 rfl ?_
 replace h:=Option.some.inj h
 subst h
 exact wR ⟨.inl rfl,[(6,(V.own 1 l28.length))],(gr [0,1] rfl (hM rfl rfl (hR rfl rfl .nil)) rfl),(.cons (.tmp rfl) .nil)⟩
theorem W34(F:Nat)(a1:(List ((List UInt8)×(Option Tpolicy_subject))))(r:Bool)(h:M34 F a1=some r):Pure Tryz.prog 34 [(V.imap (a1.map encM9_103))] (bV r):=by
 refine pin (fun r=>(bV r)) r rfl Tryz.func34 rfl rfl rfl rfl rfl (fun w0 m0 hg=>?_)
 unfold M34 at h
 refine rn 12 rfl ?_
 refine aops_range tMap77 wants_none rfl rfl ?_
 refine fo (rn 2 rfl ?_)
 refine lC (fun(p:Int×(List ((List UInt8)×(Option Tpolicy_subject))))=>(⟨[(3,(iV (p.1))),(8,(V.ptr 0 1 0 0))],[(0,(Ob.iter [] ((p.2).map encM9_103)))],1⟩:St)) (fun n p=>RM n p.2 (M34_L1 F p.2 p.1=some r)) (fun p h=>RM.zero h) (a1.length+1) (1,a1) (RM.start h) (gr [0] rfl (hI rfl rfl .nil) rfl) (fun n p h=>?_)
 obtain⟨n4,l5⟩:=p
 refine rn 2 rfl ?_
 refine nxt rfl rfl wants_none rfl (fun hl1=>?_) (fun e6 l7 hq1 hp1=>?_)
 ·replace h:=h.2
  subst hl1
  unfold M34_L1 at h
  refine rn 9 rfl ?_
  exact rt h rfl
 have hm1:=h
 replace h:=ord_M34_L1 hp1 h.2
 unfold M34_L1 at h
 refine ck h (fun hc8 h=>?_)
 refine rn 8 rfl ?_
 refine aops_entry wants_none rfl rfl rfl ?_
 obtain⟨x9,hx10,h⟩:=bind_some h
 refine fo (rn 4 rfl ?_)
 refine opC 5 hx10 rfl ?_
 refine rn 15 rfl ?_
 refine spO 21 h rfl (fun hb11 h=>?_) (fun hb11 h=>?_)
 ·refine rn 30 rfl ?_
  refine spC h rfl (fun hb12 h=>?_) (fun hb12 h=>?_)
  ·refine rn 4 rfl ?_
   exact rt h rfl
  refine rn 2 rfl ?_
  exact jX ((w64 (n4*(w64 (x9.weight+1)))),l7) (RM.step hm1 hq1 h) (gr [0] rfl (hI rfl rfl .nil) rfl)
 refine rn 5 rfl ?_
 refine spO 26 h rfl (fun hb13 h=>?_) (fun hb13 h=>?_)
 ·refine rn 7 rfl ?_
  refine jK h (fun(p:Int)=>(⟨[(3,(iV n4)),(6,(iV p)),(8,(V.ptr 0 1 0 0)),(30,(bV x9.asNo)),(31,(bV x9.asNo))],[(0,(Ob.iter [] (l7.map encM9_103)))],1⟩:St)) (fun k14 p=>k14 p=some r) (fun k14 h=>?_) ?_
  ·refine spC h rfl (fun hb16 h=>?_) (fun hb16 h=>?_)
   ·refine rn 5 rfl ?_
    exact jX (w64 (x9.weight+1)) h (gr [0] rfl (hI rfl rfl .nil) rfl)
   refine rn 1 rfl ?_
   exact jX x9.weight h (gr [0] rfl (hI rfl rfl .nil) rfl)
  intro n15 h
  refine rn 12 rfl ?_
  refine spC h rfl (fun hb17 h=>?_) (fun hb17 h=>?_)
  ·refine rn 4 rfl ?_
   exact rt h rfl
  refine rn 2 rfl ?_
  exact jX ((w64 (n4*n15)),l7) (RM.step hm1 hq1 h) (gr [0] rfl (hI rfl rfl .nil) rfl)
 refine rn 21 rfl ?_
 refine spC h rfl (fun hb18 h=>?_) (fun hb18 h=>?_)
 ·refine rn 4 rfl ?_
  exact rt h rfl
 refine rn 2 rfl ?_
 exact jX ((w64 (n4*x9.weight)),l7) (RM.step hm1 hq1 h) (gr [0] rfl (hI rfl rfl .nil) rfl)
theorem W59(F:Nat)(a1:List Int)(r:List Int)(h:M59 F a1=some r):Mut Tryz.prog 59 [(V.own 0 a1.length)] 1 [(0,(Ob.arr 3 1 (a1.map encI_i64)))] (resV []) 1 [(0,(Ob.arr 3 1 (r.map encI_i64)))]:=by
 unfold M59 at h
 by_cases hc:a1.length<4611686018427387904
 ·rw[if_pos hc] at h
  replace h:=Option.some.inj h
  subst h
  refine(mut_sort a1 (isort a1) rfl (List.length_mergeSort _) (fun w b off cap hH hb=>?_) (fun w p h0=>?_)).heap hget_one
  ·exact Go.Proofs.Tryz.slices_Sort_int b off cap a1 w hH hb hc
  ·refine(Go.Proofs.Tryz.slices_Sort_int_none p 0 w).mono ?_
   rintro e w' ⟨rfl,rfl⟩
   exact⟨rfl,Go.RowKit.Below.refl _ _,by first|exact Nat.le_refl _|trivial⟩
 ·rw[if_neg hc] at h;simp at h
theorem W186(F:Nat)(a1:List Int)(r:List Int)(h:M186 F a1=some r):Mut Tryz.prog 186 [(V.own 0 a1.length)] 1 [(0,(Ob.arr 3 1 (a1.map encI_i64)))] (resV [(V.own 0 r.length)]) 1 [(0,(Ob.arr 3 1 (r.map encI_i64)))]:=by
 unfold M186 at h
 by_cases hc:a1.length<=140737488355328
 ·rw[if_pos hc] at h
  replace h:=Option.some.inj h
  subst h
  exact(mut_compactS (Value.int .i64) (fun _=>rfl) 0 a1 rfl (fun b off cap a w hH h1 h2=>Go.Proofs.Tryz.slices_Compact_int b off cap a w hH h1 h2) (fun p w=>Go.Proofs.Tryz.slices_Compact_int_empty p 0 w) hc).heap hget_one
 ·rw[if_neg hc] at h;simp at h
theorem W131(F:Nat)(a1:Tpolicy_subject)(r:(List Int))(h:M131 F a1=some r):Pure Tryz.prog 131 [(V.iptr (encTpolicy_subject a1) 0)] (V.lst 1 (r.map encI_i64)):=by
 refine pin (fun r=>(V.lst 1 (r.map encI_i64))) r rfl Tryz.func131 rfl rfl rfl rfl rfl (fun w0 m0 hg=>?_)
 unfold M131 at h
 refine rn 6 rfl ?_
 refine aops_buildSlice [(0,(iV 0))] [[(iV 0)]] tEl51 tZ3 rfl rfl rfl rfl wants_none (evp_cons rfl evp_nil) rfl rfl (by simp) rfl ?_
 refine fo (rn 9 rfl ?_)
 refine ln rfl rfl ?_
 refine rn 2 rfl ?_
 refine jK h (fun(p:(List Int))=>(⟨[(3,(V.own 0 p.length))],[(0,(Ob.arr 3 1 (p.map encI_i64)))],1⟩:St)) (fun k2 p=>k2 p=some r) (fun k2 h=>?_) ?_
 ·refine rn 1 rfl ?_
  refine wl (A:=a1.numbers) 12 rfl (fun hA29=>?_)
  refine lC (fun(p:Int×(List Int))=>(⟨[(3,(V.own 0 (p.2).length)),(12,(V.lst 1 (a1.numbers.map encI_i64))),(13,(iV ((a1.numbers.length:Nat):Int))),(14,(iV (p.1)))],[(0,(Ob.arr 3 1 ((p.2).map encI_i64)))],1⟩:St)) (fun n p=>RG a1.numbers (fun tl nn=>M131_L1 F k2 tl p.2=some r) n p.1) (fun p h=>RG.zero h) (a1.numbers.length+1) (0,([0]:List Int)) (RG.start h) (ghost_ren 1 (fun i=>([0]:List Nat).getD i 0) _ _ (by decide) (EnvSub.get (.cons (Sub.ownE rfl rfl (by simp)) (.cons (Sub.imm (Imm.lst _ _)) (.cons (Sub.imm (Imm.con _)) (.cons (Sub.imm (Imm.con _)) .nil))))) (HpSub.get (.cons rfl (ObSub.rows (rows_imm imms_encI_i64)) .nil)) rfl) (fun n p h=>?_)
  obtain⟨n6,l7⟩:=p
  refine rn 5 rfl ?_
  refine spL rfl (fun hb8=>?_) (fun hb8=>?_)
  ·obtain⟨x11,tl,hx12,h,hk1⟩:=RG.t hA29 h hb8
   unfold M131_L1 at h
   refine rn 2 rfl ?_
   refine jK h (fun(p:(List Int))=>(⟨[(3,(V.own 0 p.length)),(12,(V.lst 1 (a1.numbers.map encI_i64))),(13,(iV ((a1.numbers.length:Nat):Int))),(14,(iV n6))],[(0,(Ob.arr 3 1 (p.map encI_i64)))],1⟩:St)) (fun k9 p=>k9 p=some r) (fun k9 h=>?_) ?_
   ·refine rn 3 rfl ?_
    refine ixh hx12 rfl rfl ?_
    refine rn 10 rfl ?_
    refine aops_buildSlice [(0,(iV (w64 (x11 - 1)))),(1,(iV x11)),(2,(iV (w64 (x11+1))))] [[(iV (w64 (x11 - 1)))],[(iV x11)],[(iV (w64 (x11+1)))]] tEl51 tZ3 rfl rfl rfl rfl wants_none (evp_cons rfl (evp_cons rfl (evp_cons rfl evp_nil))) rfl rfl (by simp) rfl ?_
    refine fo (rn 3 rfl ?_)
    refine jK h (fun(p:(List Int))=>(⟨[(3,(V.own 0 p.length)),(12,(V.lst 1 (a1.numbers.map encI_i64))),(13,(iV ((a1.numbers.length:Nat):Int))),(14,(iV n6))],[(0,(Ob.arr 3 1 (p.map encI_i64)))],1⟩:St)) (fun k13 p=>k13 p=some r) (fun k13 h=>?_) ?_
    ·refine rn 1 rfl ?_
     refine ck h (fun hA28 h=>?_)
     refine lC (fun(p:Int×(List Int))=>(⟨[(3,(V.own 0 (p.2).length)),(12,(V.lst 1 (a1.numbers.map encI_i64))),(13,(iV ((a1.numbers.length:Nat):Int))),(14,(iV n6)),(23,(V.own 1 ([(w64 (x11 - 1)),x11,(w64 (x11+1))]:List Int).length)),(24,(iV ((3:Nat):Int))),(25,(iV (p.1)))],[(0,(Ob.arr 3 1 ((p.2).map encI_i64))),(1,(Ob.arr 3 1 (([(w64 (x11 - 1)),x11,(w64 (x11+1))]:List Int).map encI_i64)))],2⟩:St)) (fun n p=>RC ((3:Nat):Int) (fun tl nn=>M131_L2 F x11 k13 tl nn p.2=some r) n p.1) (fun p h=>RC.zero h) (Int.toNat ((3:Nat):Int)+1) (0,l7) (RC.start h) (ghost_ren 2 (fun i=>([0,1]:List Nat).getD i 0) _ _ (by decide) (EnvSub.get (.cons (Sub.own rfl rfl) (.cons (Sub.imm (Imm.lst _ _)) (.cons (Sub.imm (Imm.con _)) (.cons (Sub.imm (Imm.con _)) (.cons (Sub.ownE rfl rfl (by simp)) (.cons (Sub.imm (Imm.con _)) (.cons (Sub.imm (Imm.con _)) .nil)))))))) (HpSub.get (.cons rfl (ObSub.rows (rows_imm imms_encI_i64)) (.cons rfl (ObSub.rows (rows_imm imms_encI_i64)) .nil))) rfl) (fun n p h=>?_)
     obtain⟨n17,l18⟩:=p
     refine rn 5 rfl ?_
     refine spL rfl (fun hb19=>?_) (fun hb19=>?_)
     ·obtain⟨tl,h,hk2⟩:=RC.t hA28 h hb19
      unfold M131_L2 at h
      refine rn 5 rfl ?_
      refine ixo (a:=([(w64 (x11 - 1)),x11,(w64 (x11+1))]:List Int)) h rfl rfl rfl (fun x20 hx21 h=>?_)
      refine ldp hx21 rfl rfl rfl rfl ?_
      refine rn 5 rfl ?_
      refine cl h rfl rfl rfl (W106 _ _) rfl (fun y22 hx23 h=>?_)
      refine rn 1 rfl ?_
      refine jK h (fun(p:(List Int))=>(⟨[(3,(V.own 0 p.length)),(12,(V.lst 1 (a1.numbers.map encI_i64))),(13,(iV ((a1.numbers.length:Nat):Int))),(14,(iV n6)),(23,(V.own 1 ([(w64 (x11 - 1)),x11,(w64 (x11+1))]:List Int).length)),(24,(iV ((3:Nat):Int))),(25,(iV n17))],[(0,(Ob.arr 3 1 (p.map encI_i64))),(1,(Ob.arr 3 1 (([(w64 (x11 - 1)),x11,(w64 (x11+1))]:List Int).map encI_i64)))],2⟩:St)) (fun k24 p=>k24 p=some r) (fun k24 h=>?_) ?_
      ·refine spC h rfl (fun hb26 h=>?_) (fun hb26 h=>?_)
       ·refine rn 3 rfl ?_
        refine aops_buildSlice [(0,(iV x20))] [[(iV x20)]] tEl51 tZ3 rfl rfl rfl rfl wants_none (evp_cons rfl evp_nil) rfl rfl (by simp) rfl ?_
        refine fo ?_
        refine apO encI_i64 h rfl rfl rfl rfl rfl rfl rfl rfl (fun h=>?_)
        refine rn 2 rfl ?_
        exact jX (l18++([x20]:List Int)) h (gr [3,1] rfl (hR rfl rfl (hR rfl rfl .nil)) rfl)
       refine rn 1 rfl ?_
       exact jX l18 h (gr [0,1] rfl (hR rfl rfl (hR rfl rfl .nil)) rfl)
      intro l25 h
      refine rn 5 rfl ?_
      exact jX ((w64 (n17+1)),l25) (hk2 _ h) (gr [0,1] rfl (hR rfl rfl (hR rfl rfl .nil)) rfl)
     replace h:=RC.f h hb19
     unfold M131_L2 at h
     refine rn 1 rfl ?_
     exact jX l18 h (gr [0] rfl (hR rfl rfl .nil) rfl)
    intro l14 h
    refine rn 1 rfl ?_
    exact jX l14 h (gr [0] rfl (hR rfl rfl .nil) rfl)
   intro l10 h
   refine rn 4 rfl ?_
   exact jX ((w64 (n6+1)),l10) (hk1 _ h) (gr [0] rfl (hR rfl rfl .nil) rfl)
  replace h:=RG.f h hb8
  unfold M131_L1 at h
  refine rn 1 rfl ?_
  exact jX l7 h (gr [0] rfl (hR rfl rfl .nil) rfl)
 intro l3 h
 obtain⟨y30,hx31,h⟩:=bind_some h
 refine rn 3 rfl ?_
 refine ck h (fun hc32 h=>?_)
 refine aops_mcallS (V.tup []) [(V.own 0 l3.length)] (fun i=>([0]:List Nat).getD i 0) (fun i=>([0]:List Nat).getD i 0) 1 1 [(0,(Ob.arr 3 1 (y30.map encI_i64)))] fOk59 wants_none rfl (evm_cons rfl evm_nil) (.cons (Sub.own rfl rfl) .nil) (.cons rfl (ObSub.rows (rows_imm imms_encI_i64)) .nil) (W59 F l3 y30 hx31) rfl rfl rfl rfl (Sub.immT (Imm.tup .nil)) (.cons rfl (ObSub.rowsT (rows_imm imms_encI_i64)) .nil) _ rfl ?_
 refine aops_ghost (ghost_tell 3 (V.own 0 y30.length) rfl (Sub.ownI hc32)) ?_
 refine aops_ghost (ghost_tell 37 (V.own 0 y30.length) rfl (Sub.ownI hc32)) ?_
 obtain⟨y33,hx34,h⟩:=bind_some h
 refine fo (rn 4 rfl ?_)
 refine aops_mcallS (V.own 0 y33.length) [(V.own 0 y30.length)] (fun i=>([0]:List Nat).getD i 0) (fun i=>([0]:List Nat).getD i 0) 1 1 [(0,(Ob.arr 3 1 (y33.map encI_i64)))] fOk186 wants_none rfl (evm_cons rfl evm_nil) (.cons (Sub.own rfl rfl) .nil) (.cons rfl (ObSub.rows (rows_imm imms_encI_i64)) .nil) (W186 F y30 y33 hx34) rfl rfl rfl rfl (Sub.ownT rfl rfl) (.cons rfl (ObSub.rowsT (rows_imm imms_encI_i64)) .nil) _ rfl ?_
 refine fo (rn 2 rfl ?_)
 refine awp_ghost (ghost_frzEs 0 [2,40] rfl (rows_imm imms_encI_i64) (List.forall_mem_cons.2 ⟨rfl,(List.forall_mem_cons.2 ⟨rfl,(fun _ hx=>nomatch hx)⟩)⟩) (List.length_map ..).symm) ?_
 refine fa ?_
 exact rt h rfl
theorem W29(F:Nat)(a1:(List (List UInt8)))(r:(List (List UInt8)))(h:M29 F a1=some r):Mut Tryz.prog 29 [(V.lst 1 (a1.map encS))] 0 [] (resV [(V.own 0 r.length)]) 1 [(0,(Ob.arr 9 1 (r.map encS)))]:=by
 refine mut_enter Tryz.func29 rfl rfl (l:=[.tmp 2]) rfl rfl [(0,(V.lst 1 (a1.map encS)))] rfl (fun w0 m0 β0 hg=>en ?_)
 unfold M29 at h
 refine rn 8 rfl ?_
 refine aops_isNil (n:=a1.length) false tIsSl22 wants_none rfl rfl (congrArg some (List.length_map ..)) rfl (fun b7 hn8=>?_)
 replace h:=nilq_elim h hn8
 refine fo (rn 1 rfl ?_)
 refine spC h rfl (fun hb9 h=>?_) (fun hb9 h=>?_)
 ·refine rn 4 rfl ?_
  replace h:=Option.some.inj h
  subst h
  exact wR ⟨.inl rfl,[(2,(V.own 0 ([]:List (List UInt8)).length))],(Ghost.trans (ghost_nilE 2 9 1 rfl) (ghost_ren 1 (fun i=>([0]:List Nat).getD i 0) _ _ (by decide) (EnvSub.get (.cons (Sub.ownE rfl rfl (by simp)) .nil)) (HpSub.get (.cons rfl (ObSub.rows (rows_imm imms_encS)) .nil)) rfl)),(.cons (.tmp rfl) .nil)⟩
 refine rn 3 rfl ?_
 refine aops_emptySlice tEl22 wants_none rfl ?_
 refine fo (rn 1 rfl ?_)
 refine apL encS h rfl rfl rfl (by simp) rfl (fun h=>?_)
 refine rn 2 rfl ?_
 replace h:=Option.some.inj h
 subst h
 exact wR ⟨.inl rfl,[(2,(V.own 0 (([]:List (List UInt8))++a1).length))],(gr [1] rfl (hR rfl rfl .nil) rfl),(.cons (.tmp rfl) .nil)⟩
theorem W121(F:Nat)(a1:(List (List UInt8)))(a2:(List UInt8))(r:Int)(h:M121 F a1 a2=some r):Pure Tryz.prog 121 [(V.lst 1 (a1.map encS)),(sV a2)] (iV r):=by
 refine pin (fun r=>(iV r)) r rfl Tryz.func121 rfl rfl rfl rfl rfl (fun w0 m0 hg=>?_)
 unfold M121 at h
 refine rn 8 rfl ?_
 refine ln rfl rfl ?_
 refine rn 2 rfl ?_
 refine jK h (fun _:Unit=>(⟨[],[],0⟩:St)) (fun k3 (_:Unit)=>k3=some r) (fun k3 h=>?_) ?_
 ·refine rn 1 rfl ?_
  refine wl (A:=a1) 0 rfl (fun hA10=>?_)
  refine lC (fun(p:Int)=>(⟨[(0,(V.lst 1 (a1.map encS))),(1,(sV a2)),(7,(iV ((a1.length:Nat):Int))),(8,(iV p))],[],0⟩:St)) (fun n p=>RG a1 (fun tl nn=>M121_L1 F a2 k3 tl nn=some r) n p) (fun p h=>RG.zero h) (a1.length+1) 0 (RG.start h) (g0 rfl rfl) (fun n n5 h=>?_)
  refine rn 5 rfl ?_
  refine spL rfl (fun hb6=>?_) (fun hb6=>?_)
  ·obtain⟨x7,tl,hx8,h,hk1⟩:=RG.t hA10 h hb6
   unfold M121_L1 at h
   refine rn 13 rfl ?_
   refine ixh hx8 rfl rfl ?_
   refine rn 3 rfl ?_
   refine spC h rfl (fun hb9 h=>?_) (fun hb9 h=>?_)
   ·refine rn 5 rfl ?_
    exact rt h rfl
   refine rn 6 rfl ?_
   exact jX (w64 (n5+1)) (hk1 _ h) (g0 rfl rfl)
  replace h:=RG.f h hb6
  unfold M121_L1 at h
  refine rn 1 rfl ?_
  exact jX () h (g0 rfl rfl)
 intro _ h
 refine rn 4 rfl ?_
 exact rt h rfl
theorem W74(F:Nat)(a1:(List (List UInt8)))(a2:(List UInt8))(r:Bool)(h:M74 F a1 a2=some r):Pure Tryz.prog 74 [(V.lst 1 (a1.map encS)),(sV a2)] (bV r):=by
 refine pin (fun r=>(bV r)) r rfl Tryz.func74 rfl rfl rfl rfl rfl (fun w0 m0 hg=>?_)
 unfold M74 at h
 refine rn 8 rfl ?_
 refine cl h rfl rfl rfl (W121 _ _ _) rfl (fun y3 hx4 h=>?_)
 refine rn 3 rfl ?_
 exact rt h rfl
theorem W190(F:Nat)(a1:(List UInt8))(a2:(List UInt8))(r:Bool)(h:M190 F a1 a2=some r):Pure Tryz.prog 190 [(sV a1),(sV a2)] (bV r):=by
 refine pin (fun r=>(bV r)) r rfl Tryz.func190 rfl rfl rfl rfl rfl (fun w0 m0 hg=>?_)
 unfold M190 at h
 refine rn 12 rfl ?_
 refine spO 10 h rfl (fun hb3 h=>?_) (fun hb3 h=>?_)
 ·refine rn 3 rfl ?_
  refine ck h (fun hc4 h=>?_)
  refine aops_sliceT (0) ((a2.length:Int).toNat) (a1.take (a2.length:Int).toNat) tStr9 (wants_some (c:=true) (b:=true) 10 rfl rfl rfl) rfl rfl ⟨_,(by rw[Int.toNat_of_nonneg hc4.1];exact rfl)⟩ (Nat.zero_le _) hc4.2 slT_lo rfl ?_
  refine fo (rn 5 rfl ?_)
  exact rt h rfl
 refine rn 9 rfl ?_
 exact rt h rfl
theorem W138(F:Nat)(a1:(List UInt8))(a2:(List UInt8))(r:Bool)(h:M138 F a1 a2=some r):Pure Tryz.prog 138 [(sV a1),(sV a2)] (bV r):=by
 refine pin (fun r=>(bV r)) r rfl Tryz.func138 rfl rfl rfl rfl rfl (fun w0 m0 hg=>?_)
 unfold M138 at h
 refine rn 8 rfl ?_
 refine cl h rfl rfl rfl (W190 _ _ _) rfl (fun y3 hx4 h=>?_)
 refine rn 2 rfl ?_
 exact rt h rfl
theorem W238(F:Nat)(a1:(List UInt8))(a2:Int)(a3:List UInt8)(r:Bool)(h:M238 F a1 a2 a3=some r):Pure Tryz.prog 238 [(sV a1),(V.iptr [(iV a2)] 0),(V.iptr [(sV a3)] 0)] (bV r):=by
 refine pin (fun r=>(bV r)) r rfl Tryz.func238 rfl rfl rfl rfl rfl (fun w0 m0 hg=>?_)
 unfold M238 at h
 refine rn 11 rfl ?_
 refine spO 9 h rfl (fun hb4 h=>?_) (fun hb4 h=>?_)
 ·refine rn 2 rfl ?_
  refine cl h rfl rfl rfl (W138 _ _ _) rfl (fun y5 hx6 h=>?_)
  refine rn 3 rfl ?_
  exact rt h rfl
 refine rn 6 rfl ?_
 exact rt h rfl
theorem W247(F:Nat)(a1:(List (List UInt8)))(a2:Int)(a3:List UInt8)(r:Int)(h:M247 F a1 a2 a3=some r):Pure Tryz.prog 247 [(V.lst 1 (a1.map encS)),(V.fn (.func 238) [] [(V.iptr [(iV a2)] 0),(V.iptr [(sV a3)] 0)])] (iV r):=by
 refine pin (fun r=>(iV r)) r rfl Tryz.func247 rfl rfl rfl rfl rfl (fun w0 m0 hg=>?_)
 unfold M247 at h
 refine rn 8 rfl ?_
 refine ln rfl rfl ?_
 refine rn 2 rfl ?_
 refine jK h (fun _:Unit=>(⟨[],[],0⟩:St)) (fun k4 (_:Unit)=>k4=some r) (fun k4 h=>?_) ?_
 ·refine rn 1 rfl ?_
  refine wl (A:=a1) 0 rfl (fun hA13=>?_)
  refine lC (fun(p:Int)=>(⟨[(0,(V.lst 1 (a1.map encS))),(1,(V.fn (.func 238) [] [(V.iptr [(iV a2)] 0),(V.iptr [(sV a3)] 0)])),(7,(iV ((a1.length:Nat):Int))),(8,(iV p))],[],0⟩:St)) (fun n p=>RG a1 (fun tl nn=>M247_L1 F a2 a3 k4 tl nn=some r) n p) (fun p h=>RG.zero h) (a1.length+1) 0 (RG.start h) (g0 rfl rfl) (fun n n6 h=>?_)
  refine rn 5 rfl ?_
  refine spL rfl (fun hb7=>?_) (fun hb7=>?_)
  ·obtain⟨x8,tl,hx9,h,hk1⟩:=RG.t hA13 h hb7
   unfold M247_L1 at h
   refine rn 13 rfl ?_
   refine ixh hx9 rfl rfl ?_
   refine rn 1 rfl ?_
   refine cl h rfl rfl rfl (W238 _ _ _ _) rfl (fun y10 hx11 h=>?_)
   refine rn 1 rfl ?_
   refine spC h rfl (fun hb12 h=>?_) (fun hb12 h=>?_)
   ·refine rn 5 rfl ?_
    exact rt h rfl
   refine rn 6 rfl ?_
   exact jX (w64 (n6+1)) (hk1 _ h) (g0 rfl rfl)
  replace h:=RG.f h hb7
  unfold M247_L1 at h
  refine rn 1 rfl ?_
  exact jX () h (g0 rfl rfl)
 intro _ h
 refine rn 4 rfl ?_
 exact rt h rfl
theorem W237(F:Nat)(a1:(List (List UInt8)))(a2:Int)(a3:List UInt8)(r:Bool)(h:M237 F a1 a2 a3=some r):Pure Tryz.prog 237 [(V.lst 1 (a1.map encS)),(V.fn (.func 238) [] [(V.iptr [(iV a2)] 0),(V.iptr [(sV a3)] 0)])] (bV r):=by
 refine pin (fun r=>(bV r)) r rfl Tryz.func237 rfl rfl rfl rfl rfl (fun w0 m0 hg=>?_)
 unfold M237 at h
 refine rn 8 rfl ?_
 refine cl h rfl rfl rfl (W247 _ _ _ _) rfl (fun y4 hx5 h=>?_)
 refine rn 3 rfl ?_
 exact rt h rfl
theorem W223(F:Nat)(a1:(List UInt8))(a2:(List (List UInt8)))(a3:Int)(r:Bool)(h:M223 F a1 a2 a3=some r):Pure Tryz.prog 223 [(sV a1),(V.lst 1 (a2.map encS)),(iV a3)] (bV r):=by
 refine pin (fun r=>(bV r)) r rfl Tryz.func223 rfl rfl rfl rfl rfl (fun w0 m0 hg=>?_)
 unfold M223 at h
 obtain⟨y4,hx5,h⟩:=bind_some h
 refine rn 10 rfl ?_
 refine aops_lend_call (bV y4) [(V.lst 1 (a2.map encS)),(V.fn (.func 238) [] [(V.iptr [(iV a3)] 0),(V.iptr [(sV a1)] 0)])] fOk237 (Ghost.trans (ghost_frzV 1 8 (V.fn (.func 238) [] [(V.iptr [(iV a3)] 0),(V.ptr 0 1 0 0)]) rfl (imms_rows (.cons (.cons (Imm.con _) .nil) .nil)) rfl (Sub.fnc (.cons (Sub.frzptr rfl) (.cons Sub.keep .nil)))) (ghost_frzV 0 8 (V.fn (.func 238) [] [(V.iptr [(iV a3)] 0),(V.iptr [(sV a1)] 0)]) rfl (imms_rows (.cons (.cons (Imm.con _) .nil) .nil)) rfl (Sub.fnc (.cons Sub.keep (.cons (Sub.frzptr rfl) .nil))))) (Flat.con _) wants_none (evm_cons rfl (evm_cons rfl evm_nil)) (.cons (Imm.lst _ _) (.cons (Imm.fn .nil (.cons (Imm.iptr _ _) (.cons (Imm.iptr _ _) .nil))) .nil)) (W237 F a2 a3 a1 y4 hx5) rfl ?_
 refine fo (rn 2 rfl ?_)
 exact rt h rfl
theorem W187(F:Nat)(a1:(List UInt8))(a2:(List (List UInt8)))(a3:(List (List UInt8)))(r:((List UInt8)×Bool))(h:M187 F a1 a2 a3=some r):Pure Tryz.prog 187 [(sV a1),(V.lst 1 (a2.map encS)),(V.lst 1 (a3.map encS))] (V.tup [(sV (r.1)),(bV (r.2))]):=by
 refine pin (fun r=>(V.tup [(sV (r.1)),(bV (r.2))])) r rfl Tryz.func187 rfl rfl rfl rfl rfl (fun w0 m0 hg=>?_)
 unfold M187 at h
 refine rn 8 rfl ?_
 refine aops_buildSlice [(0,(sV a1))] [[(sV a1)]] tEl22 tZ9 rfl rfl rfl rfl wants_none (evp_cons rfl evp_nil) rfl rfl (by simp) rfl ?_
 refine fo (rn 7 rfl ?_)
 refine jK h (fun _:Unit=>(⟨[],[],0⟩:St)) (fun k4 (_:Unit)=>k4=some r) (fun k4 h=>?_) ?_
 ·refine rn 1 rfl ?_
  refine lC (fun(p:Int×(List (List UInt8)))=>(⟨[(0,(sV a1)),(1,(V.lst 1 (a2.map encS))),(2,(V.lst 1 (a3.map encS))),(8,(V.own 0 (p.2).length)),(9,(iV (p.1)))],[(0,(Ob.arr 9 1 ((p.2).map encS)))],1⟩:St)) (fun n p=>M187_L1 F a1 a2 a3 k4 n p.1 p.2=some r) (fun p h=>by simp[M187_L1] at h) F (0,([a1]:List (List UInt8))) h (ghost_ren 1 (fun i=>([0]:List Nat).getD i 0) _ _ (by decide) (EnvSub.get (.cons (Sub.imm (Imm.con _)) (.cons (Sub.imm (Imm.lst _ _)) (.cons (Sub.imm (Imm.lst _ _)) (.cons (Sub.ownE rfl rfl (by simp)) (.cons (Sub.imm (Imm.con _)) .nil)))))) (HpSub.get (.cons rfl (ObSub.rows (rows_imm imms_encS)) .nil)) rfl) (fun n p h=>?_)
  obtain⟨n7,l8⟩:=p
  unfold M187_L1 at h
  refine rn 8 rfl ?_
  refine spC h rfl (fun hb9 h=>?_) (fun hb9 h=>?_)
  ·refine rn 2 rfl ?_
   refine jK h (fun(p:(List (List UInt8)))=>(⟨[(0,(sV a1)),(1,(V.lst 1 (a2.map encS))),(2,(V.lst 1 (a3.map encS))),(8,(V.own 0 p.length)),(9,(iV n7))],[(0,(Ob.arr 9 1 (p.map encS)))],1⟩:St)) (fun k10 p=>k10 p=some r) (fun k10 h=>?_) ?_
   ·refine rn 5 rfl ?_
    refine ixo (a:=l8) h rfl rfl rfl (fun x12 hx13 h=>?_)
    refine ldp hx13 rfl rfl rfl rfl ?_
    refine rn 7 rfl ?_
    refine cl h rfl rfl rfl (W74 _ _ _) rfl (fun y14 hx15 h=>?_)
    refine rn 2 rfl ?_
    refine spC h rfl (fun hb16 h=>?_) (fun hb16 h=>?_)
    ·refine rn 6 rfl ?_
     exact rt h rfl
    refine rn 8 rfl ?_
    refine spC h rfl (fun hb17 h=>?_) (fun hb17 h=>?_)
    ·refine rn 1 rfl ?_
     exact jX l8 h (gr [0] rfl (hR rfl rfl .nil) rfl)
    refine rn 5 rfl ?_
    refine jK h (fun(p:(List (List UInt8)))=>(⟨[(0,(sV a1)),(1,(V.lst 1 (a2.map encS))),(2,(V.lst 1 (a3.map encS))),(8,(V.own 0 p.length)),(9,(iV n7))],[(0,(Ob.arr 9 1 (p.map encS)))],1⟩:St)) (fun k18 p=>k18 p=some r) (fun k18 h=>?_) ?_
    ·refine rn 1 rfl ?_
     refine lC (fun(p:Int×(List (List UInt8)))=>(⟨[(0,(sV a1)),(1,(V.lst 1 (a2.map encS))),(2,(V.lst 1 (a3.map encS))),(8,(V.own 0 (p.2).length)),(9,(iV n7)),(10,(sV x12)),(11,(V.con (.int .u8 (p.1))))],[(0,(Ob.arr 9 1 ((p.2).map encS)))],1⟩:St)) (fun n p=>M187_L2 F a1 a2 a3 x12 k18 n p.1 p.2=some r) (fun p h=>by simp[M187_L2] at h) F (32,l8) h (gr [0] rfl (hR rfl rfl .nil) rfl) (fun n p h=>?_)
     obtain⟨n22,l23⟩:=p
     unfold M187_L2 at h
     refine rn 6 rfl ?_
     refine spC h rfl (fun hb24 h=>?_) (fun hb24 h=>?_)
     ·refine rn 2 rfl ?_
      refine jK h (fun(p:(List (List UInt8)))=>(⟨[(0,(sV a1)),(1,(V.lst 1 (a2.map encS))),(2,(V.lst 1 (a3.map encS))),(8,(V.own 0 p.length)),(9,(iV n7)),(10,(sV x12)),(11,(V.con (.int .u8 n22)))],[(0,(Ob.arr 9 1 (p.map encS)))],1⟩:St)) (fun k25 p=>k25 p=some r) (fun k25 h=>?_) ?_
      ·refine rn 6 rfl ?_
       refine aops_convStr tStr9 ⟨_,tU21⟩ wants_none rfl rfl ?_
       refine ck h (fun hc27 h=>?_)
       refine aops_binT (str (x12++(Utf8.encode (IntKind.wrap .i32 n22)).data.toList)) wants_none rfl rfl (if_pos hc27) rfl ?_
       refine fo (rn 9 rfl ?_)
       refine cl h rfl rfl rfl (W223 _ _ _ _) rfl (fun y28 hx29 h=>?_)
       refine rn 1 rfl ?_
       refine spC h rfl (fun hb30 h=>?_) (fun hb30 h=>?_)
       ·refine rn 1 rfl ?_
        exact jX l23 h (gr [0] rfl (hR rfl rfl .nil) rfl)
       refine rn 6 rfl ?_
       refine cl h rfl rfl rfl (W74 _ _ _) rfl (fun y31 hx32 h=>?_)
       refine rn 2 rfl ?_
       refine spC h rfl (fun hb33 h=>?_) (fun hb33 h=>?_)
       ·refine rn 6 rfl ?_
        exact rt h rfl
       refine rn 4 rfl ?_
       refine aops_buildSlice [(0,(sV (x12++(Utf8.encode (IntKind.wrap .i32 n22)).data.toList)))] [[(sV (x12++(Utf8.encode (IntKind.wrap .i32 n22)).data.toList))]] tEl22 tZ9 rfl rfl rfl rfl wants_none (evp_cons rfl evp_nil) rfl rfl (by simp) rfl ?_
       refine fo ?_
       refine apO encS h rfl rfl rfl rfl rfl rfl rfl rfl (fun h=>?_)
       refine rn 3 rfl ?_
       exact jX (l23++([(x12++(Utf8.encode (IntKind.wrap .i32 n22)).data.toList)]:List (List UInt8))) h (gr [2] rfl (hR rfl rfl .nil) rfl)
      intro l26 h
      refine rn 5 rfl ?_
      exact jX ((IntKind.wrap .u8 (n22+1)),l26) h (gr [0] rfl (hR rfl rfl .nil) rfl)
     refine rn 1 rfl ?_
     exact jX l23 h (gr [0] rfl (hR rfl rfl .nil) rfl)
    intro l19 h
    refine rn 1 rfl ?_
    exact jX l19 h (gr [0] rfl (hR rfl rfl .nil) rfl)
   intro l11 h
   refine rn 5 rfl ?_
   exact jX ((w64 (n7+1)),l11) h (gr [0] rfl (hR rfl rfl .nil) rfl)
  refine rn 1 rfl ?_
  exact jX () h (g0 rfl rfl)
 intro _ h
 refine rn 5 rfl ?_
 exact rt h rfl
theorem W109(F:Nat)(a1:List (List UInt8))(r:List (List UInt8))(h:M109 F a1=some r):Mut Tryz.prog 109 [(V.own 0 a1.length)] 1 [(0,(Ob.arr 9 1 (a1.map encS)))] (resV []) 1 [(0,(Ob.arr 9 1 (r.map encS)))]:=by
 unfold M109 at h
 by_cases hc:a1.length<4611686018427387904
 ·rw[if_pos hc] at h
  replace h:=Option.some.inj h
  subst h
  exact(mut_sortStr a1 rfl (fun b off cap a w hH hb hc=>Go.Proofs.Tryz.slices_Sort_string b off cap a w hH hb hc) (fun p w=>Go.Proofs.Tryz.slices_Sort_string_none p 0 w) hc).heap hget_one
 ·rw[if_neg hc] at h;simp at h
theorem W188(F:Nat)(a1:List (List UInt8))(r:List (List UInt8))(h:M188 F a1=some r):Mut Tryz.prog 188 [(V.own 0 a1.length)] 1 [(0,(Ob.arr 9 1 (a1.map encS)))] (resV [(V.own 0 r.length)]) 1 [(0,(Ob.arr 9 1 (r.map encS)))]:=by
 unfold M188 at h
 by_cases hc:a1.length<=140737488355328
 ·rw[if_pos hc] at h
  replace h:=Option.some.inj h
  subst h
  exact(mut_compactS str (fun _=>rfl) [] a1 rfl (fun b off cap a w hH h1 h2=>Go.Proofs.Tryz.slices_Compact_string b off cap a w hH h1 h2) (fun p w=>Go.Proofs.Tryz.slices_Compact_string_empty p 0 w) hc).heap hget_one
 ·rw[if_neg hc] at h;simp at h
theorem W132(F:Nat)(a1:Tpolicy_subject)(r:(List (List UInt8)))(h:M132 F a1=some r):Pure Tryz.prog 132 [(V.iptr (encTpolicy_subject a1) 0)] (V.lst 1 (r.map encS)):=by
 refine pin (fun r=>(V.lst 1 (r.map encS))) r rfl Tryz.func132 rfl rfl rfl rfl rfl (fun w0 m0 hg=>?_)
 unfold M132 at h
 obtain⟨y2,hx3,h⟩:=bind_some h
 refine rn 10 rfl ?_
 refine aops_mcallS (V.own 0 y2.length) [(V.lst 1 (a1.is.map encS))] (fun i=>([]:List Nat).getD i 0) (fun i=>([0]:List Nat).getD i 0) 0 1 [(0,(Ob.arr 9 1 (y2.map encS)))] fOk29 wants_none rfl (evm_cons rfl evm_nil) (.cons (Sub.imm (Imm.lst _ _)) .nil) .nil (W29 F a1.is y2 hx3) rfl rfl rfl rfl (Sub.ownT rfl rfl) (.cons rfl (ObSub.rowsT (rows_imm imms_encS)) .nil) _ rfl ?_
 refine fo (rn 14 rfl ?_)
 refine cl h rfl rfl rfl (W74 _ _ _) rfl (fun y4 hx5 h=>?_)
 refine rn 2 rfl ?_
 refine jK h (fun(p:(List (List UInt8)))=>(⟨[(0,(V.iptr (encTpolicy_subject a1) 0)),(3,(V.own 0 y2.length)),(4,(V.lst 1 (p.map encS)))],[(0,(Ob.arr 9 1 (y2.map encS)))],1⟩:St)) (fun k6 p=>k6 p=some r) (fun k6 h=>?_) ?_
 ·refine spC h rfl (fun hb8 h=>?_) (fun hb8 h=>?_)
  ·refine rn 1 rfl ?_
   refine aops_buildSlice [(0,(sV ([]:List UInt8)))] [[(sV ([]:List UInt8))]] tEl22 tZ9 rfl rfl rfl rfl wants_none (evp_cons rfl evp_nil) rfl rfl (by simp) rfl ?_
   refine fo (rn 1 rfl ?_)
   refine apL encS h rfl rfl rfl (by simp) rfl (fun h=>?_)
   refine rn 2 rfl ?_
   exact jX (([([]:List UInt8)]:List (List UInt8))++a1.begins) h (Ghost.trans (ghost_frzEs 2 [4,23] rfl (rows_imm imms_encS) (List.forall_mem_cons.2 ⟨rfl,(List.forall_mem_cons.2 ⟨rfl,(fun _ hx=>nomatch hx)⟩)⟩) (List.length_map ..).symm) (gr [0] rfl (hR rfl rfl .nil) rfl))
  refine rn 1 rfl ?_
  exact jX a1.begins h (gr [0] rfl (hR rfl rfl .nil) rfl)
 intro l7 h
 refine rn 4 rfl ?_
 refine ln rfl rfl ?_
 refine rn 2 rfl ?_
 refine jK h (fun(p:(List (List UInt8)))=>(⟨[(3,(V.own 0 p.length))],[(0,(Ob.arr 9 1 (p.map encS)))],1⟩:St)) (fun k10 p=>k10 p=some r) (fun k10 h=>?_) ?_
 ·refine rn 1 rfl ?_
  refine wl (A:=l7) 4 rfl (fun hA25=>?_)
  refine lC (fun(p:Int×(List (List UInt8)))=>(⟨[(0,(V.iptr (encTpolicy_subject a1) 0)),(3,(V.own 0 (p.2).length)),(24,(V.lst 1 (l7.map encS))),(25,(iV ((l7.length:Nat):Int))),(26,(iV (p.1)))],[(0,(Ob.arr 9 1 ((p.2).map encS)))],1⟩:St)) (fun n p=>RG l7 (fun tl nn=>M132_L1 F a1 k10 tl p.2=some r) n p.1) (fun p h=>RG.zero h) (l7.length+1) (0,y2) (RG.start h) (gr [0] rfl (hR rfl rfl .nil) rfl) (fun n p h=>?_)
  obtain⟨n14,l15⟩:=p
  refine rn 5 rfl ?_
  refine spL rfl (fun hb16=>?_) (fun hb16=>?_)
  ·obtain⟨x17,tl,hx18,h,hk1⟩:=RG.t hA25 h hb16
   unfold M132_L1 at h
   refine rn 5 rfl ?_
   refine ixh hx18 rfl rfl ?_
   obtain⟨y19,hx20,h⟩:=bind_some h
   refine rn 4 rfl ?_
   refine dr mixed (vs 9 rfl (cD rfl rfl rfl rfl (W187 _ _ _ _ _ hx20) rfl (vs 5 rfl .nil))) (by kernel_rfl) ?_
   refine rn 4 rfl ?_
   refine jK h (fun(p:(List (List UInt8)))=>(⟨[(0,(V.iptr (encTpolicy_subject a1) 0)),(3,(V.own 0 p.length)),(24,(V.lst 1 (l7.map encS))),(25,(iV ((l7.length:Nat):Int))),(26,(iV n14))],[(0,(Ob.arr 9 1 (p.map encS)))],1⟩:St)) (fun k21 p=>k21 p=some r) (fun k21 h=>?_) ?_
   ·refine spC h rfl (fun hb23 h=>?_) (fun hb23 h=>?_)
    ·refine rn 3 rfl ?_
     refine aops_buildSlice [(0,(sV (y19.1)))] [[(sV (y19.1))]] tEl22 tZ9 rfl rfl rfl rfl wants_none (evp_cons rfl evp_nil) rfl rfl (by simp) rfl ?_
     refine fo ?_
     refine apO encS h rfl rfl rfl rfl rfl rfl rfl rfl (fun h=>?_)
     refine rn 2 rfl ?_
     exact jX (l15++([(y19.1)]:List (List UInt8))) h (gr [2] rfl (hR rfl rfl .nil) rfl)
    refine rn 1 rfl ?_
    exact jX l15 h (gr [0] rfl (hR rfl rfl .nil) rfl)
   intro l22 h
   refine rn 5 rfl ?_
   exact jX ((w64 (n14+1)),l22) (hk1 _ h) (gr [0] rfl (hR rfl rfl .nil) rfl)
  replace h:=RG.f h hb16
  unfold M132_L1 at h
  refine rn 1 rfl ?_
  exact jX l15 h (gr [0] rfl (hR rfl rfl .nil) rfl)
 intro l11 h
 obtain⟨y26,hx27,h⟩:=bind_some h
 refine rn 3 rfl ?_
 refine ck h (fun hc28 h=>?_)
 refine aops_mcallS (V.tup []) [(V.own 0 l11.length)] (fun i=>([0]:List Nat).getD i 0) (fun i=>([0]:List Nat).getD i 0) 1 1 [(0,(Ob.arr 9 1 (y26.map encS)))] fOk109 wants_none rfl (evm_cons rfl evm_nil) (.cons (Sub.own rfl rfl) .nil) (.cons rfl (ObSub.rows (rows_imm imms_encS)) .nil) (W109 F l11 y26 hx27) rfl rfl rfl rfl (Sub.immT (Imm.tup .nil)) (.cons rfl (ObSub.rowsT (rows_imm imms_encS)) .nil) _ rfl ?_
 refine aops_ghost (ghost_tell 3 (V.own 0 y26.length) rfl (Sub.ownI hc28)) ?_
 refine aops_ghost (ghost_tell 49 (V.own 0 y26.length) rfl (Sub.ownI hc28)) ?_
 obtain⟨y29,hx30,h⟩:=bind_some h
 refine fo (rn 4 rfl ?_)
 refine aops_mcallS (V.own 0 y29.length) [(V.own 0 y26.length)] (fun i=>([0]:List Nat).getD i 0) (fun i=>([0]:List Nat).getD i 0) 1 1 [(0,(Ob.arr 9 1 (y29.map encS)))] fOk188 wants_none rfl (evm_cons rfl evm_nil) (.cons (Sub.own rfl rfl) .nil) (.cons rfl (ObSub.rows (rows_imm imms_encS)) .nil) (W188 F y26 y29 hx30) rfl rfl rfl rfl (Sub.ownT rfl rfl) (.cons rfl (ObSub.rowsT (rows_imm imms_encS)) .nil) _ rfl ?_
 refine fo (rn 2 rfl ?_)
 refine awp_ghost (ghost_frzEs 0 [2,52] rfl (rows_imm imms_encS) (List.forall_mem_cons.2 ⟨rfl,(List.forall_mem_cons.2 ⟨rfl,(fun _ hx=>nomatch hx)⟩)⟩) (List.length_map ..).symm) ?_
 refine fa ?_
 exact rt h rfl
theorem W90(o0:List KV)(o1:Int)(o2:List (List UInt8))(o3:(List UInt8))(R0:((List (Tpolicy_value×Bool))×(List ((List UInt8)×(List Tpolicy_value))))->Tpolicy_value->Option ((List (Tpolicy_value×Bool))×(List ((List UInt8)×(List Tpolicy_value)))))(F:Nat)(a1:List (List UInt8))(a2:List (List UInt8))(a3:List Int)(a4:Bool)(a5:Bool)(a6:Bool)(a7:Int)(q0:List (Tpolicy_value×Bool))(q1:List ((List UInt8)×(List Tpolicy_value)))(r:((List (Tpolicy_value×Bool))×(List ((List UInt8)×(List Tpolicy_value)))))(h:M90 R0 F a1 a2 a3 a4 a5 a6 a7 q0 q1=some r):IterG [] Tryz.prog 90 [(V.iptr [(V.lst 1 (a1.map encS)),(V.lst 1 (a2.map encS)),(V.lst 1 (a3.map encI_i64)),(bV a4),(bV a5),(bV a6),(iV a7)] 0)] 9 (fun(p:(List (Tpolicy_value×Bool))×(List ((List UInt8)×(List Tpolicy_value))))=>([(0,(Ob.arr 80 1 [[(V.ptr 3 5 0 0)]])),(1,(Ob.arr 9 1 [[(sV o3)]])),(2,(Ob.arr 167 1 [[(V.map 4)]])),(3,(Ob.arr 165 5 [[(V.own 5 (o2++([o3]:List (List UInt8))).length),(V.map 6),(V.map 7),(V.map 8),(V.fn (.func 57) [] [(V.iptr [(V.lst 1 (o0.map KV.enc))] 0),(V.iptr [(iV o1)] 0)])]])),(4,(Ob.map ((p.1).map encM98_4))),(5,(Ob.arr 9 1 ((o2++([o3]:List (List UInt8))).map encS))),(6,(Ob.map ((p.2).map encM9_337))),(7,(Ob.map (([]:List ((List UInt8)×Tpolicy_value)).map encM9_98))),(8,(Ob.map (([]:List ((List UInt8)×Bool)).map encM9_4)))]:Heap)) (fun x=>V.agg (encTpolicy_value x)) R0 (q0,q1) r:=by
 refine iter_enter Tryz.func90 rfl rfl rfl rfl (fun l=>[(0,(V.iptr [(V.lst 1 (a1.map encS)),(V.lst 1 (a2.map encS)),(V.lst 1 (a3.map encI_i64)),(bV a4),(bV a5),(bV a6),(iV a7)] 0)),(1,yV l)]) (fun l=>rfl) (fun w0 m0 β0 hg l hY=>en ?_)
 unfold M90 at h
 refine rn 3 rfl ?_
 refine aops_buildSlice [(0,(V.agg [(bV false),(bV false),(sV ([]:List UInt8)),(iV 0)]))] [[(bV false),(bV false),(sV ([]:List UInt8)),(iV 0)]] tEl169 tZ98 rfl rfl rfl rfl wants_none (evp_cons rfl evp_nil) rfl rfl (by simp) rfl ?_
 refine fo (rn 10 rfl ?_)
 refine spO 19 h rfl (fun hb8 h=>?_) (fun hb8 h=>?_)
 ·refine rn 10 rfl ?_
  refine cl h rfl rfl rfl (W131 _ _) rfl (fun y9 hx10 h=>?_)
  refine ln rfl rfl ?_
  refine rn 2 rfl ?_
  refine jK h (fun(p:(List Tpolicy_value))=>(⟨[(0,(V.iptr [(V.lst 1 (a1.map encS)),(V.lst 1 (a2.map encS)),(V.lst 1 (a3.map encI_i64)),(bV a4),(bV a5),(bV a6),(iV a7)] 0)),(1,(yV l)),(4,(V.own 9 p.length))],[(0,(Ob.arr 80 1 [[(V.ptr 3 5 0 0)]])),(1,(Ob.arr 9 1 [[(sV o3)]])),(2,(Ob.arr 167 1 [[(V.map 4)]])),(3,(Ob.arr 165 5 [[(V.own 5 (o2++([o3]:List (List UInt8))).length),(V.map 6),(V.map 7),(V.map 8),(V.fn (.func 57) [] [(V.iptr [(V.lst 1 (o0.map KV.enc))] 0),(V.iptr [(iV o1)] 0)])]])),(4,(Ob.map (q0.map encM98_4))),(5,(Ob.arr 9 1 ((o2++([o3]:List (List UInt8))).map encS))),(6,(Ob.map (q1.map encM9_337))),(7,(Ob.map (([]:List ((List UInt8)×Tpolicy_value)).map encM9_98))),(8,(Ob.map (([]:List ((List UInt8)×Bool)).map encM9_4))),(9,(Ob.arr 98 4 (p.map encTpolicy_value)))],10⟩:St)) (fun k11 p=>k11 p=some r) (fun k11 h=>?_) ?_
  ·refine rn 1 rfl ?_
   refine wl (A:=y9) 26 rfl (fun hA21=>?_)
   refine lC (fun(p:Int×(List Tpolicy_value))=>(⟨[(0,(V.iptr [(V.lst 1 (a1.map encS)),(V.lst 1 (a2.map encS)),(V.lst 1 (a3.map encI_i64)),(bV a4),(bV a5),(bV a6),(iV a7)] 0)),(1,(yV l)),(4,(V.own 9 (p.2).length)),(26,(V.lst 1 (y9.map encI_i64))),(27,(iV ((y9.length:Nat):Int))),(28,(iV (p.1)))],[(0,(Ob.arr 80 1 [[(V.ptr 3 5 0 0)]])),(1,(Ob.arr 9 1 [[(sV o3)]])),(2,(Ob.arr 167 1 [[(V.map 4)]])),(3,(Ob.arr 165 5 [[(V.own 5 (o2++([o3]:List (List UInt8))).length),(V.map 6),(V.map 7),(V.map 8),(V.fn (.func 57) [] [(V.iptr [(V.lst 1 (o0.map KV.enc))] 0),(V.iptr [(iV o1)] 0)])]])),(4,(Ob.map (q0.map encM98_4))),(5,(Ob.arr 9 1 ((o2++([o3]:List (List UInt8))).map encS))),(6,(Ob.map (q1.map encM9_337))),(7,(Ob.map (([]:List ((List UInt8)×Tpolicy_value)).map encM9_98))),(8,(Ob.map (([]:List ((List UInt8)×Bool)).map encM9_4))),(9,(Ob.arr 98 4 ((p.2).map encTpolicy_value)))],10⟩:St)) (fun n p=>RG y9 (fun tl nn=>M90_L1 F k11 tl p.2=some r) n p.1) (fun p h=>RG.zero h) (y9.length+1) (0,([(Tpolicy_value.mk false false ([]:List UInt8) 0)]:List Tpolicy_value)) (RG.start h) (ghost_ren 10 (fun i=>([0,1,2,3,4,5,6,7,8,9]:List Nat).getD i 0) _ _ (by decide) (EnvSub.get (.cons (Sub.imm (Imm.iptr _ _)) (.cons (Sub.imm (Imm.con _)) (.cons (Sub.ownE rfl rfl (by simp)) (.cons (Sub.imm (Imm.lst _ _)) (.cons (Sub.imm (Imm.con _)) (.cons (Sub.imm (Imm.con _)) .nil))))))) (HpSub.get (.cons rfl (ObSub.box (.cons (Sub.ptr rfl rfl) .nil)) (.cons rfl (ObSub.box (.cons (Sub.imm (Imm.con _)) .nil)) (.cons rfl (ObSub.box (.cons (Sub.map rfl rfl) .nil)) (.cons rfl (ObSub.box (.cons (Sub.own rfl rfl) (.cons (Sub.map rfl rfl) (.cons (Sub.map rfl rfl) (.cons (Sub.map rfl rfl) (.cons (Sub.imm (Imm.fn .nil (.cons (Imm.iptr _ _) (.cons (Imm.iptr _ _) .nil)))) .nil)))))) (.cons rfl (ObSub.maps encM98_4_imm) (.cons rfl (ObSub.rows (rows_imm imms_encS)) (.cons rfl (ObSub.mapsK ents_keepK) (.cons rfl (ObSub.maps encM9_98_imm) (.cons rfl (ObSub.maps encM9_4_imm) (.cons rfl (ObSub.rows (rows_imm imms_encTpolicy_value)) .nil))))))))))) rfl) (fun n p h=>?_)
   obtain⟨n15,l16⟩:=p
   refine rn 5 rfl ?_
   refine spL rfl (fun hb17=>?_) (fun hb17=>?_)
   ·obtain⟨x18,tl,hx19,h,hk1⟩:=RG.t hA21 h hb17
    unfold M90_L1 at h
    refine rn 5 rfl ?_
    refine ixh hx19 rfl rfl ?_
    refine rn 7 rfl ?_
    refine aops_buildSlice [(0,(V.agg [(bV false),(bV true),(sV ([]:List UInt8)),(iV x18)]))] [[(bV false),(bV true),(sV ([]:List UInt8)),(iV x18)]] tEl169 tZ98 rfl rfl rfl rfl wants_none (evp_cons rfl evp_nil) rfl rfl (by simp) rfl ?_
    refine fo ?_
    refine apO encTpolicy_value h rfl rfl rfl rfl rfl rfl rfl rfl (fun h=>?_)
    refine rn 7 rfl ?_
    exact jX ((w64 (n15+1)),(l16++([(Tpolicy_value.mk false true ([]:List UInt8) x18)]:List Tpolicy_value))) (hk1 _ h) (gr [0,1,2,3,4,5,6,7,8,11] rfl (hB rfl rfl rfl (hB rfl rfl rfl (hB rfl rfl rfl (hB rfl rfl rfl (hM rfl rfl (hR rfl rfl (hM rfl rfl (hM rfl rfl (hM rfl rfl (hR rfl rfl .nil)))))))))) rfl)
   replace h:=RG.f h hb17
   unfold M90_L1 at h
   refine rn 1 rfl ?_
   exact jX l16 h (gr [0,1,2,3,4,5,6,7,8,9] rfl (hB rfl rfl rfl (hB rfl rfl rfl (hB rfl rfl rfl (hB rfl rfl rfl (hM rfl rfl (hR rfl rfl (hM rfl rfl (hM rfl rfl (hM rfl rfl (hR rfl rfl .nil)))))))))) rfl)
  intro l12 h
  refine rn 7 rfl ?_
  refine jK h (fun(p:(List (Tpolicy_value×Bool))×(List ((List UInt8)×(List Tpolicy_value))))=>(⟨[(0,(V.iptr [(V.lst 1 (a1.map encS)),(V.lst 1 (a2.map encS)),(V.lst 1 (a3.map encI_i64)),(bV a4),(bV a5),(bV a6),(iV a7)] 0)),(1,(yV l)),(4,(V.own 9 l12.length))],[(0,(Ob.arr 80 1 [[(V.ptr 3 5 0 0)]])),(1,(Ob.arr 9 1 [[(sV o3)]])),(2,(Ob.arr 167 1 [[(V.map 4)]])),(3,(Ob.arr 165 5 [[(V.own 5 (o2++([o3]:List (List UInt8))).length),(V.map 6),(V.map 7),(V.map 8),(V.fn (.func 57) [] [(V.iptr [(V.lst 1 (o0.map KV.enc))] 0),(V.iptr [(iV o1)] 0)])]])),(4,(Ob.map ((p.1).map encM98_4))),(5,(Ob.arr 9 1 ((o2++([o3]:List (List UInt8))).map encS))),(6,(Ob.map ((p.2).map encM9_337))),(7,(Ob.map (([]:List ((List UInt8)×Tpolicy_value)).map encM9_98))),(8,(Ob.map (([]:List ((List UInt8)×Bool)).map encM9_4))),(9,(Ob.arr 98 4 (l12.map encTpolicy_value)))],10⟩:St)) (fun k22 p=>k22 p.1 p.2=some r) (fun k22 h=>?_) ?_
  ·refine rn 1 rfl ?_
   refine wlO (A:=l12) 9 rfl (fun hA36=>?_)
   refine lC (fun(p:Int×(List (Tpolicy_value×Bool))×(List ((List UInt8)×(List Tpolicy_value))))=>(⟨[(0,(V.iptr [(V.lst 1 (a1.map encS)),(V.lst 1 (a2.map encS)),(V.lst 1 (a3.map encI_i64)),(bV a4),(bV a5),(bV a6),(iV a7)] 0)),(1,(yV l)),(4,(V.own 9 l12.length)),(38,(V.own 9 l12.length)),(39,(iV ((l12.length:Nat):Int))),(40,(iV (p.1)))],[(0,(Ob.arr 80 1 [[(V.ptr 3 5 0 0)]])),(1,(Ob.arr 9 1 [[(sV o3)]])),(2,(Ob.arr 167 1 [[(V.map 4)]])),(3,(Ob.arr 165 5 [[(V.own 5 (o2++([o3]:List (List UInt8))).length),(V.map 6),(V.map 7),(V.map 8),(V.fn (.func 57) [] [(V.iptr [(V.lst 1 (o0.map KV.enc))] 0),(V.iptr [(iV o1)] 0)])]])),(4,(Ob.map ((p.2.1).map encM98_4))),(5,(Ob.arr 9 1 ((o2++([o3]:List (List UInt8))).map encS))),(6,(Ob.map ((p.2.2).map encM9_337))),(7,(Ob.map (([]:List ((List UInt8)×Tpolicy_value)).map encM9_98))),(8,(Ob.map (([]:List ((List UInt8)×Bool)).map encM9_4))),(9,(Ob.arr 98 4 (l12.map encTpolicy_value)))],10⟩:St)) (fun n p=>RG l12 (fun tl nn=>M90_L2 R0 F k22 tl p.2.1 p.2.2=some r) n p.1) (fun p h=>RG.zero h) (l12.length+1) (0,q0,q1) (RG.start h) (gr [0,1,2,3,4,5,6,7,8,9] rfl (hB rfl rfl rfl (hB rfl rfl rfl (hB rfl rfl rfl (hB rfl rfl rfl (hM rfl rfl (hR rfl rfl (hM rfl rfl (hM rfl rfl (hM rfl rfl (hR rfl rfl .nil)))))))))) rfl) (fun n p h=>?_)
   obtain⟨n28,m29,m30⟩:=p
   refine rn 5 rfl ?_
   refine spL rfl (fun hb31=>?_) (fun hb31=>?_)
   ·obtain⟨x32,tl,hx33,h,hk2⟩:=RG.t hA36 h hb31
    unfold M90_L2 at h
    refine rn 5 rfl ?_
    refine ixoh (a:=l12) hx33 rfl rfl rfl ?_
    refine ldp hx33 rfl rfl rfl rfl ?_
    obtain⟨y34,hx35,h⟩:=bind_some h
    refine rn 7 rfl ?_
    refine aops_yield (hpf:=(fun(p:(List (Tpolicy_value×Bool))×(List ((List UInt8)×(List Tpolicy_value))))=>([(0,(Ob.arr 80 1 [[(V.ptr 3 5 0 0)]])),(1,(Ob.arr 9 1 [[(sV o3)]])),(2,(Ob.arr 167 1 [[(V.map 4)]])),(3,(Ob.arr 165 5 [[(V.own 5 (o2++([o3]:List (List UInt8))).length),(V.map 6),(V.map 7),(V.map 8),(V.fn (.func 57) [] [(V.iptr [(V.lst 1 (o0.map KV.enc))] 0),(V.iptr [(iV o1)] 0)])]])),(4,(Ob.map ((p.1).map encM98_4))),(5,(Ob.arr 9 1 ((o2++([o3]:List (List UInt8))).map encS))),(6,(Ob.map ((p.2).map encM9_337))),(7,(Ob.map (([]:List ((List UInt8)×Tpolicy_value)).map encM9_98))),(8,(Ob.map (([]:List ((List UInt8)×Bool)).map encM9_4)))]:Heap))) (p:=(m29,m30)) (r:=y34) (z:=x32) (enc:=(fun x=>V.agg (encTpolicy_value x))) (R:=R0) (fun i=>i) [(0,(Ob.arr 80 1 [[(V.ptr 3 5 0 0)]])),(1,(Ob.arr 9 1 [[(sV o3)]])),(2,(Ob.arr 167 1 [[(V.map 4)]])),(3,(Ob.arr 165 5 [[(V.own 5 (o2++([o3]:List (List UInt8))).length),(V.map 6),(V.map 7),(V.map 8),(V.fn (.func 57) [] [(V.iptr [(V.lst 1 (o0.map KV.enc))] 0),(V.iptr [(iV o1)] 0)])]])),(4,(Ob.map ((y34.1).map encM98_4))),(5,(Ob.arr 9 1 ((o2++([o3]:List (List UInt8))).map encS))),(6,(Ob.map ((y34.2).map encM9_337))),(7,(Ob.map (([]:List ((List UInt8)×Tpolicy_value)).map encM9_98))),(8,(Ob.map (([]:List ((List UInt8)×Bool)).map encM9_4)))] hY hx35 wants_none rfl rfl rfl (Imm.agg (imms_encTpolicy_value _)) (fun _ _=>rfl) (.cons rfl (ObSub.box (.cons (Sub.ptr rfl rfl) .nil)) (.cons rfl (ObSub.box (.cons (Sub.imm (Imm.con _)) .nil)) (.cons rfl (ObSub.box (.cons (Sub.map rfl rfl) .nil)) (.cons rfl (ObSub.box (.cons (Sub.own rfl rfl) (.cons (Sub.map rfl rfl) (.cons (Sub.map rfl rfl) (.cons (Sub.map rfl rfl) (.cons (Sub.imm (Imm.fn .nil (.cons (Imm.iptr _ _) (.cons (Imm.iptr _ _) .nil)))) .nil)))))) (.cons rfl (ObSub.maps encM98_4_imm) (.cons rfl (ObSub.rows (rows_imm imms_encS)) (.cons rfl (ObSub.mapsK ents_keepK) (.cons rfl (ObSub.maps encM9_98_imm) (.cons rfl (ObSub.maps encM9_4_imm) .nil))))))))) rfl rfl (.cons rfl (ObSub.box (.cons (Sub.ptrT rfl rfl) .nil)) (.cons rfl (ObSub.box (.cons (Sub.immT (Imm.con _)) .nil)) (.cons rfl (ObSub.box (.cons (Sub.mapT rfl rfl) .nil)) (.cons rfl (ObSub.box (.cons (Sub.ownT rfl rfl) (.cons (Sub.mapT rfl rfl) (.cons (Sub.mapT rfl rfl) (.cons (Sub.mapT rfl rfl) (.cons (Sub.immT (Imm.fn .nil (.cons (Imm.iptr _ _) (.cons (Imm.iptr _ _) .nil)))) .nil)))))) (.cons rfl (ObSub.mapsT encM98_4_imm) (.cons rfl (ObSub.rowsT (rows_imm imms_encS)) (.cons rfl (ObSub.mapsTK ents_keepK) (.cons rfl (ObSub.mapsT encM9_98_imm) (.cons rfl (ObSub.mapsT encM9_4_imm) .nil))))))))) ?_
    refine fo (rn 9 rfl ?_)
    exact jX ((w64 (n28+1)),(y34.1),(y34.2)) (hk2 _ h) (gr [0,1,2,3,4,5,6,7,8,9] rfl (hB rfl rfl rfl (hB rfl rfl rfl (hB rfl rfl rfl (hB rfl rfl rfl (hM rfl rfl (hR rfl rfl (hM rfl rfl (hM rfl rfl (hM rfl rfl (hR rfl rfl .nil)))))))))) rfl)
   replace h:=RG.f h hb31
   unfold M90_L2 at h
   refine rn 1 rfl ?_
   exact jX (m29,m30) h (gr [0,1,2,3,4,5,6,7,8,9] rfl (hB rfl rfl rfl (hB rfl rfl rfl (hB rfl rfl rfl (hB rfl rfl rfl (hM rfl rfl (hR rfl rfl (hM rfl rfl (hM rfl rfl (hM rfl rfl (hR rfl rfl .nil)))))))))) rfl)
  rintro⟨m23,m24⟩ h
  refine rn 9 rfl ?_
  refine spO 54 h rfl (fun hb37 h=>?_) (fun hb37 h=>?_)
  ·refine rn 7 rfl ?_
   refine spC h rfl (fun hb38 h=>?_) (fun hb38 h=>?_)
   ·replace h:=Option.some.inj h
    subst h
    exact wR ⟨.inl rfl,[],(gr [0,1,2,3,4,5,6,7,8] rfl (hB rfl rfl rfl (hB rfl rfl rfl (hB rfl rfl rfl (hB rfl rfl rfl (hM rfl rfl (hR rfl rfl (hM rfl rfl (hM rfl rfl (hM rfl rfl .nil))))))))) rfl),.nil⟩
   refine rn 4 rfl ?_
   refine cl h rfl rfl rfl (W132 _ _) rfl (fun y39 hx40 h=>?_)
   refine ln rfl rfl ?_
   refine rn 3 rfl ?_
   refine wl (A:=y39) 62 rfl (fun hA68=>?_)
   refine lC (fun(p:Int×(List (Tpolicy_value×Bool))×(List ((List UInt8)×(List Tpolicy_value))))=>(⟨[(1,(yV l)),(4,(V.own 9 l12.length)),(62,(V.lst 1 (y39.map encS))),(63,(iV ((y39.length:Nat):Int))),(64,(iV (p.1)))],[(0,(Ob.arr 80 1 [[(V.ptr 3 5 0 0)]])),(1,(Ob.arr 9 1 [[(sV o3)]])),(2,(Ob.arr 167 1 [[(V.map 4)]])),(3,(Ob.arr 165 5 [[(V.own 5 (o2++([o3]:List (List UInt8))).length),(V.map 6),(V.map 7),(V.map 8),(V.fn (.func 57) [] [(V.iptr [(V.lst 1 (o0.map KV.enc))] 0),(V.iptr [(iV o1)] 0)])]])),(4,(Ob.map ((p.2.1).map encM98_4))),(5,(Ob.arr 9 1 ((o2++([o3]:List (List UInt8))).map encS))),(6,(Ob.map ((p.2.2).map encM9_337))),(7,(Ob.map (([]:List ((List UInt8)×Tpolicy_value)).map encM9_98))),(8,(Ob.map (([]:List ((List UInt8)×Bool)).map encM9_4))),(9,(Ob.arr 98 4 (l12.map encTpolicy_value)))],10⟩:St)) (fun n p=>RG y39 (fun tl nn=>M90_L3 R0 F l12 tl p.2.1 p.2.2=some r) n p.1) (fun p h=>RG.zero h) (y39.length+1) (0,m23,m24) (RG.start h) (gr [0,1,2,3,4,5,6,7,8,9] rfl (hB rfl rfl rfl (hB rfl rfl rfl (hB rfl rfl rfl (hB rfl rfl rfl (hM rfl rfl (hR rfl rfl (hM rfl rfl (hM rfl rfl (hM rfl rfl (hR rfl rfl .nil)))))))))) rfl) (fun n p h=>?_)
   obtain⟨n44,m45,m46⟩:=p
   refine rn 5 rfl ?_
   refine spL rfl (fun hb47=>?_) (fun hb47=>?_)
   ·obtain⟨x51,tl,hx52,h,hk3⟩:=RG.t hA68 h hb47
    unfold M90_L3 at h
    refine rn 2 rfl ?_
    refine jK h (fun(p:(List (Tpolicy_value×Bool))×(List ((List UInt8)×(List Tpolicy_value))))=>(⟨[(1,(yV l)),(4,(V.own 9 l12.length)),(62,(V.lst 1 (y39.map encS))),(63,(iV ((y39.length:Nat):Int))),(64,(iV n44))],[(0,(Ob.arr 80 1 [[(V.ptr 3 5 0 0)]])),(1,(Ob.arr 9 1 [[(sV o3)]])),(2,(Ob.arr 167 1 [[(V.map 4)]])),(3,(Ob.arr 165 5 [[(V.own 5 (o2++([o3]:List (List UInt8))).length),(V.map 6),(V.map 7),(V.map 8),(V.fn (.func 57) [] [(V.iptr [(V.lst 1 (o0.map KV.enc))] 0),(V.iptr [(iV o1)] 0)])]])),(4,(Ob.map ((p.1).map encM98_4))),(5,(Ob.arr 9 1 ((o2++([o3]:List (List UInt8))).map encS))),(6,(Ob.map ((p.2).map encM9_337))),(7,(Ob.map (([]:List ((List UInt8)×Tpolicy_value)).map encM9_98))),(8,(Ob.map (([]:List ((List UInt8)×Bool)).map encM9_4))),(9,(Ob.arr 98 4 (l12.map encTpolicy_value)))],10⟩:St)) (fun k48 p=>k48 p.1 p.2=some r) (fun k48 h=>?_) ?_
    ·refine rn 3 rfl ?_
     refine ixh hx52 rfl rfl ?_
     refine rn 9 rfl ?_
     refine jK h (fun(p:(List (Tpolicy_value×Bool))×(List ((List UInt8)×(List Tpolicy_value))))=>(⟨[(1,(yV l)),(4,(V.own 9 l12.length)),(62,(V.lst 1 (y39.map encS))),(63,(iV ((y39.length:Nat):Int))),(64,(iV n44))],[(0,(Ob.arr 80 1 [[(V.ptr 3 5 0 0)]])),(1,(Ob.arr 9 1 [[(sV o3)]])),(2,(Ob.arr 167 1 [[(V.map 4)]])),(3,(Ob.arr 165 5 [[(V.own 5 (o2++([o3]:List (List UInt8))).length),(V.map 6),(V.map 7),(V.map 8),(V.fn (.func 57) [] [(V.iptr [(V.lst 1 (o0.map KV.enc))] 0),(V.iptr [(iV o1)] 0)])]])),(4,(Ob.map ((p.1).map encM98_4))),(5,(Ob.arr 9 1 ((o2++([o3]:List (List UInt8))).map encS))),(6,(Ob.map ((p.2).map encM9_337))),(7,(Ob.map (([]:List ((List UInt8)×Tpolicy_value)).map encM9_98))),(8,(Ob.map (([]:List ((List UInt8)×Bool)).map encM9_4))),(9,(Ob.arr 98 4 (l12.map encTpolicy_value)))],10⟩:St)) (fun k53 p=>k53 p.1 p.2=some r) (fun k53 h=>?_) ?_
     ·refine rn 1 rfl ?_
      refine wlO (A:=l12) 9 rfl (fun hA67=>?_)
      refine lC (fun(p:Int×(List (Tpolicy_value×Bool))×(List ((List UInt8)×(List Tpolicy_value))))=>(⟨[(1,(yV l)),(4,(V.own 9 l12.length)),(10,(sV x51)),(62,(V.lst 1 (y39.map encS))),(63,(iV ((y39.length:Nat):Int))),(64,(iV n44)),(68,(V.own 9 l12.length)),(69,(iV ((l12.length:Nat):Int))),(70,(iV (p.1)))],[(0,(Ob.arr 80 1 [[(V.ptr 3 5 0 0)]])),(1,(Ob.arr 9 1 [[(sV o3)]])),(2,(Ob.arr 167 1 [[(V.map 4)]])),(3,(Ob.arr 165 5 [[(V.own 5 (o2++([o3]:List (List UInt8))).length),(V.map 6),(V.map 7),(V.map 8),(V.fn (.func 57) [] [(V.iptr [(V.lst 1 (o0.map KV.enc))] 0),(V.iptr [(iV o1)] 0)])]])),(4,(Ob.map ((p.2.1).map encM98_4))),(5,(Ob.arr 9 1 ((o2++([o3]:List (List UInt8))).map encS))),(6,(Ob.map ((p.2.2).map encM9_337))),(7,(Ob.map (([]:List ((List UInt8)×Tpolicy_value)).map encM9_98))),(8,(Ob.map (([]:List ((List UInt8)×Bool)).map encM9_4))),(9,(Ob.arr 98 4 (l12.map encTpolicy_value)))],10⟩:St)) (fun n p=>RG l12 (fun tl nn=>M90_L4 R0 F x51 k53 tl p.2.1 p.2.2=some r) n p.1) (fun p h=>RG.zero h) (l12.length+1) (0,m45,m46) (RG.start h) (gr [0,1,2,3,4,5,6,7,8,9] rfl (hB rfl rfl rfl (hB rfl rfl rfl (hB rfl rfl rfl (hB rfl rfl rfl (hM rfl rfl (hR rfl rfl (hM rfl rfl (hM rfl rfl (hM rfl rfl (hR rfl rfl .nil)))))))))) rfl) (fun n p h=>?_)
      obtain⟨n59,m60,m61⟩:=p
      refine rn 5 rfl ?_
      refine spL rfl (fun hb62=>?_) (fun hb62=>?_)
      ·obtain⟨x63,tl,hx64,h,hk4⟩:=RG.t hA67 h hb62
       unfold M90_L4 at h
       refine rn 5 rfl ?_
       refine ixoh (a:=l12) hx64 rfl rfl rfl ?_
       refine ldp hx64 rfl rfl rfl rfl ?_
       obtain⟨y65,hx66,h⟩:=bind_some h
       refine rn 15 rfl ?_
       refine aops_yield (hpf:=(fun(p:(List (Tpolicy_value×Bool))×(List ((List UInt8)×(List Tpolicy_value))))=>([(0,(Ob.arr 80 1 [[(V.ptr 3 5 0 0)]])),(1,(Ob.arr 9 1 [[(sV o3)]])),(2,(Ob.arr 167 1 [[(V.map 4)]])),(3,(Ob.arr 165 5 [[(V.own 5 (o2++([o3]:List (List UInt8))).length),(V.map 6),(V.map 7),(V.map 8),(V.fn (.func 57) [] [(V.iptr [(V.lst 1 (o0.map KV.enc))] 0),(V.iptr [(iV o1)] 0)])]])),(4,(Ob.map ((p.1).map encM98_4))),(5,(Ob.arr 9 1 ((o2++([o3]:List (List UInt8))).map encS))),(6,(Ob.map ((p.2).map encM9_337))),(7,(Ob.map (([]:List ((List UInt8)×Tpolicy_value)).map encM9_98))),(8,(Ob.map (([]:List ((List UInt8)×Bool)).map encM9_4)))]:Heap))) (p:=(m60,m61)) (r:=y65) (z:=(Tpolicy_value.mk true x63.hasNumber x51 x63.number)) (enc:=(fun x=>V.agg (encTpolicy_value x))) (R:=R0) (fun i=>i) [(0,(Ob.arr 80 1 [[(V.ptr 3 5 0 0)]])),(1,(Ob.arr 9 1 [[(sV o3)]])),(2,(Ob.arr 167 1 [[(V.map 4)]])),(3,(Ob.arr 165 5 [[(V.own 5 (o2++([o3]:List (List UInt8))).length),(V.map 6),(V.map 7),(V.map 8),(V.fn (.func 57) [] [(V.iptr [(V.lst 1 (o0.map KV.enc))] 0),(V.iptr [(iV o1)] 0)])]])),(4,(Ob.map ((y65.1).map encM98_4))),(5,(Ob.arr 9 1 ((o2++([o3]:List (List UInt8))).map encS))),(6,(Ob.map ((y65.2).map encM9_337))),(7,(Ob.map (([]:List ((List UInt8)×Tpolicy_value)).map encM9_98))),(8,(Ob.map (([]:List ((List UInt8)×Bool)).map encM9_4)))] hY hx66 wants_none rfl rfl rfl (Imm.agg (.cons (Imm.con _) (.cons (Imm.con _) (.cons (Imm.con _) (.cons (Imm.con _) .nil))))) (fun _ _=>rfl) (.cons rfl (ObSub.box (.cons (Sub.ptr rfl rfl) .nil)) (.cons rfl (ObSub.box (.cons (Sub.imm (Imm.con _)) .nil)) (.cons rfl (ObSub.box (.cons (Sub.map rfl rfl) .nil)) (.cons rfl (ObSub.box (.cons (Sub.own rfl rfl) (.cons (Sub.map rfl rfl) (.cons (Sub.map rfl rfl) (.cons (Sub.map rfl rfl) (.cons (Sub.imm (Imm.fn .nil (.cons (Imm.iptr _ _) (.cons (Imm.iptr _ _) .nil)))) .nil)))))) (.cons rfl (ObSub.maps encM98_4_imm) (.cons rfl (ObSub.rows (rows_imm imms_encS)) (.cons rfl (ObSub.mapsK ents_keepK) (.cons rfl (ObSub.maps encM9_98_imm) (.cons rfl (ObSub.maps encM9_4_imm) .nil))))))))) rfl rfl (.cons rfl (ObSub.box (.cons (Sub.ptrT rfl rfl) .nil)) (.cons rfl (ObSub.box (.cons (Sub.immT (Imm.con _)) .nil)) (.cons rfl (ObSub.box (.cons (Sub.mapT rfl rfl) .nil)) (.cons rfl (ObSub.box (.cons (Sub.ownT rfl rfl) (.cons (Sub.mapT rfl rfl) (.cons (Sub.mapT rfl rfl) (.cons (Sub.mapT rfl rfl) (.cons (Sub.immT (Imm.fn .nil (.cons (Imm.iptr _ _) (.cons (Imm.iptr _ _) .nil)))) .nil)))))) (.cons rfl (ObSub.mapsT encM98_4_imm) (.cons rfl (ObSub.rowsT (rows_imm imms_encS)) (.cons rfl (ObSub.mapsTK ents_keepK) (.cons rfl (ObSub.mapsT encM9_98_imm) (.cons rfl (ObSub.mapsT encM9_4_imm) .nil))))))))) ?_
       refine fo (rn 9 rfl ?_)
       exact jX ((w64 (n59+1)),(y65.1),(y65.2)) (hk4 _ h) (gr [0,1,2,3,4,5,6,7,8,9] rfl (hB rfl rfl rfl (hB rfl rfl rfl (hB rfl rfl rfl (hB rfl rfl rfl (hM rfl rfl (hR rfl rfl (hM rfl rfl (hM rfl rfl (hM rfl rfl (hR rfl rfl .nil)))))))))) rfl)
      replace h:=RG.f h hb62
      unfold M90_L4 at h
      refine rn 1 rfl ?_
      exact jX (m60,m61) h (gr [0,1,2,3,4,5,6,7,8,9] rfl (hB rfl rfl rfl (hB rfl rfl rfl (hB rfl rfl rfl (hB rfl rfl rfl (hM rfl rfl (hR rfl rfl (hM rfl rfl (hM rfl rfl (hM rfl rfl (hR rfl rfl .nil)))))))))) rfl)
     rintro⟨m54,m55⟩ h
     refine rn 1 rfl ?_
     exact jX (m54,m55) h (gr [0,1,2,3,4,5,6,7,8,9] rfl (hB rfl rfl rfl (hB rfl rfl rfl (hB rfl rfl rfl (hB rfl rfl rfl (hM rfl rfl (hR rfl rfl (hM rfl rfl (hM rfl rfl (hM rfl rfl (hR rfl rfl .nil)))))))))) rfl)
    rintro⟨m49,m50⟩ h
    refine rn 4 rfl ?_
    exact jX ((w64 (n44+1)),m49,m50) (hk3 _ h) (gr [0,1,2,3,4,5,6,7,8,9] rfl (hB rfl rfl rfl (hB rfl rfl rfl (hB rfl rfl rfl (hB rfl rfl rfl (hM rfl rfl (hR rfl rfl (hM rfl rfl (hM rfl rfl (hM rfl rfl (hR rfl rfl .nil)))))))))) rfl)
   replace h:=RG.f h hb47
   unfold M90_L3 at h
   refine rn 1 rfl ?_
   replace h:=Option.some.inj h
   subst h
   exact wE ⟨.inr rfl,[],(gr [0,1,2,3,4,5,6,7,8] rfl (hB rfl rfl rfl (hB rfl rfl rfl (hB rfl rfl rfl (hB rfl rfl rfl (hM rfl rfl (hR rfl rfl (hM rfl rfl (hM rfl rfl (hM rfl rfl .nil))))))))) rfl),.nil⟩
  refine rn 12 rfl ?_
  refine cl h rfl rfl rfl (W132 _ _) rfl (fun y69 hx70 h=>?_)
  refine ln rfl rfl ?_
  refine rn 3 rfl ?_
  refine wl (A:=y69) 62 rfl (fun hA98=>?_)
  refine lC (fun(p:Int×(List (Tpolicy_value×Bool))×(List ((List UInt8)×(List Tpolicy_value))))=>(⟨[(1,(yV l)),(4,(V.own 9 l12.length)),(62,(V.lst 1 (y69.map encS))),(63,(iV ((y69.length:Nat):Int))),(64,(iV (p.1)))],[(0,(Ob.arr 80 1 [[(V.ptr 3 5 0 0)]])),(1,(Ob.arr 9 1 [[(sV o3)]])),(2,(Ob.arr 167 1 [[(V.map 4)]])),(3,(Ob.arr 165 5 [[(V.own 5 (o2++([o3]:List (List UInt8))).length),(V.map 6),(V.map 7),(V.map 8),(V.fn (.func 57) [] [(V.iptr [(V.lst 1 (o0.map KV.enc))] 0),(V.iptr [(iV o1)] 0)])]])),(4,(Ob.map ((p.2.1).map encM98_4))),(5,(Ob.arr 9 1 ((o2++([o3]:List (List UInt8))).map encS))),(6,(Ob.map ((p.2.2).map encM9_337))),(7,(Ob.map (([]:List ((List UInt8)×Tpolicy_value)).map encM9_98))),(8,(Ob.map (([]:List ((List UInt8)×Bool)).map encM9_4))),(9,(Ob.arr 98 4 (l12.map encTpolicy_value)))],10⟩:St)) (fun n p=>RG y69 (fun tl nn=>M90_L3 R0 F l12 tl p.2.1 p.2.2=some r) n p.1) (fun p h=>RG.zero h) (y69.length+1) (0,m23,m24) (RG.start h) (gr [0,1,2,3,4,5,6,7,8,9] rfl (hB rfl rfl rfl (hB rfl rfl rfl (hB rfl rfl rfl (hB rfl rfl rfl (hM rfl rfl (hR rfl rfl (hM rfl rfl (hM rfl rfl (hM rfl rfl (hR rfl rfl .nil)))))))))) rfl) (fun n p h=>?_)
  obtain⟨n74,m75,m76⟩:=p
  refine rn 5 rfl ?_
  refine spL rfl (fun hb77=>?_) (fun hb77=>?_)
  ·obtain⟨x81,tl,hx82,h,hk5⟩:=RG.t hA98 h hb77
   unfold M90_L3 at h
   refine rn 2 rfl ?_
   refine jK h (fun(p:(List (Tpolicy_value×Bool))×(List ((List UInt8)×(List Tpolicy_value))))=>(⟨[(1,(yV l)),(4,(V.own 9 l12.length)),(62,(V.lst 1 (y69.map encS))),(63,(iV ((y69.length:Nat):Int))),(64,(iV n74))],[(0,(Ob.arr 80 1 [[(V.ptr 3 5 0 0)]])),(1,(Ob.arr 9 1 [[(sV o3)]])),(2,(Ob.arr 167 1 [[(V.map 4)]])),(3,(Ob.arr 165 5 [[(V.own 5 (o2++([o3]:List (List UInt8))).length),(V.map 6),(V.map 7),(V.map 8),(V.fn (.func 57) [] [(V.iptr [(V.lst 1 (o0.map KV.enc))] 0),(V.iptr [(iV o1)] 0)])]])),(4,(Ob.map ((p.1).map encM98_4))),(5,(Ob.arr 9 1 ((o2++([o3]:List (List UInt8))).map encS))),(6,(Ob.map ((p.2).map encM9_337))),(7,(Ob.map (([]:List ((List UInt8)×Tpolicy_value)).map encM9_98))),(8,(Ob.map (([]:List ((List UInt8)×Bool)).map encM9_4))),(9,(Ob.arr 98 4 (l12.map encTpolicy_value)))],10⟩:St)) (fun k78 p=>k78 p.1 p.2=some r) (fun k78 h=>?_) ?_
   ·refine rn 3 rfl ?_
    refine ixh hx82 rfl rfl ?_
    refine rn 9 rfl ?_
    refine jK h (fun(p:(List (Tpolicy_value×Bool))×(List ((List UInt8)×(List Tpolicy_value))))=>(⟨[(1,(yV l)),(4,(V.own 9 l12.length)),(62,(V.lst 1 (y69.map encS))),(63,(iV ((y69.length:Nat):Int))),(64,(iV n74))],[(0,(Ob.arr 80 1 [[(V.ptr 3 5 0 0)]])),(1,(Ob.arr 9 1 [[(sV o3)]])),(2,(Ob.arr 167 1 [[(V.map 4)]])),(3,(Ob.arr 165 5 [[(V.own 5 (o2++([o3]:List (List UInt8))).length),(V.map 6),(V.map 7),(V.map 8),(V.fn (.func 57) [] [(V.iptr [(V.lst 1 (o0.map KV.enc))] 0),(V.iptr [(iV o1)] 0)])]])),(4,(Ob.map ((p.1).map encM98_4))),(5,(Ob.arr 9 1 ((o2++([o3]:List (List UInt8))).map encS))),(6,(Ob.map ((p.2).map encM9_337))),(7,(Ob.map (([]:List ((List UInt8)×Tpolicy_value)).map encM9_98))),(8,(Ob.map (([]:List ((List UInt8)×Bool)).map encM9_4))),(9,(Ob.arr 98 4 (l12.map encTpolicy_value)))],10⟩:St)) (fun k83 p=>k83 p.1 p.2=some r) (fun k83 h=>?_) ?_
    ·refine rn 1 rfl ?_
     refine wlO (A:=l12) 9 rfl (fun hA97=>?_)
     refine lC (fun(p:Int×(List (Tpolicy_value×Bool))×(List ((List UInt8)×(List Tpolicy_value))))=>(⟨[(1,(yV l)),(4,(V.own 9 l12.length)),(10,(sV x81)),(62,(V.lst 1 (y69.map encS))),(63,(iV ((y69.length:Nat):Int))),(64,(iV n74)),(68,(V.own 9 l12.length)),(69,(iV ((l12.length:Nat):Int))),(70,(iV (p.1)))],[(0,(Ob.arr 80 1 [[(V.ptr 3 5 0 0)]])),(1,(Ob.arr 9 1 [[(sV o3)]])),(2,(Ob.arr 167 1 [[(V.map 4)]])),(3,(Ob.arr 165 5 [[(V.own 5 (o2++([o3]:List (List UInt8))).length),(V.map 6),(V.map 7),(V.map 8),(V.fn (.func 57) [] [(V.iptr [(V.lst 1 (o0.map KV.enc))] 0),(V.iptr [(iV o1)] 0)])]])),(4,(Ob.map ((p.2.1).map encM98_4))),(5,(Ob.arr 9 1 ((o2++([o3]:List (List UInt8))).map encS))),(6,(Ob.map ((p.2.2).map encM9_337))),(7,(Ob.map (([]:List ((List UInt8)×Tpolicy_value)).map encM9_98))),(8,(Ob.map (([]:List ((List UInt8)×Bool)).map encM9_4))),(9,(Ob.arr 98 4 (l12.map encTpolicy_value)))],10⟩:St)) (fun n p=>RG l12 (fun tl nn=>M90_L4 R0 F x81 k83 tl p.2.1 p.2.2=some r) n p.1) (fun p h=>RG.zero h) (l12.length+1) (0,m75,m76) (RG.start h) (gr [0,1,2,3,4,5,6,7,8,9] rfl (hB rfl rfl rfl (hB rfl rfl rfl (hB rfl rfl rfl (hB rfl rfl rfl (hM rfl rfl (hR rfl rfl (hM rfl rfl (hM rfl rfl (hM rfl rfl (hR rfl rfl .nil)))))))))) rfl) (fun n p h=>?_)
     obtain⟨n89,m90,m91⟩:=p
     refine rn 5 rfl ?_
     refine spL rfl (fun hb92=>?_) (fun hb92=>?_)
     ·obtain⟨x93,tl,hx94,h,hk6⟩:=RG.t hA97 h hb92
      unfold M90_L4 at h
      refine rn 5 rfl ?_
      refine ixoh (a:=l12) hx94 rfl rfl rfl ?_
      refine ldp hx94 rfl rfl rfl rfl ?_
      obtain⟨y95,hx96,h⟩:=bind_some h
      refine rn 15 rfl ?_
      refine aops_yield (hpf:=(fun(p:(List (Tpolicy_value×Bool))×(List ((List UInt8)×(List Tpolicy_value))))=>([(0,(Ob.arr 80 1 [[(V.ptr 3 5 0 0)]])),(1,(Ob.arr 9 1 [[(sV o3)]])),(2,(Ob.arr 167 1 [[(V.map 4)]])),(3,(Ob.arr 165 5 [[(V.own 5 (o2++([o3]:List (List UInt8))).length),(V.map 6),(V.map 7),(V.map 8),(V.fn (.func 57) [] [(V.iptr [(V.lst 1 (o0.map KV.enc))] 0),(V.iptr [(iV o1)] 0)])]])),(4,(Ob.map ((p.1).map encM98_4))),(5,(Ob.arr 9 1 ((o2++([o3]:List (List UInt8))).map encS))),(6,(Ob.map ((p.2).map encM9_337))),(7,(Ob.map (([]:List ((List UInt8)×Tpolicy_value)).map encM9_98))),(8,(Ob.map (([]:List ((List UInt8)×Bool)).map encM9_4)))]:Heap))) (p:=(m90,m91)) (r:=y95) (z:=(Tpolicy_value.mk true x93.hasNumber x81 x93.number)) (enc:=(fun x=>V.agg (encTpolicy_value x))) (R:=R0) (fun i=>i) [(0,(Ob.arr 80 1 [[(V.ptr 3 5 0 0)]])),(1,(Ob.arr 9 1 [[(sV o3)]])),(2,(Ob.arr 167 1 [[(V.map 4)]])),(3,(Ob.arr 165 5 [[(V.own 5 (o2++([o3]:List (List UInt8))).length),(V.map 6),(V.map 7),(V.map 8),(V.fn (.func 57) [] [(V.iptr [(V.lst 1 (o0.map KV.enc))] 0),(V.iptr [(iV o1)] 0)])]])),(4,(Ob.map ((y95.1).map encM98_4))),(5,(Ob.arr 9 1 ((o2++([o3]:List (List UInt8))).map encS))),(6,(Ob.map ((y95.2).map encM9_337))),(7,(Ob.map (([]:List ((List UInt8)×Tpolicy_value)).map encM9_98))),(8,(Ob.map (([]:List ((List UInt8)×Bool)).map encM9_4)))] hY hx96 wants_none rfl rfl rfl (Imm.agg (.cons (Imm.con _) (.cons (Imm.con _) (.cons (Imm.con _) (.cons (Imm.con _) .nil))))) (fun _ _=>rfl) (.cons rfl (ObSub.box (.cons (Sub.ptr rfl rfl) .nil)) (.cons rfl (ObSub.box (.cons (Sub.imm (Imm.con _)) .nil)) (.cons rfl (ObSub.box (.cons (Sub.map rfl rfl) .nil)) (.cons rfl (ObSub.box (.cons (Sub.own rfl rfl) (.cons (Sub.map rfl rfl) (.cons (Sub.map rfl rfl) (.cons (Sub.map rfl rfl) (.cons (Sub.imm (Imm.fn .nil (.cons (Imm.iptr _ _) (.cons (Imm.iptr _ _) .nil)))) .nil)))))) (.cons rfl (ObSub.maps encM98_4_imm) (.cons rfl (ObSub.rows (rows_imm imms_encS)) (.cons rfl (ObSub.mapsK ents_keepK) (.cons rfl (ObSub.maps encM9_98_imm) (.cons rfl (ObSub.maps encM9_4_imm) .nil))))))))) rfl rfl (.cons rfl (ObSub.box (.cons (Sub.ptrT rfl rfl) .nil)) (.cons rfl (ObSub.box (.cons (Sub.immT (Imm.con _)) .nil)) (.cons rfl (ObSub.box (.cons (Sub.mapT rfl rfl) .nil)) (.cons rfl (ObSub.box (.cons (Sub.ownT rfl rfl) (.cons (Sub.mapT rfl rfl) (.cons (Sub.mapT rfl rfl) (.cons (Sub.mapT rfl rfl) (.cons (Sub.immT (Imm.fn .nil (.cons (Imm.iptr _ _) (.cons (Imm.iptr _ _) .nil)))) .nil)))))) (.cons rfl (ObSub.mapsT encM98_4_imm) (.cons rfl (ObSub.rowsT (rows_imm imms_encS)) (.cons rfl (ObSub.mapsTK ents_keepK) (.cons rfl (ObSub.mapsT encM9_98_imm) (.cons rfl (ObSub.mapsT encM9_4_imm) .nil))))))))) ?_
      refine fo (rn 9 rfl ?_)
      exact jX ((w64 (n89+1)),(y95.1),(y95.2)) (hk6 _ h) (gr [0,1,2,3,4,5,6,7,8,9] rfl (hB rfl rfl rfl (hB rfl rfl rfl (hB rfl rfl rfl (hB rfl rfl rfl (hM rfl rfl (hR rfl rfl (hM rfl rfl (hM rfl rfl (hM rfl rfl (hR rfl rfl .nil)))))))))) rfl)
     replace h:=RG.f h hb92
     unfold M90_L4 at h
     refine rn 1 rfl ?_
     exact jX (m90,m91) h (gr [0,1,2,3,4,5,6,7,8,9] rfl (hB rfl rfl rfl (hB rfl rfl rfl (hB rfl rfl rfl (hB rfl rfl rfl (hM rfl rfl (hR rfl rfl (hM rfl rfl (hM rfl rfl (hM rfl rfl (hR rfl rfl .nil)))))))))) rfl)
    rintro⟨m84,m85⟩ h
    refine rn 1 rfl ?_
    exact jX (m84,m85) h (gr [0,1,2,3,4,5,6,7,8,9] rfl (hB rfl rfl rfl (hB rfl rfl rfl (hB rfl rfl rfl (hB rfl rfl rfl (hM rfl rfl (hR rfl rfl (hM rfl rfl (hM rfl rfl (hM rfl rfl (hR rfl rfl .nil)))))))))) rfl)
   rintro⟨m79,m80⟩ h
   refine rn 4 rfl ?_
   exact jX ((w64 (n74+1)),m79,m80) (hk5 _ h) (gr [0,1,2,3,4,5,6,7,8,9] rfl (hB rfl rfl rfl (hB rfl rfl rfl (hB rfl rfl rfl (hB rfl rfl rfl (hM rfl rfl (hR rfl rfl (hM rfl rfl (hM rfl rfl (hM rfl rfl (hR rfl rfl .nil)))))))))) rfl)
  replace h:=RG.f h hb77
  unfold M90_L3 at h
  refine rn 1 rfl ?_
  replace h:=Option.some.inj h
  subst h
  exact wE ⟨.inr rfl,[],(gr [0,1,2,3,4,5,6,7,8] rfl (hB rfl rfl rfl (hB rfl rfl rfl (hB rfl rfl rfl (hB rfl rfl rfl (hM rfl rfl (hR rfl rfl (hM rfl rfl (hM rfl rfl (hM rfl rfl .nil))))))))) rfl),.nil⟩
 refine rn 6 rfl ?_
 refine jK h (fun(p:(List Tpolicy_value))=>(⟨[(0,(V.iptr [(V.lst 1 (a1.map encS)),(V.lst 1 (a2.map encS)),(V.lst 1 (a3.map encI_i64)),(bV a4),(bV a5),(bV a6),(iV a7)] 0)),(1,(yV l)),(4,(V.own 9 p.length))],[(0,(Ob.arr 80 1 [[(V.ptr 3 5 0 0)]])),(1,(Ob.arr 9 1 [[(sV o3)]])),(2,(Ob.arr 167 1 [[(V.map 4)]])),(3,(Ob.arr 165 5 [[(V.own 5 (o2++([o3]:List (List UInt8))).length),(V.map 6),(V.map 7),(V.map 8),(V.fn (.func 57) [] [(V.iptr [(V.lst 1 (o0.map KV.enc))] 0),(V.iptr [(iV o1)] 0)])]])),(4,(Ob.map (q0.map encM98_4))),(5,(Ob.arr 9 1 ((o2++([o3]:List (List UInt8))).map encS))),(6,(Ob.map (q1.map encM9_337))),(7,(Ob.map (([]:List ((List UInt8)×Tpolicy_value)).map encM9_98))),(8,(Ob.map (([]:List ((List UInt8)×Bool)).map encM9_4))),(9,(Ob.arr 98 4 (p.map encTpolicy_value)))],10⟩:St)) (fun k99 p=>k99 p=some r) (fun k99 h=>?_) ?_
 ·refine spC h rfl (fun hb101 h=>?_) (fun hb101 h=>?_)
  ·refine rn 3 rfl ?_
   refine cl h rfl rfl rfl (W131 _ _) rfl (fun y102 hx103 h=>?_)
   refine ln rfl rfl ?_
   refine rn 2 rfl ?_
   refine jK h (fun(p:(List Tpolicy_value))=>(⟨[(0,(V.iptr [(V.lst 1 (a1.map encS)),(V.lst 1 (a2.map encS)),(V.lst 1 (a3.map encI_i64)),(bV a4),(bV a5),(bV a6),(iV a7)] 0)),(1,(yV l)),(4,(V.own 9 p.length))],[(0,(Ob.arr 80 1 [[(V.ptr 3 5 0 0)]])),(1,(Ob.arr 9 1 [[(sV o3)]])),(2,(Ob.arr 167 1 [[(V.map 4)]])),(3,(Ob.arr 165 5 [[(V.own 5 (o2++([o3]:List (List UInt8))).length),(V.map 6),(V.map 7),(V.map 8),(V.fn (.func 57) [] [(V.iptr [(V.lst 1 (o0.map KV.enc))] 0),(V.iptr [(iV o1)] 0)])]])),(4,(Ob.map (q0.map encM98_4))),(5,(Ob.arr 9 1 ((o2++([o3]:List (List UInt8))).map encS))),(6,(Ob.map (q1.map encM9_337))),(7,(Ob.map (([]:List ((List UInt8)×Tpolicy_value)).map encM9_98))),(8,(Ob.map (([]:List ((List UInt8)×Bool)).map encM9_4))),(9,(Ob.arr 98 4 (p.map encTpolicy_value)))],10⟩:St)) (fun k104 p=>k104 p=some r) (fun k104 h=>?_) ?_
   ·refine rn 1 rfl ?_
    refine wl (A:=y102) 26 rfl (fun hA114=>?_)
    refine lC (fun(p:Int×(List Tpolicy_value))=>(⟨[(0,(V.iptr [(V.lst 1 (a1.map encS)),(V.lst 1 (a2.map encS)),(V.lst 1 (a3.map encI_i64)),(bV a4),(bV a5),(bV a6),(iV a7)] 0)),(1,(yV l)),(4,(V.own 9 (p.2).length)),(26,(V.lst 1 (y102.map encI_i64))),(27,(iV ((y102.length:Nat):Int))),(28,(iV (p.1)))],[(0,(Ob.arr 80 1 [[(V.ptr 3 5 0 0)]])),(1,(Ob.arr 9 1 [[(sV o3)]])),(2,(Ob.arr 167 1 [[(V.map 4)]])),(3,(Ob.arr 165 5 [[(V.own 5 (o2++([o3]:List (List UInt8))).length),(V.map 6),(V.map 7),(V.map 8),(V.fn (.func 57) [] [(V.iptr [(V.lst 1 (o0.map KV.enc))] 0),(V.iptr [(iV o1)] 0)])]])),(4,(Ob.map (q0.map encM98_4))),(5,(Ob.arr 9 1 ((o2++([o3]:List (List UInt8))).map encS))),(6,(Ob.map (q1.map encM9_337))),(7,(Ob.map (([]:List ((List UInt8)×Tpolicy_value)).map encM9_98))),(8,(Ob.map (([]:List ((List UInt8)×Bool)).map encM9_4))),(9,(Ob.arr 98 4 ((p.2).map encTpolicy_value)))],10⟩:St)) (fun n p=>RG y102 (fun tl nn=>M90_L1 F k104 tl p.2=some r) n p.1) (fun p h=>RG.zero h) (y102.length+1) (0,([(Tpolicy_value.mk false false ([]:List UInt8) 0)]:List Tpolicy_value)) (RG.start h) (ghost_ren 10 (fun i=>([0,1,2,3,4,5,6,7,8,9]:List Nat).getD i 0) _ _ (by decide) (EnvSub.get (.cons (Sub.imm (Imm.iptr _ _)) (.cons (Sub.imm (Imm.con _)) (.cons (Sub.ownE rfl rfl (by simp)) (.cons (Sub.imm (Imm.lst _ _)) (.cons (Sub.imm (Imm.con _)) (.cons (Sub.imm (Imm.con _)) .nil))))))) (HpSub.get (.cons rfl (ObSub.box (.cons (Sub.ptr rfl rfl) .nil)) (.cons rfl (ObSub.box (.cons (Sub.imm (Imm.con _)) .nil)) (.cons rfl (ObSub.box (.cons (Sub.map rfl rfl) .nil)) (.cons rfl (ObSub.box (.cons (Sub.own rfl rfl) (.cons (Sub.map rfl rfl) (.cons (Sub.map rfl rfl) (.cons (Sub.map rfl rfl) (.cons (Sub.imm (Imm.fn .nil (.cons (Imm.iptr _ _) (.cons (Imm.iptr _ _) .nil)))) .nil)))))) (.cons rfl (ObSub.maps encM98_4_imm) (.cons rfl (ObSub.rows (rows_imm imms_encS)) (.cons rfl (ObSub.mapsK ents_keepK) (.cons rfl (ObSub.maps encM9_98_imm) (.cons rfl (ObSub.maps encM9_4_imm) (.cons rfl (ObSub.rows (rows_imm imms_encTpolicy_value)) .nil))))))))))) rfl) (fun n p h=>?_)
    obtain⟨n108,l109⟩:=p
    refine rn 5 rfl ?_
    refine spL rfl (fun hb110=>?_) (fun hb110=>?_)
    ·obtain⟨x111,tl,hx112,h,hk7⟩:=RG.t hA114 h hb110
     unfold M90_L1 at h
     refine rn 5 rfl ?_
     refine ixh hx112 rfl rfl ?_
     refine rn 7 rfl ?_
     refine aops_buildSlice [(0,(V.agg [(bV false),(bV true),(sV ([]:List UInt8)),(iV x111)]))] [[(bV false),(bV true),(sV ([]:List UInt8)),(iV x111)]] tEl169 tZ98 rfl rfl rfl rfl wants_none (evp_cons rfl evp_nil) rfl rfl (by simp) rfl ?_
     refine fo ?_
     refine apO encTpolicy_value h rfl rfl rfl rfl rfl rfl rfl rfl (fun h=>?_)
     refine rn 7 rfl ?_
     exact jX ((w64 (n108+1)),(l109++([(Tpolicy_value.mk false true ([]:List UInt8) x111)]:List Tpolicy_value))) (hk7 _ h) (gr [0,1,2,3,4,5,6,7,8,11] rfl (hB rfl rfl rfl (hB rfl rfl rfl (hB rfl rfl rfl (hB rfl rfl rfl (hM rfl rfl (hR rfl rfl (hM rfl rfl (hM rfl rfl (hM rfl rfl (hR rfl rfl .nil)))))))))) rfl)
    replace h:=RG.f h hb110
    unfold M90_L1 at h
    refine rn 1 rfl ?_
    exact jX l109 h (gr [0,1,2,3,4,5,6,7,8,9] rfl (hB rfl rfl rfl (hB rfl rfl rfl (hB rfl rfl rfl (hB rfl rfl rfl (hM rfl rfl (hR rfl rfl (hM rfl rfl (hM rfl rfl (hM rfl rfl (hR rfl rfl .nil)))))))))) rfl)
   intro l105 h
   exact jX l105 h (gr [0,1,2,3,4,5,6,7,8,9] rfl (hB rfl rfl rfl (hB rfl rfl rfl (hB rfl rfl rfl (hB rfl rfl rfl (hM rfl rfl (hR rfl rfl (hM rfl rfl (hM rfl rfl (hM rfl rfl (hR rfl rfl .nil)))))))))) rfl)
  refine rn 1 rfl ?_
  exact jX ([(Tpolicy_value.mk false false ([]:List UInt8) 0)]:List Tpolicy_value) h (ghost_ren 10 (fun i=>([0,1,2,3,4,5,6,7,8,9]:List Nat).getD i 0) _ _ (by decide) (EnvSub.get (.cons (Sub.imm (Imm.iptr _ _)) (.cons (Sub.imm (Imm.con _)) (.cons (Sub.ownE rfl rfl (by simp)) .nil)))) (HpSub.get (.cons rfl (ObSub.box (.cons (Sub.ptr rfl rfl) .nil)) (.cons rfl (ObSub.box (.cons (Sub.imm (Imm.con _)) .nil)) (.cons rfl (ObSub.box (.cons (Sub.map rfl rfl) .nil)) (.cons rfl (ObSub.box (.cons (Sub.own rfl rfl) (.cons (Sub.map rfl rfl) (.cons (Sub.map rfl rfl) (.cons (Sub.map rfl rfl) (.cons (Sub.imm (Imm.fn .nil (.cons (Imm.iptr _ _) (.cons (Imm.iptr _ _) .nil)))) .nil)))))) (.cons rfl (ObSub.maps encM98_4_imm) (.cons rfl (ObSub.rows (rows_imm imms_encS)) (.cons rfl (ObSub.mapsK ents_keepK) (.cons rfl (ObSub.maps encM9_98_imm) (.cons rfl (ObSub.maps encM9_4_imm) (.cons rfl (ObSub.rows (rows_imm imms_encTpolicy_value)) .nil))))))))))) rfl)
 intro l100 h
 refine rn 7 rfl ?_
 refine jK h (fun(p:(List (Tpolicy_value×Bool))×(List ((List UInt8)×(List Tpolicy_value))))=>(⟨[(0,(V.iptr [(V.lst 1 (a1.map encS)),(V.lst 1 (a2.map encS)),(V.lst 1 (a3.map encI_i64)),(bV a4),(bV a5),(bV a6),(iV a7)] 0)),(1,(yV l)),(4,(V.own 9 l100.length))],[(0,(Ob.arr 80 1 [[(V.ptr 3 5 0 0)]])),(1,(Ob.arr 9 1 [[(sV o3)]])),(2,(Ob.arr 167 1 [[(V.map 4)]])),(3,(Ob.arr 165 5 [[(V.own 5 (o2++([o3]:List (List UInt8))).length),(V.map 6),(V.map 7),(V.map 8),(V.fn (.func 57) [] [(V.iptr [(V.lst 1 (o0.map KV.enc))] 0),(V.iptr [(iV o1)] 0)])]])),(4,(Ob.map ((p.1).map encM98_4))),(5,(Ob.arr 9 1 ((o2++([o3]:List (List UInt8))).map encS))),(6,(Ob.map ((p.2).map encM9_337))),(7,(Ob.map (([]:List ((List UInt8)×Tpolicy_value)).map encM9_98))),(8,(Ob.map (([]:List ((List UInt8)×Bool)).map encM9_4))),(9,(Ob.arr 98 4 (l100.map encTpolicy_value)))],10⟩:St)) (fun k115 p=>k115 p.1 p.2=some r) (fun k115 h=>?_) ?_
 ·refine rn 1 rfl ?_
  refine wlO (A:=l100) 9 rfl (fun hA129=>?_)
  refine lC (fun(p:Int×(List (Tpolicy_value×Bool))×(List ((List UInt8)×(List Tpolicy_value))))=>(⟨[(0,(V.iptr [(V.lst 1 (a1.map encS)),(V.lst 1 (a2.map encS)),(V.lst 1 (a3.map encI_i64)),(bV a4),(bV a5),(bV a6),(iV a7)] 0)),(1,(yV l)),(4,(V.own 9 l100.length)),(38,(V.own 9 l100.length)),(39,(iV ((l100.length:Nat):Int))),(40,(iV (p.1)))],[(0,(Ob.arr 80 1 [[(V.ptr 3 5 0 0)]])),(1,(Ob.arr 9 1 [[(sV o3)]])),(2,(Ob.arr 167 1 [[(V.map 4)]])),(3,(Ob.arr 165 5 [[(V.own 5 (o2++([o3]:List (List UInt8))).length),(V.map 6),(V.map 7),(V.map 8),(V.fn (.func 57) [] [(V.iptr [(V.lst 1 (o0.map KV.enc))] 0),(V.iptr [(iV o1)] 0)])]])),(4,(Ob.map ((p.2.1).map encM98_4))),(5,(Ob.arr 9 1 ((o2++([o3]:List (List UInt8))).map encS))),(6,(Ob.map ((p.2.2).map encM9_337))),(7,(Ob.map (([]:List ((List UInt8)×Tpolicy_value)).map encM9_98))),(8,(Ob.map (([]:List ((List UInt8)×Bool)).map encM9_4))),(9,(Ob.arr 98 4 (l100.map encTpolicy_value)))],10⟩:St)) (fun n p=>RG l100 (fun tl nn=>M90_L2 R0 F k115 tl p.2.1 p.2.2=some r) n p.1) (fun p h=>RG.zero h) (l100.length+1) (0,q0,q1) (RG.start h) (gr [0,1,2,3,4,5,6,7,8,9] rfl (hB rfl rfl rfl (hB rfl rfl rfl (hB rfl rfl rfl (hB rfl rfl rfl (hM rfl rfl (hR rfl rfl (hM rfl rfl (hM rfl rfl (hM rfl rfl (hR rfl rfl .nil)))))))))) rfl) (fun n p h=>?_)
  obtain⟨n121,m122,m123⟩:=p
  refine rn 5 rfl ?_
  refine spL rfl (fun hb124=>?_) (fun hb124=>?_)
  ·obtain⟨x125,tl,hx126,h,hk8⟩:=RG.t hA129 h hb124
   unfold M90_L2 at h
   refine rn 5 rfl ?_
   refine ixoh (a:=l100) hx126 rfl rfl rfl ?_
   refine ldp hx126 rfl rfl rfl rfl ?_
   obtain⟨y127,hx128,h⟩:=bind_some h
   refine rn 7 rfl ?_
   refine aops_yield (hpf:=(fun(p:(List (Tpolicy_value×Bool))×(List ((List UInt8)×(List Tpolicy_value))))=>([(0,(Ob.arr 80 1 [[(V.ptr 3 5 0 0)]])),(1,(Ob.arr 9 1 [[(sV o3)]])),(2,(Ob.arr 167 1 [[(V.map 4)]])),(3,(Ob.arr 165 5 [[(V.own 5 (o2++([o3]:List (List UInt8))).length),(V.map 6),(V.map 7),(V.map 8),(V.fn (.func 57) [] [(V.iptr [(V.lst 1 (o0.map KV.enc))] 0),(V.iptr [(iV o1)] 0)])]])),(4,(Ob.map ((p.1).map encM98_4))),(5,(Ob.arr 9 1 ((o2++([o3]:List (List UInt8))).map encS))),(6,(Ob.map ((p.2).map encM9_337))),(7,(Ob.map (([]:List ((List UInt8)×Tpolicy_value)).map encM9_98))),(8,(Ob.map (([]:List ((List UInt8)×Bool)).map encM9_4)))]:Heap))) (p:=(m122,m123)) (r:=y127) (z:=x125) (enc:=(fun x=>V.agg (encTpolicy_value x))) (R:=R0) (fun i=>i) [(0,(Ob.arr 80 1 [[(V.ptr 3 5 0 0)]])),(1,(Ob.arr 9 1 [[(sV o3)]])),(2,(Ob.arr 167 1 [[(V.map 4)]])),(3,(Ob.arr 165 5 [[(V.own 5 (o2++([o3]:List (List UInt8))).length),(V.map 6),(V.map 7),(V.map 8),(V.fn (.func 57) [] [(V.iptr [(V.lst 1 (o0.map KV.enc))] 0),(V.iptr [(iV o1)] 0)])]])),(4,(Ob.map ((y127.1).map encM98_4))),(5,(Ob.arr 9 1 ((o2++([o3]:List (List UInt8))).map encS))),(6,(Ob.map ((y127.2).map encM9_337))),(7,(Ob.map (([]:List ((List UInt8)×Tpolicy_value)).map encM9_98))),(8,(Ob.map (([]:List ((List UInt8)×Bool)).map encM9_4)))] hY hx128 wants_none rfl rfl rfl (Imm.agg (imms_encTpolicy_value _)) (fun _ _=>rfl) (.cons rfl (ObSub.box (.cons (Sub.ptr rfl rfl) .nil)) (.cons rfl (ObSub.box (.cons (Sub.imm (Imm.con _)) .nil)) (.cons rfl (ObSub.box (.cons (Sub.map rfl rfl) .nil)) (.cons rfl (ObSub.box (.cons (Sub.own rfl rfl) (.cons (Sub.map rfl rfl) (.cons (Sub.map rfl rfl) (.cons (Sub.map rfl rfl) (.cons (Sub.imm (Imm.fn .nil (.cons (Imm.iptr _ _) (.cons (Imm.iptr _ _) .nil)))) .nil)))))) (.cons rfl (ObSub.maps encM98_4_imm) (.cons rfl (ObSub.rows (rows_imm imms_encS)) (.cons rfl (ObSub.mapsK ents_keepK) (.cons rfl (ObSub.maps encM9_98_imm) (.cons rfl (ObSub.maps encM9_4_imm) .nil))))))))) rfl rfl (.cons rfl (ObSub.box (.cons (Sub.ptrT rfl rfl) .nil)) (.cons rfl (ObSub.box (.cons (Sub.immT (Imm.con _)) .nil)) (.cons rfl (ObSub.box (.cons (Sub.mapT rfl rfl) .nil)) (.cons rfl (ObSub.box (.cons (Sub.ownT rfl rfl) (.cons (Sub.mapT rfl rfl) (.cons (Sub.mapT rfl rfl) (.cons (Sub.mapT rfl rfl) (.cons (Sub.immT (Imm.fn .nil (.cons (Imm.iptr _ _) (.cons (Imm.iptr _ _) .nil)))) .nil)))))) (.cons rfl (ObSub.mapsT encM98_4_imm) (.cons rfl (ObSub.rowsT (rows_imm imms_encS)) (.cons rfl (ObSub.mapsTK ents_keepK) (.cons rfl (ObSub.mapsT encM9_98_imm) (.cons rfl (ObSub.mapsT encM9_4_imm) .nil))))))))) ?_
   refine fo (rn 9 rfl ?_)
   exact jX ((w64 (n121+1)),(y127.1),(y127.2)) (hk8 _ h) (gr [0,1,2,3,4,5,6,7,8,9] rfl (hB rfl rfl rfl (hB rfl rfl rfl (hB rfl rfl rfl (hB rfl rfl rfl (hM rfl rfl (hR rfl rfl (hM rfl rfl (hM rfl rfl (hM rfl rfl (hR rfl rfl .nil)))))))))) rfl)
  replace h:=RG.f h hb124
  unfold M90_L2 at h
  refine rn 1 rfl ?_
  exact jX (m122,m123) h (gr [0,1,2,3,4,5,6,7,8,9] rfl (hB rfl rfl rfl (hB rfl rfl rfl (hB rfl rfl rfl (hB rfl rfl rfl (hM rfl rfl (hR rfl rfl (hM rfl rfl (hM rfl rfl (hM rfl rfl (hR rfl rfl .nil)))))))))) rfl)
 rintro⟨m116,m117⟩ h
 refine rn 9 rfl ?_
 refine spO 54 h rfl (fun hb130 h=>?_) (fun hb130 h=>?_)
 ·refine rn 7 rfl ?_
  refine spC h rfl (fun hb131 h=>?_) (fun hb131 h=>?_)
  ·replace h:=Option.some.inj h
   subst h
   exact wR ⟨.inl rfl,[],(gr [0,1,2,3,4,5,6,7,8] rfl (hB rfl rfl rfl (hB rfl rfl rfl (hB rfl rfl rfl (hB rfl rfl rfl (hM rfl rfl (hR rfl rfl (hM rfl rfl (hM rfl rfl (hM rfl rfl .nil))))))))) rfl),.nil⟩
  refine rn 4 rfl ?_
  refine cl h rfl rfl rfl (W132 _ _) rfl (fun y132 hx133 h=>?_)
  refine ln rfl rfl ?_
  refine rn 3 rfl ?_
  refine wl (A:=y132) 62 rfl (fun hA161=>?_)
  refine lC (fun(p:Int×(List (Tpolicy_value×Bool))×(List ((List UInt8)×(List Tpolicy_value))))=>(⟨[(1,(yV l)),(4,(V.own 9 l100.length)),(62,(V.lst 1 (y132.map encS))),(63,(iV ((y132.length:Nat):Int))),(64,(iV (p.1)))],[(0,(Ob.arr 80 1 [[(V.ptr 3 5 0 0)]])),(1,(Ob.arr 9 1 [[(sV o3)]])),(2,(Ob.arr 167 1 [[(V.map 4)]])),(3,(Ob.arr 165 5 [[(V.own 5 (o2++([o3]:List (List UInt8))).length),(V.map 6),(V.map 7),(V.map 8),(V.fn (.func 57) [] [(V.iptr [(V.lst 1 (o0.map KV.enc))] 0),(V.iptr [(iV o1)] 0)])]])),(4,(Ob.map ((p.2.1).map encM98_4))),(5,(Ob.arr 9 1 ((o2++([o3]:List (List UInt8))).map encS))),(6,(Ob.map ((p.2.2).map encM9_337))),(7,(Ob.map (([]:List ((List UInt8)×Tpolicy_value)).map encM9_98))),(8,(Ob.map (([]:List ((List UInt8)×Bool)).map encM9_4))),(9,(Ob.arr 98 4 (l100.map encTpolicy_value)))],10⟩:St)) (fun n p=>RG y132 (fun tl nn=>M90_L3 R0 F l100 tl p.2.1 p.2.2=some r) n p.1) (fun p h=>RG.zero h) (y132.length+1) (0,m116,m117) (RG.start h) (gr [0,1,2,3,4,5,6,7,8,9] rfl (hB rfl rfl rfl (hB rfl rfl rfl (hB rfl rfl rfl (hB rfl rfl rfl (hM rfl rfl (hR rfl rfl (hM rfl rfl (hM rfl rfl (hM rfl rfl (hR rfl rfl .nil)))))))))) rfl) (fun n p h=>?_)
  obtain⟨n137,m138,m139⟩:=p
  refine rn 5 rfl ?_
  refine spL rfl (fun hb140=>?_) (fun hb140=>?_)
  ·obtain⟨x144,tl,hx145,h,hk9⟩:=RG.t hA161 h hb140
   unfold M90_L3 at h
   refine rn 2 rfl ?_
   refine jK h (fun(p:(List (Tpolicy_value×Bool))×(List ((List UInt8)×(List Tpolicy_value))))=>(⟨[(1,(yV l)),(4,(V.own 9 l100.length)),(62,(V.lst 1 (y132.map encS))),(63,(iV ((y132.length:Nat):Int))),(64,(iV n137))],[(0,(Ob.arr 80 1 [[(V.ptr 3 5 0 0)]])),(1,(Ob.arr 9 1 [[(sV o3)]])),(2,(Ob.arr 167 1 [[(V.map 4)]])),(3,(Ob.arr 165 5 [[(V.own 5 (o2++([o3]:List (List UInt8))).length),(V.map 6),(V.map 7),(V.map 8),(V.fn (.func 57) [] [(V.iptr [(V.lst 1 (o0.map KV.enc))] 0),(V.iptr [(iV o1)] 0)])]])),(4,(Ob.map ((p.1).map encM98_4))),(5,(Ob.arr 9 1 ((o2++([o3]:List (List UInt8))).map encS))),(6,(Ob.map ((p.2).map encM9_337))),(7,(Ob.map (([]:List ((List UInt8)×Tpolicy_value)).map encM9_98))),(8,(Ob.map (([]:List ((List UInt8)×Bool)).map encM9_4))),(9,(Ob.arr 98 4 (l100.map encTpolicy_value)))],10⟩:St)) (fun k141 p=>k141 p.1 p.2=some r) (fun k141 h=>?_) ?_
   ·refine rn 3 rfl ?_
    refine ixh hx145 rfl rfl ?_
    refine rn 9 rfl ?_
    refine jK h (fun(p:(List (Tpolicy_value×Bool))×(List ((List UInt8)×(List Tpolicy_value))))=>(⟨[(1,(yV l)),(4,(V.own 9 l100.length)),(62,(V.lst 1 (y132.map encS))),(63,(iV ((y132.length:Nat):Int))),(64,(iV n137))],[(0,(Ob.arr 80 1 [[(V.ptr 3 5 0 0)]])),(1,(Ob.arr 9 1 [[(sV o3)]])),(2,(Ob.arr 167 1 [[(V.map 4)]])),(3,(Ob.arr 165 5 [[(V.own 5 (o2++([o3]:List (List UInt8))).length),(V.map 6),(V.map 7),(V.map 8),(V.fn (.func 57) [] [(V.iptr [(V.lst 1 (o0.map KV.enc))] 0),(V.iptr [(iV o1)] 0)])]])),(4,(Ob.map ((p.1).map encM98_4))),(5,(Ob.arr 9 1 ((o2++([o3]:List (List UInt8))).map encS))),(6,(Ob.map ((p.2).map encM9_337))),(7,(Ob.map (([]:List ((List UInt8)×Tpolicy_value)).map encM9_98))),(8,(Ob.map (([]:List ((List UInt8)×Bool)).map encM9_4))),(9,(Ob.arr 98 4 (l100.map encTpolicy_value)))],10⟩:St)) (fun k146 p=>k146 p.1 p.2=some r) (fun k146 h=>?_) ?_
    ·refine rn 1 rfl ?_
     refine wlO (A:=l100) 9 rfl (fun hA160=>?_)
     refine lC (fun(p:Int×(List (Tpolicy_value×Bool))×(List ((List UInt8)×(List Tpolicy_value))))=>(⟨[(1,(yV l)),(4,(V.own 9 l100.length)),(10,(sV x144)),(62,(V.lst 1 (y132.map encS))),(63,(iV ((y132.length:Nat):Int))),(64,(iV n137)),(68,(V.own 9 l100.length)),(69,(iV ((l100.length:Nat):Int))),(70,(iV (p.1)))],[(0,(Ob.arr 80 1 [[(V.ptr 3 5 0 0)]])),(1,(Ob.arr 9 1 [[(sV o3)]])),(2,(Ob.arr 167 1 [[(V.map 4)]])),(3,(Ob.arr 165 5 [[(V.own 5 (o2++([o3]:List (List UInt8))).length),(V.map 6),(V.map 7),(V.map 8),(V.fn (.func 57) [] [(V.iptr [(V.lst 1 (o0.map KV.enc))] 0),(V.iptr [(iV o1)] 0)])]])),(4,(Ob.map ((p.2.1).map encM98_4))),(5,(Ob.arr 9 1 ((o2++([o3]:List (List UInt8))).map encS))),(6,(Ob.map ((p.2.2).map encM9_337))),(7,(Ob.map (([]:List ((List UInt8)×Tpolicy_value)).map encM9_98))),(8,(Ob.map (([]:List ((List UInt8)×Bool)).map encM9_4))),(9,(Ob.arr 98 4 (l100.map encTpolicy_value)))],10⟩:St)) (fun n p=>RG l100 (fun tl nn=>M90_L4 R0 F x144 k146 tl p.2.1 p.2.2=some r) n p.1) (fun p h=>RG.zero h) (l100.length+1) (0,m138,m139) (RG.start h) (gr [0,1,2,3,4,5,6,7,8,9] rfl (hB rfl rfl rfl (hB rfl rfl rfl (hB rfl rfl rfl (hB rfl rfl rfl (hM rfl rfl (hR rfl rfl (hM rfl rfl (hM rfl rfl (hM rfl rfl (hR rfl rfl .nil)))))))))) rfl) (fun n p h=>?_)
     obtain⟨n152,m153,m154⟩:=p
     refine rn 5 rfl ?_
     refine spL rfl (fun hb155=>?_) (fun hb155=>?_)
     ·obtain⟨x156,tl,hx157,h,hk10⟩:=RG.t hA160 h hb155
      unfold M90_L4 at h
      refine rn 5 rfl ?_
      refine ixoh (a:=l100) hx157 rfl rfl rfl ?_
      refine ldp hx157 rfl rfl rfl rfl ?_
      obtain⟨y158,hx159,h⟩:=bind_some h
      refine rn 15 rfl ?_
      refine aops_yield (hpf:=(fun(p:(List (Tpolicy_value×Bool))×(List ((List UInt8)×(List Tpolicy_value))))=>([(0,(Ob.arr 80 1 [[(V.ptr 3 5 0 0)]])),(1,(Ob.arr 9 1 [[(sV o3)]])),(2,(Ob.arr 167 1 [[(V.map 4)]])),(3,(Ob.arr 165 5 [[(V.own 5 (o2++([o3]:List (List UInt8))).length),(V.map 6),(V.map 7),(V.map 8),(V.fn (.func 57) [] [(V.iptr [(V.lst 1 (o0.map KV.enc))] 0),(V.iptr [(iV o1)] 0)])]])),(4,(Ob.map ((p.1).map encM98_4))),(5,(Ob.arr 9 1 ((o2++([o3]:List (List UInt8))).map encS))),(6,(Ob.map ((p.2).map encM9_337))),(7,(Ob.map (([]:List ((List UInt8)×Tpolicy_value)).map encM9_98))),(8,(Ob.map (([]:List ((List UInt8)×Bool)).map encM9_4)))]:Heap))) (p:=(m153,m154)) (r:=y158) (z:=(Tpolicy_value.mk true x156.hasNumber x144 x156.number)) (enc:=(fun x=>V.agg (encTpolicy_value x))) (R:=R0) (fun i=>i) [(0,(Ob.arr 80 1 [[(V.ptr 3 5 0 0)]])),(1,(Ob.arr 9 1 [[(sV o3)]])),(2,(Ob.arr 167 1 [[(V.map 4)]])),(3,(Ob.arr 165 5 [[(V.own 5 (o2++([o3]:List (List UInt8))).length),(V.map 6),(V.map 7),(V.map 8),(V.fn (.func 57) [] [(V.iptr [(V.lst 1 (o0.map KV.enc))] 0),(V.iptr [(iV o1)] 0)])]])),(4,(Ob.map ((y158.1).map encM98_4))),(5,(Ob.arr 9 1 ((o2++([o3]:List (List UInt8))).map encS))),(6,(Ob.map ((y158.2).map encM9_337))),(7,(Ob.map (([]:List ((List UInt8)×Tpolicy_value)).map encM9_98))),(8,(Ob.map (([]:List ((List UInt8)×Bool)).map encM9_4)))] hY hx159 wants_none rfl rfl rfl (Imm.agg (.cons (Imm.con _) (.cons (Imm.con _) (.cons (Imm.con _) (.cons (Imm.con _) .nil))))) (fun _ _=>rfl) (.cons rfl (ObSub.box (.cons (Sub.ptr rfl rfl) .nil)) (.cons rfl (ObSub.box (.cons (Sub.imm (Imm.con _)) .nil)) (.cons rfl (ObSub.box (.cons (Sub.map rfl rfl) .nil)) (.cons rfl (ObSub.box (.cons (Sub.own rfl rfl) (.cons (Sub.map rfl rfl) (.cons (Sub.map rfl rfl) (.cons (Sub.map rfl rfl) (.cons (Sub.imm (Imm.fn .nil (.cons (Imm.iptr _ _) (.cons (Imm.iptr _ _) .nil)))) .nil)))))) (.cons rfl (ObSub.maps encM98_4_imm) (.cons rfl (ObSub.rows (rows_imm imms_encS)) (.cons rfl (ObSub.mapsK ents_keepK) (.cons rfl (ObSub.maps encM9_98_imm) (.cons rfl (ObSub.maps encM9_4_imm) .nil))))))))) rfl rfl (.cons rfl (ObSub.box (.cons (Sub.ptrT rfl rfl) .nil)) (.cons rfl (ObSub.box (.cons (Sub.immT (Imm.con _)) .nil)) (.cons rfl (ObSub.box (.cons (Sub.mapT rfl rfl) .nil)) (.cons rfl (ObSub.box (.cons (Sub.ownT rfl rfl) (.cons (Sub.mapT rfl rfl) (.cons (Sub.mapT rfl rfl) (.cons (Sub.mapT rfl rfl) (.cons (Sub.immT (Imm.fn .nil (.cons (Imm.iptr _ _) (.cons (Imm.iptr _ _) .nil)))) .nil)))))) (.cons rfl (ObSub.mapsT encM98_4_imm) (.cons rfl (ObSub.rowsT (rows_imm imms_encS)) (.cons rfl (ObSub.mapsTK ents_keepK) (.cons rfl (ObSub.mapsT encM9_98_imm) (.cons rfl (ObSub.mapsT encM9_4_imm) .nil))))))))) ?_
      refine fo (rn 9 rfl ?_)
      exact jX ((w64 (n152+1)),(y158.1),(y158.2)) (hk10 _ h) (gr [0,1,2,3,4,5,6,7,8,9] rfl (hB rfl rfl rfl (hB rfl rfl rfl (hB rfl rfl rfl (hB rfl rfl rfl (hM rfl rfl (hR rfl rfl (hM rfl rfl (hM rfl rfl (hM rfl rfl (hR rfl rfl .nil)))))))))) rfl)
     replace h:=RG.f h hb155
     unfold M90_L4 at h
     refine rn 1 rfl ?_
     exact jX (m153,m154) h (gr [0,1,2,3,4,5,6,7,8,9] rfl (hB rfl rfl rfl (hB rfl rfl rfl (hB rfl rfl rfl (hB rfl rfl rfl (hM rfl rfl (hR rfl rfl (hM rfl rfl (hM rfl rfl (hM rfl rfl (hR rfl rfl .nil)))))))))) rfl)
    rintro⟨m147,m148⟩ h
    refine rn 1 rfl ?_
    exact jX (m147,m148) h (gr [0,1,2,3,4,5,6,7,8,9] rfl (hB rfl rfl rfl (hB rfl rfl rfl (hB rfl rfl rfl (hB rfl rfl rfl (hM rfl rfl (hR rfl rfl (hM rfl rfl (hM rfl rfl (hM rfl rfl (hR rfl rfl .nil)))))))))) rfl)
   rintro⟨m142,m143⟩ h
   refine rn 4 rfl ?_
   exact jX ((w64 (n137+1)),m142,m143) (hk9 _ h) (gr [0,1,2,3,4,5,6,7,8,9] rfl (hB rfl rfl rfl (hB rfl rfl rfl (hB rfl rfl rfl (hB rfl rfl rfl (hM rfl rfl (hR rfl rfl (hM rfl rfl (hM rfl rfl (hM rfl rfl (hR rfl rfl .nil)))))))))) rfl)
  replace h:=RG.f h hb140
  unfold M90_L3 at h
  refine rn 1 rfl ?_
  replace h:=Option.some.inj h
  subst h
  exact wE ⟨.inr rfl,[],(gr [0,1,2,3,4,5,6,7,8] rfl (hB rfl rfl rfl (hB rfl rfl rfl (hB rfl rfl rfl (hB rfl rfl rfl (hM rfl rfl (hR rfl rfl (hM rfl rfl (hM rfl rfl (hM rfl rfl .nil))))))))) rfl),.nil⟩
 refine rn 12 rfl ?_
 refine cl h rfl rfl rfl (W132 _ _) rfl (fun y162 hx163 h=>?_)
 refine ln rfl rfl ?_
 refine rn 3 rfl ?_
 refine wl (A:=y162) 62 rfl (fun hA191=>?_)
 refine lC (fun(p:Int×(List (Tpolicy_value×Bool))×(List ((List UInt8)×(List Tpolicy_value))))=>(⟨[(1,(yV l)),(4,(V.own 9 l100.length)),(62,(V.lst 1 (y162.map encS))),(63,(iV ((y162.length:Nat):Int))),(64,(iV (p.1)))],[(0,(Ob.arr 80 1 [[(V.ptr 3 5 0 0)]])),(1,(Ob.arr 9 1 [[(sV o3)]])),(2,(Ob.arr 167 1 [[(V.map 4)]])),(3,(Ob.arr 165 5 [[(V.own 5 (o2++([o3]:List (List UInt8))).length),(V.map 6),(V.map 7),(V.map 8),(V.fn (.func 57) [] [(V.iptr [(V.lst 1 (o0.map KV.enc))] 0),(V.iptr [(iV o1)] 0)])]])),(4,(Ob.map ((p.2.1).map encM98_4))),(5,(Ob.arr 9 1 ((o2++([o3]:List (List UInt8))).map encS))),(6,(Ob.map ((p.2.2).map encM9_337))),(7,(Ob.map (([]:List ((List UInt8)×Tpolicy_value)).map encM9_98))),(8,(Ob.map (([]:List ((List UInt8)×Bool)).map encM9_4))),(9,(Ob.arr 98 4 (l100.map encTpolicy_value)))],10⟩:St)) (fun n p=>RG y162 (fun tl nn=>M90_L3 R0 F l100 tl p.2.1 p.2.2=some r) n p.1) (fun p h=>RG.zero h) (y162.length+1) (0,m116,m117) (RG.start h) (gr [0,1,2,3,4,5,6,7,8,9] rfl (hB rfl rfl rfl (hB rfl rfl rfl (hB rfl rfl rfl (hB rfl rfl rfl (hM rfl rfl (hR rfl rfl (hM rfl rfl (hM rfl rfl (hM rfl rfl (hR rfl rfl .nil)))))))))) rfl) (fun n p h=>?_)
 obtain⟨n167,m168,m169⟩:=p
 refine rn 5 rfl ?_
 refine spL rfl (fun hb170=>?_) (fun hb170=>?_)
 ·obtain⟨x174,tl,hx175,h,hk11⟩:=RG.t hA191 h hb170
  unfold M90_L3 at h
  refine rn 2 rfl ?_
  refine jK h (fun(p:(List (Tpolicy_value×Bool))×(List ((List UInt8)×(List Tpolicy_value))))=>(⟨[(1,(yV l)),(4,(V.own 9 l100.length)),(62,(V.lst 1 (y162.map encS))),(63,(iV ((y162.length:Nat):Int))),(64,(iV n167))],[(0,(Ob.arr 80 1 [[(V.ptr 3 5 0 0)]])),(1,(Ob.arr 9 1 [[(sV o3)]])),(2,(Ob.arr 167 1 [[(V.map 4)]])),(3,(Ob.arr 165 5 [[(V.own 5 (o2++([o3]:List (List UInt8))).length),(V.map 6),(V.map 7),(V.map 8),(V.fn (.func 57) [] [(V.iptr [(V.lst 1 (o0.map KV.enc))] 0),(V.iptr [(iV o1)] 0)])]])),(4,(Ob.map ((p.1).map encM98_4))),(5,(Ob.arr 9 1 ((o2++([o3]:List (List UInt8))).map encS))),(6,(Ob.map ((p.2).map encM9_337))),(7,(Ob.map (([]:List ((List UInt8)×Tpolicy_value)).map encM9_98))),(8,(Ob.map (([]:List ((List UInt8)×Bool)).map encM9_4))),(9,(Ob.arr 98 4 (l100.map encTpolicy_value)))],10⟩:St)) (fun k171 p=>k171 p.1 p.2=some r) (fun k171 h=>?_) ?_
  ·refine rn 3 rfl ?_
   refine ixh hx175 rfl rfl ?_
   refine rn 9 rfl ?_
   refine jK h (fun(p:(List (Tpolicy_value×Bool))×(List ((List UInt8)×(List Tpolicy_value))))=>(⟨[(1,(yV l)),(4,(V.own 9 l100.length)),(62,(V.lst 1 (y162.map encS))),(63,(iV ((y162.length:Nat):Int))),(64,(iV n167))],[(0,(Ob.arr 80 1 [[(V.ptr 3 5 0 0)]])),(1,(Ob.arr 9 1 [[(sV o3)]])),(2,(Ob.arr 167 1 [[(V.map 4)]])),(3,(Ob.arr 165 5 [[(V.own 5 (o2++([o3]:List (List UInt8))).length),(V.map 6),(V.map 7),(V.map 8),(V.fn (.func 57) [] [(V.iptr [(V.lst 1 (o0.map KV.enc))] 0),(V.iptr [(iV o1)] 0)])]])),(4,(Ob.map ((p.1).map encM98_4))),(5,(Ob.arr 9 1 ((o2++([o3]:List (List UInt8))).map encS))),(6,(Ob.map ((p.2).map encM9_337))),(7,(Ob.map (([]:List ((List UInt8)×Tpolicy_value)).map encM9_98))),(8,(Ob.map (([]:List ((List UInt8)×Bool)).map encM9_4))),(9,(Ob.arr 98 4 (l100.map encTpolicy_value)))],10⟩:St)) (fun k176 p=>k176 p.1 p.2=some r) (fun k176 h=>?_) ?_
   ·refine rn 1 rfl ?_
    refine wlO (A:=l100) 9 rfl (fun hA190=>?_)
    refine lC (fun(p:Int×(List (Tpolicy_value×Bool))×(List ((List UInt8)×(List Tpolicy_value))))=>(⟨[(1,(yV l)),(4,(V.own 9 l100.length)),(10,(sV x174)),(62,(V.lst 1 (y162.map encS))),(63,(iV ((y162.length:Nat):Int))),(64,(iV n167)),(68,(V.own 9 l100.length)),(69,(iV ((l100.length:Nat):Int))),(70,(iV (p.1)))],[(0,(Ob.arr 80 1 [[(V.ptr 3 5 0 0)]])),(1,(Ob.arr 9 1 [[(sV o3)]])),(2,(Ob.arr 167 1 [[(V.map 4)]])),(3,(Ob.arr 165 5 [[(V.own 5 (o2++([o3]:List (List UInt8))).length),(V.map 6),(V.map 7),(V.map 8),(V.fn (.func 57) [] [(V.iptr [(V.lst 1 (o0.map KV.enc))] 0),(V.iptr [(iV o1)] 0)])]])),(4,(Ob.map ((p.2.1).map encM98_4))),(5,(Ob.arr 9 1 ((o2++([o3]:List (List UInt8))).map encS))),(6,(Ob.map ((p.2.2).map encM9_337))),(7,(Ob.map (([]:List ((List UInt8)×Tpolicy_value)).map encM9_98))),(8,(Ob.map (([]:List ((List UInt8)×Bool)).map encM9_4))),(9,(Ob.arr 98 4 (l100.map encTpolicy_value)))],10⟩:St)) (fun n p=>RG l100 (fun tl nn=>M90_L4 R0 F x174 k176 tl p.2.1 p.2.2=some r) n p.1) (fun p h=>RG.zero h) (l100.length+1) (0,m168,m169) (RG.start h) (gr [0,1,2,3,4,5,6,7,8,9] rfl (hB rfl rfl rfl (hB rfl rfl rfl (hB rfl rfl rfl (hB rfl rfl rfl (hM rfl rfl (hR rfl rfl (hM rfl rfl (hM rfl rfl (hM rfl rfl (hR rfl rfl .nil)))))))))) rfl) (fun n p h=>?_)
    obtain⟨n182,m183,m184⟩:=p
    refine rn 5 rfl ?_
    refine spL rfl (fun hb185=>?_) (fun hb185=>?_)
    ·obtain⟨x186,tl,hx187,h,hk12⟩:=RG.t hA190 h hb185
     unfold M90_L4 at h
     refine rn 5 rfl ?_
     refine ixoh (a:=l100) hx187 rfl rfl rfl ?_
     refine ldp hx187 rfl rfl rfl rfl ?_
     obtain⟨y188,hx189,h⟩:=bind_some h
     refine rn 15 rfl ?_
     refine aops_yield (hpf:=(fun(p:(List (Tpolicy_value×Bool))×(List ((List UInt8)×(List Tpolicy_value))))=>([(0,(Ob.arr 80 1 [[(V.ptr 3 5 0 0)]])),(1,(Ob.arr 9 1 [[(sV o3)]])),(2,(Ob.arr 167 1 [[(V.map 4)]])),(3,(Ob.arr 165 5 [[(V.own 5 (o2++([o3]:List (List UInt8))).length),(V.map 6),(V.map 7),(V.map 8),(V.fn (.func 57) [] [(V.iptr [(V.lst 1 (o0.map KV.enc))] 0),(V.iptr [(iV o1)] 0)])]])),(4,(Ob.map ((p.1).map encM98_4))),(5,(Ob.arr 9 1 ((o2++([o3]:List (List UInt8))).map encS))),(6,(Ob.map ((p.2).map encM9_337))),(7,(Ob.map (([]:List ((List UInt8)×Tpolicy_value)).map encM9_98))),(8,(Ob.map (([]:List ((List UInt8)×Bool)).map encM9_4)))]:Heap))) (p:=(m183,m184)) (r:=y188) (z:=(Tpolicy_value.mk true x186.hasNumber x174 x186.number)) (enc:=(fun x=>V.agg (encTpolicy_value x))) (R:=R0) (fun i=>i) [(0,(Ob.arr 80 1 [[(V.ptr 3 5 0 0)]])),(1,(Ob.arr 9 1 [[(sV o3)]])),(2,(Ob.arr 167 1 [[(V.map 4)]])),(3,(Ob.arr 165 5 [[(V.own 5 (o2++([o3]:List (List UInt8))).length),(V.map 6),(V.map 7),(V.map 8),(V.fn (.func 57) [] [(V.iptr [(V.lst 1 (o0.map KV.enc))] 0),(V.iptr [(iV o1)] 0)])]])),(4,(Ob.map ((y188.1).map encM98_4))),(5,(Ob.arr 9 1 ((o2++([o3]:List (List UInt8))).map encS))),(6,(Ob.map ((y188.2).map encM9_337))),(7,(Ob.map (([]:List ((List UInt8)×Tpolicy_value)).map encM9_98))),(8,(Ob.map (([]:List ((List UInt8)×Bool)).map encM9_4)))] hY hx189 wants_none rfl rfl rfl (Imm.agg (.cons (Imm.con _) (.cons (Imm.con _) (.cons (Imm.con _) (.cons (Imm.con _) .nil))))) (fun _ _=>rfl) (.cons rfl (ObSub.box (.cons (Sub.ptr rfl rfl) .nil)) (.cons rfl (ObSub.box (.cons (Sub.imm (Imm.con _)) .nil)) (.cons rfl (ObSub.box (.cons (Sub.map rfl rfl) .nil)) (.cons rfl (ObSub.box (.cons (Sub.own rfl rfl) (.cons (Sub.map rfl rfl) (.cons (Sub.map rfl rfl) (.cons (Sub.map rfl rfl) (.cons (Sub.imm (Imm.fn .nil (.cons (Imm.iptr _ _) (.cons (Imm.iptr _ _) .nil)))) .nil)))))) (.cons rfl (ObSub.maps encM98_4_imm) (.cons rfl (ObSub.rows (rows_imm imms_encS)) (.cons rfl (ObSub.mapsK ents_keepK) (.cons rfl (ObSub.maps encM9_98_imm) (.cons rfl (ObSub.maps encM9_4_imm) .nil))))))))) rfl rfl (.cons rfl (ObSub.box (.cons (Sub.ptrT rfl rfl) .nil)) (.cons rfl (ObSub.box (.cons (Sub.immT (Imm.con _)) .nil)) (.cons rfl (ObSub.box (.cons (Sub.mapT rfl rfl) .nil)) (.cons rfl (ObSub.box (.cons (Sub.ownT rfl rfl) (.cons (Sub.mapT rfl rfl) (.cons (Sub.mapT rfl rfl) (.cons (Sub.mapT rfl rfl) (.cons (Sub.immT (Imm.fn .nil (.cons (Imm.iptr _ _) (.cons (Imm.iptr _ _) .nil)))) .nil)))))) (.cons rfl (ObSub.mapsT encM98_4_imm) (.cons rfl (ObSub.rowsT (rows_imm imms_encS)) (.cons rfl (ObSub.mapsTK ents_keepK) (.cons rfl (ObSub.mapsT encM9_98_imm) (.cons rfl (ObSub.mapsT encM9_4_imm) .nil))))))))) ?_
     refine fo (rn 9 rfl ?_)
     exact jX ((w64 (n182+1)),(y188.1),(y188.2)) (hk12 _ h) (gr [0,1,2,3,4,5,6,7,8,9] rfl (hB rfl rfl rfl (hB rfl rfl rfl (hB rfl rfl rfl (hB rfl rfl rfl (hM rfl rfl (hR rfl rfl (hM rfl rfl (hM rfl rfl (hM rfl rfl (hR rfl rfl .nil)))))))))) rfl)
    replace h:=RG.f h hb185
    unfold M90_L4 at h
    refine rn 1 rfl ?_
    exact jX (m183,m184) h (gr [0,1,2,3,4,5,6,7,8,9] rfl (hB rfl rfl rfl (hB rfl rfl rfl (hB rfl rfl rfl (hB rfl rfl rfl (hM rfl rfl (hR rfl rfl (hM rfl rfl (hM rfl rfl (hM rfl rfl (hR rfl rfl .nil)))))))))) rfl)
   rintro⟨m177,m178⟩ h
   refine rn 1 rfl ?_
   exact jX (m177,m178) h (gr [0,1,2,3,4,5,6,7,8,9] rfl (hB rfl rfl rfl (hB rfl rfl rfl (hB rfl rfl rfl (hB rfl rfl rfl (hM rfl rfl (hR rfl rfl (hM rfl rfl (hM rfl rfl (hM rfl rfl (hR rfl rfl .nil)))))))))) rfl)
  rintro⟨m172,m173⟩ h
  refine rn 4 rfl ?_
  exact jX ((w64 (n167+1)),m172,m173) (hk11 _ h) (gr [0,1,2,3,4,5,6,7,8,9] rfl (hB rfl rfl rfl (hB rfl rfl rfl (hB rfl rfl rfl (hB rfl rfl rfl (hM rfl rfl (hR rfl rfl (hM rfl rfl (hM rfl rfl (hM rfl rfl (hR rfl rfl .nil)))))))))) rfl)
 replace h:=RG.f h hb170
 unfold M90_L3 at h
 refine rn 1 rfl ?_
 replace h:=Option.some.inj h
 subst h
 exact wE ⟨.inr rfl,[],(gr [0,1,2,3,4,5,6,7,8] rfl (hB rfl rfl rfl (hB rfl rfl rfl (hB rfl rfl rfl (hB rfl rfl rfl (hM rfl rfl (hR rfl rfl (hM rfl rfl (hM rfl rfl (hM rfl rfl .nil))))))))) rfl),.nil⟩
theorem W35(F:Nat)(a1:(List ((List UInt8)×(Option Tpolicy_subject))))(a2:List KV)(a3:Int)(r:((List ((List UInt8)×(List Tpolicy_value)))×(List (List UInt8))))(h:M35 F a1 a2 a3=some r):Mut Tryz.prog 35 [(V.imap (a1.map encM9_103)),(V.con (.map none)),(V.fn (.func 57) [] [(V.iptr [(V.lst 1 (a2.map KV.enc))] 0),(V.iptr [(iV a3)] 0)])] 0 [] (resV [(V.ptr 0 5 0 0)]) 4 [(0,(Ob.arr 165 5 [[(V.own 1 (r.2).length),(V.imap ((r.1).map encM9_169)),(V.map 2),(V.map 3),(V.fn (.func 57) [] [(V.iptr [(V.lst 1 (a2.map KV.enc))] 0),(V.iptr [(iV a3)] 0)])]])),(1,(Ob.arr 9 1 ((r.2).map encS))),(2,(Ob.map (([]:List ((List UInt8)×Tpolicy_value)).map encM9_98))),(3,(Ob.map (([]:List ((List UInt8)×Bool)).map encM9_4)))]:=by
 refine mut_enter Tryz.func35 rfl rfl (l:=[.tmp 6]) rfl rfl [(0,(V.imap (a1.map encM9_103))),(1,(V.con (.map none))),(2,(V.fn (.func 57) [] [(V.iptr [(V.lst 1 (a2.map KV.enc))] 0),(V.iptr [(iV a3)] 0)]))] rfl (fun w0 m0 β0 hg=>en ?_)
 unfold M35 at h
 obtain⟨l36,hx37,h⟩:=bind_some h
 refine rn 20 rfl ?_
 refine aops_sortedM (ρ6:=Go.Proofs.Tryz.lz47_ren) (ρ7:=Go.Proofs.Tryz.lz48_ren) (ρ10:=Go.Proofs.Tryz.lz110_ren) hx37 (fun _=>rfl) (fun _=>rfl) Go.Proofs.Tryz.lz47 Go.Proofs.Tryz.lz48 Go.Proofs.Tryz.lz110 rfl rfl rfl rfl rfl rfl (fun b off cap a w hH hb hc=>Go.Proofs.Tryz.slices_Sort_string b off cap a w hH hb hc) (fun p cap w=>Go.Proofs.Tryz.slices_Sort_string_none p cap w) fOk48 fOk47 fOk109 wants_none wants_none rfl rfl rfl ?_
 refine fo ?_
 refine ln rfl rfl ?_
 refine rn 2 rfl ?_
 refine jK h (fun(p:(List (List UInt8))×(List ((List UInt8)×(List Tpolicy_value))))=>(⟨[(7,(V.ptr 0 1 0 0))],[(0,(Ob.arr 80 1 [[(V.ptr 1 5 0 0)]])),(1,(Ob.arr 165 5 [[(V.own 2 (p.1).length),(V.map 3),(V.map 4),(V.map 5),(V.fn (.func 57) [] [(V.iptr [(V.lst 1 (a2.map KV.enc))] 0),(V.iptr [(iV a3)] 0)])]])),(2,(Ob.arr 9 1 ((p.1).map encS))),(3,(Ob.map ((p.2).map encM9_337))),(4,(Ob.map (([]:List ((List UInt8)×Tpolicy_value)).map encM9_98))),(5,(Ob.map (([]:List ((List UInt8)×Bool)).map encM9_4)))],6⟩:St)) (fun k38 p=>k38 p.1 p.2=some r) (fun k38 h=>?_) ?_
 ·refine rn 1 rfl ?_
  refine wl (A:=l36) 23 rfl (fun hA65=>?_)
  refine lC (fun(p:Int×(List (List UInt8))×(List ((List UInt8)×(List Tpolicy_value))))=>(⟨[(0,(V.imap (a1.map encM9_103))),(1,(V.con (.map none))),(7,(V.ptr 0 1 0 0)),(23,(V.lst 1 (l36.map encS))),(24,(iV ((l36.length:Nat):Int))),(25,(iV (p.1)))],[(0,(Ob.arr 80 1 [[(V.ptr 1 5 0 0)]])),(1,(Ob.arr 165 5 [[(V.own 2 (p.2.1).length),(V.map 3),(V.map 4),(V.map 5),(V.fn (.func 57) [] [(V.iptr [(V.lst 1 (a2.map KV.enc))] 0),(V.iptr [(iV a3)] 0)])]])),(2,(Ob.arr 9 1 ((p.2.1).map encS))),(3,(Ob.map ((p.2.2).map encM9_337))),(4,(Ob.map (([]:List ((List UInt8)×Tpolicy_value)).map encM9_98))),(5,(Ob.map (([]:List ((List UInt8)×Bool)).map encM9_4)))],6⟩:St)) (fun n p=>RG l36 (fun tl nn=>M35_L1 F a1 k38 tl p.2.1 p.2.2=some r) n p.1) (fun p h=>RG.zero h) (l36.length+1) (0,([]:List (List UInt8)),([]:List ((List UInt8)×(List Tpolicy_value)))) (RG.start h) (Ghost.trans (ghost_nilC 3 9 1 (Ob.arr 165 5 [[(V.own 5 0),(V.map 0),(V.map 1),(V.map 2),(V.fn (.func 57) [] [(V.iptr [(V.lst 1 (a2.map KV.enc))] 0),(V.iptr [(iV a3)] 0)])]]) (ObSub.box (.cons Sub.mkNil (.cons Sub.keepNil (.cons Sub.keepNil (.cons Sub.keepNil (.cons Sub.keepNil .nil))))))) (ghost_ren 6 (fun i=>([4,3,5,0,1,2]:List Nat).getD i 0) _ _ (by decide) (EnvSub.get (.cons (Sub.imm (Imm.imap _)) (.cons (Sub.imm (Imm.con _)) (.cons (Sub.ptr rfl rfl) (.cons (Sub.imm (Imm.lst _ _)) (.cons (Sub.imm (Imm.con _)) (.cons (Sub.imm (Imm.con _)) .nil))))))) (HpSub.get (.cons rfl (ObSub.box (.cons (Sub.ptr rfl rfl) .nil)) (.cons rfl (ObSub.box (.cons (Sub.ownE rfl rfl (by simp)) (.cons (Sub.map rfl rfl) (.cons (Sub.map rfl rfl) (.cons (Sub.map rfl rfl) (.cons (Sub.imm (Imm.fn .nil (.cons (Imm.iptr _ _) (.cons (Imm.iptr _ _) .nil)))) .nil)))))) (.cons rfl (ObSub.rows (rows_imm imms_encS)) (.cons rfl (ObSub.mapsK ents_keepK) (.cons rfl (ObSub.maps encM9_98_imm) (.cons rfl (ObSub.maps encM9_4_imm) .nil))))))) rfl)) (fun n p h=>?_)
  obtain⟨n44,l45,m46⟩:=p
  refine rn 5 rfl ?_
  refine spL rfl (fun hb47=>?_) (fun hb47=>?_)
  ·obtain⟨x48,tl,hx49,h,hk1⟩:=RG.t hA65 h hb47
   unfold M35_L1 at h
   refine rn 5 rfl ?_
   refine ixh hx49 rfl rfl ?_
   refine rn 9 rfl ?_
   refine aops_lookupNil_okB (V.agg [(bV false),(bV false),(sV ([]:List UInt8)),(iV 0)]) tMap91 tKey9 tZo98 (irel_conAgg [.bool false,.bool false,str ([]:List UInt8),.int .i64 0]) wants_none rfl (.con rfl) ⟨_,rfl⟩ rfl ?_
   refine fo (rn 14 rfl ?_)
   refine ck h (fun hc50 h=>?_)
   refine awp_ghost ghost_res ?_
   refine fa ?_
   refine dr mixed (vs 6 rfl (xD (OD.mk [(58,(sV x48))] [] [(59,(V.lst 1 (([x48]:List (List UInt8)).map encS)))] []) ⟨⟨rfl,trivial⟩,trivial⟩ (by exact fun S hn h hh=>aops_buildSlice_imm [(0,(sV x48))] [[(sV x48)]] tEl22 tZ9 wants_none rfl rfl rfl rfl (evp_cons h.1 evp_nil) rfl rfl (by simp) (imms_rows (.cons (.cons (Imm.con _) .nil) .nil)) rfl (aops_nil ⟨rfl,rfl⟩)) rfl (xD (OD.mk [(57,(V.own 2 l45.length)),(59,(V.lst 1 (([x48]:List (List UInt8)).map encS)))] [(2,(Ob.arr 9 1 (l45.map encS))),(8,Ob.res)] [(60,(V.own 8 (l45++([x48]:List (List UInt8))).length))] [(8,(Ob.arr 9 1 ((l45++([x48]:List (List UInt8))).map encS))),(2,Ob.dead)]) ⟨⟨rfl,rfl,trivial⟩,⟨rfl,rfl,trivial⟩⟩ (by exact fun S hn h hh=>aops_append_at 8 rfl hn hh.2.1 (([x48]:List (List UInt8)).map encS) ((l45++([x48]:List (List UInt8))).map encS) tEl22 tIsSl22 rfl rfl wants_none h.1 hh.1 (by simp) h.2.1 (.lst (rows_one one_encS)) (map_snoc encS l45 ([x48]:List (List UInt8))) (List.length_map ..) hc50 rfl (aops_nil ⟨rfl,rfl⟩)) rfl (vs 3 rfl .nil)))) (by kernel_rfl) ?_
   refine rn 10 rfl ?_
   refine aops_lookup (hdd:=deep_optr _) _ (V.con (.pointer none)) (optr encTpolicy_subject ((mget a1 x48).getD (none:Option Tpolicy_subject))) tMap77 tKey9 tZo103 (irel_con _) wants_none rfl .imm (.con rfl) ⟨_,rfl⟩ encM9_103_good (encM9_103_look a1 x48) (getD_map (encM9_103_val) (mget a1 x48) (none:Option Tpolicy_subject)) rfl ?_
   obtain⟨x51,hx52,h⟩:=bind_some h
   refine fo ?_
   refine opO 66 hx52 rfl ?_
   refine aops_makeFuncF [(V.iptr (encTpolicy_subject x51) 0)] wants_none (evm_cons rfl evm_nil) rfl ?_
   refine fo (rn 2 rfl ?_)
   obtain⟨y63,hx64,h⟩:=bind_some h
   refine rfC (awp_rangeFunc (f:=90) (k:=9) (hpf:=(fun(p:(List (Tpolicy_value×Bool))×(List ((List UInt8)×(List Tpolicy_value))))=>([(0,(Ob.arr 80 1 [[(V.ptr 3 5 0 0)]])),(1,(Ob.arr 9 1 [[(sV x48)]])),(2,(Ob.arr 167 1 [[(V.map 4)]])),(3,(Ob.arr 165 5 [[(V.own 5 (l45++([x48]:List (List UInt8))).length),(V.map 6),(V.map 7),(V.map 8),(V.fn (.func 57) [] [(V.iptr [(V.lst 1 (a2.map KV.enc))] 0),(V.iptr [(iV a3)] 0)])]])),(4,(Ob.map ((p.1).map encM98_4))),(5,(Ob.arr 9 1 ((l45++([x48]:List (List UInt8))).map encS))),(6,(Ob.map ((p.2).map encM9_337))),(7,(Ob.map (([]:List ((List UInt8)×Tpolicy_value)).map encM9_98))),(8,(Ob.map (([]:List ((List UInt8)×Bool)).map encM9_4)))]:Heap))) (enc:=(fun x=>V.agg (encTpolicy_value x))) (R:=(fun p x=>M35_R2 F x48 p.1 p.2 x)) (p0:=(([]:List (Tpolicy_value×Bool)),m46)) (pE:=y63) (fun i=>([0,6,10,1,9,8,3,4,5]:List Nat).getD i 0) (fun i=>([0,6,10,1,9,8,3,4,5]:List Nat).getD i 0) [(0,(Ob.arr 80 1 [[(V.ptr 1 5 0 0)]])),(6,(Ob.arr 9 1 [[(sV x48)]])),(10,(Ob.arr 167 1 [[(V.map 9)]])),(1,(Ob.arr 165 5 [[(V.own 8 (l45++([x48]:List (List UInt8))).length),(V.map 3),(V.map 4),(V.map 5),(V.fn (.func 57) [] [(V.iptr [(V.lst 1 (a2.map KV.enc))] 0),(V.iptr [(iV a3)] 0)])]])),(9,(Ob.map ((y63.1).map encM98_4))),(8,(Ob.arr 9 1 ((l45++([x48]:List (List UInt8))).map encS))),(3,(Ob.map ((y63.2).map encM9_337))),(4,(Ob.map (([]:List ((List UInt8)×Tpolicy_value)).map encM9_98))),(5,(Ob.map (([]:List ((List UInt8)×Bool)).map encM9_4)))] [(7,(V.ptr 0 1 0 0)),(9,(V.ptr 1 1 0 0)),(12,(V.ptr 2 1 0 0))] rfl rfl fOk90 rfl (.cons (Sub.imm (Imm.iptr _ _)) .nil) (.cons rfl (ObSub.box (.cons (Sub.ptr rfl rfl) .nil)) (.cons rfl (ObSub.box (.cons (Sub.imm (Imm.con _)) .nil)) (.cons rfl (ObSub.box (.cons (Sub.map rfl rfl) .nil)) (.cons rfl (ObSub.box (.cons (Sub.own rfl rfl) (.cons (Sub.map rfl rfl) (.cons (Sub.map rfl rfl) (.cons (Sub.map rfl rfl) (.cons (Sub.imm (Imm.fn .nil (.cons (Imm.iptr _ _) (.cons (Imm.iptr _ _) .nil)))) .nil)))))) (.cons rfl (ObSub.maps encM98_4_imm) (.cons rfl (ObSub.rows (rows_imm imms_encS)) (.cons rfl (ObSub.mapsK ents_keepK) (.cons rfl (ObSub.maps encM9_98_imm) (.cons rfl (ObSub.maps encM9_4_imm) .nil))))))))) (.cons (Sub.ptr rfl rfl) (.cons (Sub.ptr rfl rfl) (.cons (Sub.ptr rfl rfl) .nil))) (W90 a2 a3 l45 x48 (fun p x=>M35_R2 F x48 p.1 p.2 x) F x51.is x51.begins x51.numbers x51.asText x51.asNo x51.has x51.weight ([]:List (Tpolicy_value×Bool)) m46 _ hx64) ?_ rfl rfl (.cons rfl (ObSub.box (.cons (Sub.ptrT rfl rfl) .nil)) (.cons rfl (ObSub.box (.cons (Sub.immT (Imm.con _)) .nil)) (.cons rfl (ObSub.box (.cons (Sub.mapT rfl rfl) .nil)) (.cons rfl (ObSub.box (.cons (Sub.ownT rfl rfl) (.cons (Sub.mapT rfl rfl) (.cons (Sub.mapT rfl rfl) (.cons (Sub.mapT rfl rfl) (.cons (Sub.immT (Imm.fn .nil (.cons (Imm.iptr _ _) (.cons (Imm.iptr _ _) .nil)))) .nil)))))) (.cons rfl (ObSub.mapsT encM98_4_imm) (.cons rfl (ObSub.rowsT (rows_imm imms_encS)) (.cons rfl (ObSub.mapsTK ents_keepK) (.cons rfl (ObSub.mapsT encM9_98_imm) (.cons rfl (ObSub.mapsT encM9_4_imm) .nil))))))))) (wP ?_))
   ·intro l p v53 r h
    obtain⟨m56,m57⟩:=p
    replace h:M35_R2 F x48 m56 m57 v53=some r:=h
    unfold M35_R2 at h
    refine' ⟨_,fun old loc w m hgl=>en ?_,fun old loc w m hgl=>en ?_⟩
    ·refine rn 4 rfl ?_
     exact wE ⟨rfl,rfl⟩
    ·refine rn 5 rfl ?_
     refine aops_lookup _ (bV false) (bV ((mget m56 v53).getD false)) tMap167 tKey98 tZo4 (irel_con _) wants_none rfl (.own rfl) (.agg (cv98 v53) rfl) ⟨_,rfl⟩ encM98_4_good (encM98_4_look m56 v53) (getD_map (encM98_4_val) (mget m56 v53) false) rfl ?_
     refine fo (rn 2 rfl ?_)
     refine jK h (fun(p:(List (Tpolicy_value×Bool))×(List ((List UInt8)×(List Tpolicy_value))))=>(⟨[(7,(V.ptr 0 1 0 0)),(9,(V.ptr 1 1 0 0)),(12,(V.ptr 2 1 0 0))],[(0,(Ob.arr 80 1 [[(V.ptr 3 5 0 0)]])),(1,(Ob.arr 9 1 [[(sV x48)]])),(2,(Ob.arr 167 1 [[(V.map 4)]])),(3,(Ob.arr 165 5 [[(V.own 5 (l45++([x48]:List (List UInt8))).length),(V.map 6),(V.map 7),(V.map 8),(V.fn (.func 57) [] [(V.iptr [(V.lst 1 (a2.map KV.enc))] 0),(V.iptr [(iV a3)] 0)])]])),(4,(Ob.map ((p.1).map encM98_4))),(5,(Ob.arr 9 1 ((l45++([x48]:List (List UInt8))).map encS))),(6,(Ob.map ((p.2).map encM9_337))),(7,(Ob.map (([]:List ((List UInt8)×Tpolicy_value)).map encM9_98))),(8,(Ob.map (([]:List ((List UInt8)×Bool)).map encM9_4)))],9⟩:St)) (fun k58 p=>k58 p.1 p.2=some r) (fun k58 h=>?_) ?_
     ·refine spC h rfl (fun hb61 h=>?_) (fun hb61 h=>?_)
      ·refine rn 4 rfl ?_
       refine aops_mapUpdate (es:=m56.map encM98_4) ((mput m56 v53 true).map encM98_4) tMap167 tKey98 wants_none rfl rfl (.agg (cv98 v53) rfl) ⟨_,rfl⟩ encM98_4_good rfl (encM98_4_puts m56 v53 true) ?_
       refine fo (rn 1 rfl ?_)
       refine ck h (fun hc62 h=>?_)
       refine awp_ghost ghost_res ?_
       refine awp_ghost ghost_res ?_
       refine fa ?_
       refine dr mixed (vs 10 rfl (xD (OD.mk [(83,(V.map 6)),(84,(sV x48))] [(6,(Ob.map (m57.map encM9_337))),(10,Ob.res)] [(85,(V.own 10 ((mget m57 x48).getD []).length))] [(6,(Ob.map (holeM encM9_337 10 x48 m57))),(10,(Ob.arr 98 4 (((mget m57 x48).getD []).map encTpolicy_value)))]) ⟨⟨rfl,rfl,trivial⟩,⟨rfl,rfl,trivial⟩⟩ (by exact fun S hn h hh=>aops_lookup_tk_at 10 rfl hn hh.2.1 (n:=((mget m57 x48).getD []).length) tMap163 tKey9 tZo169 wants_none h.1 hh.1 (.con h.2.1) ⟨_,rfl⟩ encM9_337_good (lookT_enc encM9_337 (fun k=>str k) encTpolicy_value 98 4 10 (fun _=>rfl) inj_str x48 m57) (by simp) rfl (aops_nil ⟨rfl,rfl⟩)) rfl (vs 1 rfl (xD (OD.mk [(86,(V.agg (encTpolicy_value v53)))] [] [(87,(V.lst 4 (([v53]:List Tpolicy_value).map encTpolicy_value)))] []) ⟨⟨rfl,trivial⟩,trivial⟩ (by exact fun S hn h hh=>aops_buildSlice_imm [(0,(V.agg (encTpolicy_value v53)))] [(encTpolicy_value v53)] tEl169 tZ98 wants_none rfl rfl rfl rfl (evp_cons h.1 evp_nil) rfl rfl (by simp) (imms_rows (.cons (imms_encTpolicy_value _) .nil)) rfl (aops_nil ⟨rfl,rfl⟩)) rfl (xD (OD.mk [(85,(V.own 10 ((mget m57 x48).getD []).length)),(87,(V.lst 4 (([v53]:List Tpolicy_value).map encTpolicy_value)))] [(10,(Ob.arr 98 4 (((mget m57 x48).getD []).map encTpolicy_value))),(11,Ob.res)] [(88,(V.own 11 (((mget m57 x48).getD [])++([v53]:List Tpolicy_value)).length))] [(11,(Ob.arr 98 4 ((((mget m57 x48).getD [])++([v53]:List Tpolicy_value)).map encTpolicy_value))),(10,Ob.dead)]) ⟨⟨rfl,rfl,trivial⟩,⟨rfl,rfl,trivial⟩⟩ (by exact fun S hn h hh=>aops_append_at 11 rfl hn hh.2.1 (([v53]:List Tpolicy_value).map encTpolicy_value) ((((mget m57 x48).getD [])++([v53]:List Tpolicy_value)).map encTpolicy_value) tEl169 tIsSl169 rfl rfl wants_none h.1 hh.1 (by simp) h.2.1 (.lst (rows_one one_encTpolicy_value)) (map_snoc encTpolicy_value ((mget m57 x48).getD []) ([v53]:List Tpolicy_value)) (List.length_map ..) hc62 rfl (aops_nil ⟨rfl,rfl⟩)) rfl (xD (OD.mk [(78,(V.map 6)),(79,(sV x48)),(88,(V.own 11 (((mget m57 x48).getD [])++([v53]:List Tpolicy_value)).length))] [(6,(Ob.map (holeM encM9_337 10 x48 m57))),(11,(Ob.arr 98 4 ((((mget m57 x48).getD [])++([v53]:List Tpolicy_value)).map encTpolicy_value)))] [] [(6,(Ob.map ((mput m57 x48 (((mget m57 x48).getD [])++([v53]:List Tpolicy_value))).map encM9_337))),(11,Ob.dead)]) ⟨⟨rfl,rfl,rfl,trivial⟩,⟨rfl,rfl,trivial⟩⟩ (by exact fun S hn h hh=>aops_mapUpdate_deepG (id2:=11) (o:=(V.own 11 (((mget m57 x48).getD [])++([v53]:List Tpolicy_value)).length)) (dv:=(.dsl 98 4 ((((mget m57 x48).getD [])++([v53]:List Tpolicy_value)).map encTpolicy_value))) (ob:=(.arr 98 4 ((((mget m57 x48).getD [])++([v53]:List Tpolicy_value)).map encTpolicy_value))) ((mput m57 x48 (((mget m57 x48).getD [])++([v53]:List Tpolicy_value))).map encM9_337) tMap163 tKey9 wants_none h.1 hh.1 (.con h.2.1) ⟨_,rfl⟩ (good_holeM (fun _=>⟨_,rfl⟩)) h.2.2.1 (by simp[ovl]) hh.2.1 rfl (okeep_rows imms_encTpolicy_value (((mget m57 x48).getD [])++([v53]:List Tpolicy_value))) (puts_hole encM9_337 (fun k=>str k) encTpolicy_value 98 4 10 (fun _=>rfl) inj_str x48 (((mget m57 x48).getD [])++([v53]:List Tpolicy_value)) m57) (aops_nil ⟨rfl,rfl⟩)) rfl .nil)))))) (by kernel_rfl) ?_
       exact jX ((mput m56 v53 true),(mput m57 x48 (((mget m57 x48).getD [])++([v53]:List Tpolicy_value)))) h (gr [0,1,2,3,4,5,6,7,8] rfl (hB rfl rfl rfl (hB rfl rfl rfl (hB rfl rfl rfl (hB rfl rfl rfl (hM rfl rfl (hR rfl rfl (hM rfl rfl (hM rfl rfl (hM rfl rfl .nil))))))))) rfl)
      refine rn 1 rfl ?_
      exact jX (m56,m57) h (gr [0,1,2,3,4,5,6,7,8] rfl (hB rfl rfl rfl (hB rfl rfl rfl (hB rfl rfl rfl (hB rfl rfl rfl (hM rfl rfl (hR rfl rfl (hM rfl rfl (hM rfl rfl (hM rfl rfl .nil))))))))) rfl)
     rintro⟨m59,m60⟩ h
     refine rn 1 rfl ?_
     replace h:=Option.some.inj h
     subst h
     exact wE ⟨rfl,[(7,(V.ptr 0 1 0 0)),(9,(V.ptr 1 1 0 0)),(12,(V.ptr 2 1 0 0))],(gr [0,1,2,3,4,5,6,7,8] rfl (hB rfl rfl rfl (hB rfl rfl rfl (hB rfl rfl rfl (hB rfl rfl rfl (hM rfl rfl (hR rfl rfl (hM rfl rfl (hM rfl rfl (hM rfl rfl .nil))))))))) rfl)⟩
   refine rn 6 rfl ?_
   exact jX ((w64 (n44+1)),(l45++([x48]:List (List UInt8))),(y63.2)) (hk1 _ h) (gr [0,1,8,3,4,5] rfl (hB rfl rfl rfl (hB rfl rfl rfl (hR rfl rfl (hM rfl rfl (hM rfl rfl (hM rfl rfl .nil)))))) rfl)
  replace h:=RG.f h hb47
  unfold M35_L1 at h
  refine rn 1 rfl ?_
  exact jX (l45,m46) h (gr [0,1,2,3,4,5] rfl (hB rfl rfl rfl (hB rfl rfl rfl (hR rfl rfl (hM rfl rfl (hM rfl rfl (hM rfl rfl .nil)))))) rfl)
 rintro⟨l39,m40⟩ h
 refine rn 5 rfl ?_
 replace h:=Option.some.inj h
 subst h
 exact wR ⟨.inl rfl,[(6,(V.ptr 0 5 0 0))],(Ghost.trans (ghost_frzDMC 3 1 (m40.map encM9_169) (Ob.arr 165 5 [[(V.own 2 l39.length),(V.imap (m40.map encM9_169)),(V.map 4),(V.map 5),(V.fn (.func 57) [] [(V.iptr [(V.lst 1 (a2.map KV.enc))] 0),(V.iptr [(iV a3)] 0)])]]) rfl (by simp) (und_map encM9_337_und _) (ObSub.box (.cons Sub.keepM (.cons Sub.frzM (.cons Sub.keepM (.cons Sub.keepM (.cons Sub.keepM .nil))))))) (gr [1,2,4,5] rfl (hB rfl rfl rfl (hR rfl rfl (hM rfl rfl (hM rfl rfl .nil)))) rfl)),(.cons (.tmp rfl) .nil)⟩
theorem W281(F:Nat)(a1:Tpolicy_values)(a2:(List UInt8))(r:(Tpolicy_value×Bool))(h:M281 F a1 a2=some r):Pure Tryz.prog 281 [(V.agg (encTpolicy_values a1)),(sV a2)] (V.tup [(V.agg (encTpolicy_value (r.1))),(bV (r.2))]):=by
 refine pin (fun r=>(V.tup [(V.agg (encTpolicy_value (r.1))),(bV (r.2))])) r rfl Tryz.func281 rfl rfl rfl rfl rfl (fun w0 m0 hg=>?_)
 unfold M281 at h
 refine rn 2 rfl ?_
 refine aops_box (encTpolicy_values a1) wants_none rfl rfl (one_encTpolicy_values _) rfl ?_
 refine fo (rn 4 rfl ?_)
 refine bs h (fun hb3 h=>?_) (fun hb3 h=>?_)
 ·refine dr mixed (vs 3 rfl (xD (OD.mk [(7,(V.imap (a1.by_.map encM9_98))),(8,(sV a2))] [] [(9,(V.agg (encTpolicy_value ((mget a1.by_ a2).getD (Tpolicy_value.mk false false ([]:List UInt8) 0)))))] []) ⟨⟨rfl,rfl,trivial⟩,trivial⟩ (by exact fun S hn h hh=>aops_lookup _ (V.agg [(bV false),(bV false),(sV ([]:List UInt8)),(iV 0)]) (V.agg (encTpolicy_value ((mget a1.by_ a2).getD (Tpolicy_value.mk false false ([]:List UInt8) 0)))) tMap91 tKey9 tZo98 (irel_conAgg [.bool false,.bool false,str ([]:List UInt8),.int .i64 0]) wants_none h.1 .imm (.con h.2.1) ⟨_,rfl⟩ encM9_98_good (encM9_98_look a1.by_ a2) (getD_map (encM9_98_val) (mget a1.by_ a2) (Tpolicy_value.mk false false ([]:List UInt8) 0)) rfl (aops_nil ⟨rfl,rfl⟩)) rfl (vs 1 rfl (xD (OD.mk [(10,(V.ptr 0 2 0 1))] [(0,(Ob.arr 94 2 [(encTpolicy_values a1)]))] [(11,(optm encM9_4 a1.known))] []) ⟨⟨rfl,trivial⟩,⟨rfl,trivial⟩⟩ (by exact fun S hn h hh=>aops_load_cell (optm encM9_4 a1.known) tC92 wants_none h.1 hh.1 rfl rfl (deep_optm _) rfl (aops_nil ⟨rfl,rfl⟩)) rfl (xD (OD.mk [(11,(optm encM9_4 a1.known))] [] [(12,(bV a1.known.isNone))] []) ⟨⟨rfl,trivial⟩,trivial⟩ (by exact fun S hn h hh=>aops_eqNilO (enc:=encM9_4) (o:=a1.known) tIsMp92 wants_none h.1 rfl rfl (aops_nil ⟨rfl,rfl⟩)) rfl (vb hb3 rfl (vs 7 rfl .nil))))))) (by kernel_rfl) ?_
  exact rt h rfl
 refine dr mixed (vs 3 rfl (xD (OD.mk [(7,(V.imap (a1.by_.map encM9_98))),(8,(sV a2))] [] [(9,(V.agg (encTpolicy_value ((mget a1.by_ a2).getD (Tpolicy_value.mk false false ([]:List UInt8) 0)))))] []) ⟨⟨rfl,rfl,trivial⟩,trivial⟩ (by exact fun S hn h hh=>aops_lookup _ (V.agg [(bV false),(bV false),(sV ([]:List UInt8)),(iV 0)]) (V.agg (encTpolicy_value ((mget a1.by_ a2).getD (Tpolicy_value.mk false false ([]:List UInt8) 0)))) tMap91 tKey9 tZo98 (irel_conAgg [.bool false,.bool false,str ([]:List UInt8),.int .i64 0]) wants_none h.1 .imm (.con h.2.1) ⟨_,rfl⟩ encM9_98_good (encM9_98_look a1.by_ a2) (getD_map (encM9_98_val) (mget a1.by_ a2) (Tpolicy_value.mk false false ([]:List UInt8) 0)) rfl (aops_nil ⟨rfl,rfl⟩)) rfl (vs 1 rfl (xD (OD.mk [(10,(V.ptr 0 2 0 1))] [(0,(Ob.arr 94 2 [(encTpolicy_values a1)]))] [(11,(optm encM9_4 a1.known))] []) ⟨⟨rfl,trivial⟩,⟨rfl,trivial⟩⟩ (by exact fun S hn h hh=>aops_load_cell (optm encM9_4 a1.known) tC92 wants_none h.1 hh.1 rfl rfl (deep_optm _) rfl (aops_nil ⟨rfl,rfl⟩)) rfl (xD (OD.mk [(11,(optm encM9_4 a1.known))] [] [(12,(bV a1.known.isNone))] []) ⟨⟨rfl,trivial⟩,trivial⟩ (by exact fun S hn h hh=>aops_eqNilO (enc:=encM9_4) (o:=a1.known) tIsMp92 wants_none h.1 rfl rfl (aops_nil ⟨rfl,rfl⟩)) rfl (vb hb3 rfl (vs 1 rfl (xD (OD.mk [(13,(bV false)),(14,(V.ptr 0 2 0 1))] [(0,(Ob.arr 94 2 [(encTpolicy_values a1)]))] [(15,(optm encM9_4 a1.known))] []) ⟨⟨rfl,rfl,trivial⟩,⟨rfl,trivial⟩⟩ (by exact fun S hn h hh=>aops_load_cell (optm encM9_4 a1.known) tC92 (wants_some (c:=false) (b:=false) 13 rfl h.1 rfl) h.2.1 hh.1 rfl rfl (deep_optm _) rfl (aops_nil ⟨rfl,rfl⟩)) rfl (vs 1 rfl (xD (OD.mk [(13,(bV false)),(15,(optm encM9_4 a1.known)),(16,(sV a2))] [] [(17,(bV ((mget (a1.known.getD []) a2).getD false)))] []) ⟨⟨rfl,rfl,rfl,trivial⟩,trivial⟩ (by exact fun S hn h hh=>aops_lookupO (enc:=encM9_4) (o:=a1.known) _ (bV false) (bV ((mget (a1.known.getD []) a2).getD false)) tMap92 tKey9 tZo4 (irel_con _) (wants_some (c:=false) (b:=false) 13 rfl h.1 rfl) h.2.1 (.con h.2.2.1) ⟨_,rfl⟩ encM9_4_good (encM9_4_look (a1.known.getD []) a2) (getD_map (encM9_4_val) (mget (a1.known.getD []) a2) false) rfl rfl (aops_nil ⟨rfl,rfl⟩)) rfl (vs 3 rfl .nil))))))))))) (by kernel_rfl) ?_
 exact rt h rfl
theorem W72(F:Nat)(a1:Bool)(r:Int)(h:M72 F a1=some r):Pure Tryz.prog 72 [(bV a1)] (iV r):=by
 refine pin (fun r=>(iV r)) r rfl Tryz.func72 rfl rfl rfl rfl rfl (fun w0 m0 hg=>?_)
 unfold M72 at h
 refine rn 9 rfl ?_
 refine spC h rfl (fun hb2 h=>?_) (fun hb2 h=>?_)
 ·refine rn 4 rfl ?_
  exact rt h rfl
 refine rn 5 rfl ?_
 exact rt h rfl
theorem W282(F:Nat)(a1:Tpolicy_condIs)(a2:Tpolicy_values)(r:Int)(h:M282 F a1 a2=some r):Pure Tryz.prog 282 [(V.agg (encTpolicy_condIs a1)),(V.agg (encTpolicy_values a2))] (iV r):=by
 refine pin (fun r=>(iV r)) r rfl Tryz.func282 rfl rfl rfl rfl rfl (fun w0 m0 hg=>?_)
 unfold M282 at h
 refine rn 3 rfl ?_
 refine aops_box (encTpolicy_values a2) wants_none rfl rfl (one_encTpolicy_values _) rfl ?_
 refine fo (rn 4 rfl ?_)
 refine aops_load_agg (cs:=(encTpolicy_values a2)) tA94 wants_none rfl rfl rfl rfl rfl (nd_encTpolicy_values _) rfl ?_
 obtain⟨y3,hx4,h⟩:=bind_some h
 refine fo (rn 2 rfl ?_)
 refine aops_call (V.tup [(V.agg (encTpolicy_value (y3.1))),(bV (y3.2))]) [(V.agg (encTpolicy_values a2)),(sV a1.name)] fOk281 wants_none (evm_cons rfl (evm_cons rfl evm_nil)) (.cons (Imm.agg (imms_encTpolicy_values _)) (.cons (Imm.con _) .nil)) (W281 F a2 a1.name y3 hx4) rfl ?_
 refine fo (rn 13 rfl ?_)
 refine spC h rfl (fun hb5 h=>?_) (fun hb5 h=>?_)
 ·refine rn 4 rfl ?_
  exact rt h rfl
 refine rn 6 rfl ?_
 refine spO 18 h rfl (fun hb6 h=>?_) (fun hb6 h=>?_)
 ·refine rn 4 rfl ?_
  refine cl h rfl rfl rfl (W74 _ _ _) rfl (fun y7 hx8 h=>?_)
  refine rn 1 rfl ?_
  refine cl h rfl rfl rfl (W72 _ _) rfl (fun y9 hx10 h=>?_)
  refine rn 2 rfl ?_
  exact rt h rfl
 refine rn 6 rfl ?_
 refine cl h rfl rfl rfl (W72 _ _) rfl (fun y11 hx12 h=>?_)
 refine rn 2 rfl ?_
 exact rt h rfl
theorem W284(F:Nat)(a1:(List UInt8))(a2:Bool)(a3:Bool)(a4:List UInt8)(a5:Int)(r:Bool)(h:M284 F a1 a2 a3 a4 a5=some r):Pure Tryz.prog 284 [(sV a1),(V.iptr [(bV a2),(bV a3),(sV a4),(iV a5)] 0)] (bV r):=by
 refine pin (fun r=>(bV r)) r rfl Tryz.func284 rfl rfl rfl rfl rfl (fun w0 m0 hg=>?_)
 unfold M284 at h
 refine rn 9 rfl ?_
 refine cl h rfl rfl rfl (W138 _ _ _) rfl (fun y6 hx7 h=>?_)
 refine rn 2 rfl ?_
 exact rt h rfl
theorem W247_1(F:Nat)(a1:(List (List UInt8)))(a2:Bool)(a3:Bool)(a4:List UInt8)(a5:Int)(r:Int)(h:M247_1 F a1 a2 a3 a4 a5=some r):Pure Tryz.prog 247 [(V.lst 1 (a1.map encS)),(V.fn (.func 284) [] [(V.iptr [(bV a2),(bV a3),(sV a4),(iV a5)] 0)])] (iV r):=by
 refine pin (fun r=>(iV r)) r rfl Tryz.func247 rfl rfl rfl rfl rfl (fun w0 m0 hg=>?_)
 unfold M247_1 at h
 refine rn 8 rfl ?_
 refine ln rfl rfl ?_
 refine rn 2 rfl ?_
 refine jK h (fun _:Unit=>(⟨[],[],0⟩:St)) (fun k6 (_:Unit)=>k6=some r) (fun k6 h=>?_) ?_
 ·refine rn 1 rfl ?_
  refine wl (A:=a1) 0 rfl (fun hA15=>?_)
  refine lC (fun(p:Int)=>(⟨[(0,(V.lst 1 (a1.map encS))),(1,(V.fn (.func 284) [] [(V.iptr [(bV a2),(bV a3),(sV a4),(iV a5)] 0)])),(7,(iV ((a1.length:Nat):Int))),(8,(iV p))],[],0⟩:St)) (fun n p=>RG a1 (fun tl nn=>M247_1_L1 F a2 a3 a4 a5 k6 tl nn=some r) n p) (fun p h=>RG.zero h) (a1.length+1) 0 (RG.start h) (g0 rfl rfl) (fun n n8 h=>?_)
  refine rn 5 rfl ?_
  refine spL rfl (fun hb9=>?_) (fun hb9=>?_)
  ·obtain⟨x10,tl,hx11,h,hk1⟩:=RG.t hA15 h hb9
   unfold M247_1_L1 at h
   refine rn 13 rfl ?_
   refine ixh hx11 rfl rfl ?_
   refine rn 1 rfl ?_
   refine cl h rfl rfl rfl (W284 _ _ _ _ _ _) rfl (fun y12 hx13 h=>?_)
   refine rn 1 rfl ?_
   refine spC h rfl (fun hb14 h=>?_) (fun hb14 h=>?_)
   ·refine rn 5 rfl ?_
    exact rt h rfl
   refine rn 6 rfl ?_
   exact jX (w64 (n8+1)) (hk1 _ h) (g0 rfl rfl)
  replace h:=RG.f h hb9
  unfold M247_1_L1 at h
  refine rn 1 rfl ?_
  exact jX () h (g0 rfl rfl)
 intro _ h
 refine rn 4 rfl ?_
 exact rt h rfl
theorem W237_1(F:Nat)(a1:(List (List UInt8)))(a2:Bool)(a3:Bool)(a4:List UInt8)(a5:Int)(r:Bool)(h:M237_1 F a1 a2 a3 a4 a5=some r):Pure Tryz.prog 237 [(V.lst 1 (a1.map encS)),(V.fn (.func 284) [] [(V.iptr [(bV a2),(bV a3),(sV a4),(iV a5)] 0)])] (bV r):=by
 refine pin (fun r=>(bV r)) r rfl Tryz.func237 rfl rfl rfl rfl rfl (fun w0 m0 hg=>?_)
 unfold M237_1 at h
 refine rn 8 rfl ?_
 refine cl h rfl rfl rfl (W247_1 _ _ _ _ _ _) rfl (fun y6 hx7 h=>?_)
 refine rn 3 rfl ?_
 exact rt h rfl
theorem W283(F:Nat)(a1:Tpolicy_condBegins)(a2:Tpolicy_values)(r:Int)(h:M283 F a1 a2=some r):Pure Tryz.prog 283 [(V.agg (encTpolicy_condBegins a1)),(V.agg (encTpolicy_values a2))] (iV r):=by
 refine pin (fun r=>(iV r)) r rfl Tryz.func283 rfl rfl rfl rfl rfl (fun w0 m0 hg=>?_)
 unfold M283 at h
 refine rn 3 rfl ?_
 refine aops_box (encTpolicy_values a2) wants_none rfl rfl (one_encTpolicy_values _) rfl ?_
 refine fo (rn 4 rfl ?_)
 refine aops_load_agg (cs:=(encTpolicy_values a2)) tA94 wants_none rfl rfl rfl rfl rfl (nd_encTpolicy_values _) rfl ?_
 obtain⟨y3,hx4,h⟩:=bind_some h
 refine fo (rn 2 rfl ?_)
 refine aops_call (V.tup [(V.agg (encTpolicy_value (y3.1))),(bV (y3.2))]) [(V.agg (encTpolicy_values a2)),(sV a1.name)] fOk281 wants_none (evm_cons rfl (evm_cons rfl evm_nil)) (.cons (Imm.agg (imms_encTpolicy_values _)) (.cons (Imm.con _) .nil)) (W281 F a2 a1.name y3 hx4) rfl ?_
 refine fo (rn 13 rfl ?_)
 refine spC h rfl (fun hb5 h=>?_) (fun hb5 h=>?_)
 ·refine rn 4 rfl ?_
  exact rt h rfl
 refine rn 6 rfl ?_
 refine spO 18 h rfl (fun hb6 h=>?_) (fun hb6 h=>?_)
 ·obtain⟨y7,hx8,h⟩:=bind_some h
  refine rn 3 rfl ?_
  refine aops_lend_call (bV y7) [(V.lst 1 (a1.texts.map encS)),(V.fn (.func 284) [] [(V.iptr (encTpolicy_value (y3.1)) 0)])] fOk237 (ghost_frzV 2 21 (V.fn (.func 284) [] [(V.iptr (encTpolicy_value (y3.1)) 0)]) rfl (imms_rows (.cons (imms_encTpolicy_value _) .nil)) rfl (Sub.fnc (.cons (Sub.frzptr rfl) .nil))) (Flat.con _) (wants_some (c:=true) (b:=true) 18 rfl rfl rfl) (evm_cons rfl (evm_cons rfl evm_nil)) (.cons (Imm.lst _ _) (.cons (Imm.fn .nil (.cons (Imm.iptr _ _) .nil)) .nil)) (W237_1 F a1.texts (y3.1).hasText (y3.1).hasNumber (y3.1).text (y3.1).number y7 hx8) rfl ?_
  refine fo (rn 1 rfl ?_)
  refine cl h rfl rfl rfl (W72 _ _) rfl (fun y9 hx10 h=>?_)
  refine rn 2 rfl ?_
  exact rt h rfl
 refine rn 5 rfl ?_
 refine cl h rfl rfl rfl (W72 _ _) rfl (fun y11 hx12 h=>?_)
 refine rn 2 rfl ?_
 exact rt h rfl
theorem W285(F:Nat)(a1:Tpolicy_condHas)(a2:Tpolicy_values)(r:Int)(h:M285 F a1 a2=some r):Pure Tryz.prog 285 [(V.agg [(sV a1.name)]),(V.agg (encTpolicy_values a2))] (iV r):=by
 refine pin (fun r=>(iV r)) r rfl Tryz.func285 rfl rfl rfl rfl rfl (fun w0 m0 hg=>?_)
 unfold M285 at h
 refine rn 3 rfl ?_
 refine aops_box (encTpolicy_values a2) wants_none rfl rfl (one_encTpolicy_values _) rfl ?_
 refine fo (rn 4 rfl ?_)
 refine aops_load_agg (cs:=(encTpolicy_values a2)) tA94 wants_none rfl rfl rfl rfl rfl (nd_encTpolicy_values _) rfl ?_
 obtain⟨y3,hx4,h⟩:=bind_some h
 refine fo (rn 2 rfl ?_)
 refine aops_call (V.tup [(V.agg (encTpolicy_value (y3.1))),(bV (y3.2))]) [(V.agg (encTpolicy_values a2)),(sV a1.name)] fOk281 wants_none (evm_cons rfl (evm_cons rfl evm_nil)) (.cons (Imm.agg (imms_encTpolicy_values _)) (.cons (Imm.con _) .nil)) (W281 F a2 a1.name y3 hx4) rfl ?_
 refine fo (rn 13 rfl ?_)
 refine spC h rfl (fun hb5 h=>?_) (fun hb5 h=>?_)
 ·refine rn 4 rfl ?_
  exact rt h rfl
 refine rn 6 rfl ?_
 refine spO 18 h rfl (fun hb6 h=>?_) (fun hb6 h=>?_)
 ·refine rn 3 rfl ?_
  refine cl h rfl rfl rfl (W72 _ _) rfl (fun y7 hx8 h=>?_)
  refine rn 2 rfl ?_
  exact rt h rfl
 refine rn 3 rfl ?_
 refine cl h rfl rfl rfl (W72 _ _) rfl (fun y9 hx10 h=>?_)
 refine rn 2 rfl ?_
 exact rt h rfl
theorem W287(F:Nat)(a1:Int)(a2:Int)(a3:Int)(r:Bool)(h:M287 F a1 a2 a3=some r):Pure Tryz.prog 287 [(iV a1),(iV a2),(iV a3)] (bV r):=by
 refine pin (fun r=>(bV r)) r rfl Tryz.func287 rfl rfl rfl rfl rfl (fun w0 m0 hg=>?_)
 unfold M287 at h
 refine rn 15 rfl ?_
 refine spC h rfl (fun hb4 h=>?_) (fun hb4 h=>?_)
 ·refine rn 7 rfl ?_
  exact rt h rfl
 refine rn 5 rfl ?_
 refine spC h rfl (fun hb5 h=>?_) (fun hb5 h=>?_)
 ·refine rn 7 rfl ?_
  exact rt h rfl
 refine rn 5 rfl ?_
 refine spC h rfl (fun hb6 h=>?_) (fun hb6 h=>?_)
 ·refine rn 7 rfl ?_
  exact rt h rfl
 refine rn 5 rfl ?_
 refine spC h rfl (fun hb7 h=>?_) (fun hb7 h=>?_)
 ·refine rn 7 rfl ?_
  exact rt h rfl
 refine rn 9 rfl ?_
 exact rt h rfl
theorem W286(F:Nat)(a1:Tpolicy_condNumber)(a2:Tpolicy_values)(r:Int)(h:M286 F a1 a2=some r):Pure Tryz.prog 286 [(V.agg (encTpolicy_condNumber a1)),(V.agg (encTpolicy_values a2))] (iV r):=by
 refine pin (fun r=>(iV r)) r rfl Tryz.func286 rfl rfl rfl rfl rfl (fun w0 m0 hg=>?_)
 unfold M286 at h
 refine rn 3 rfl ?_
 refine aops_box (encTpolicy_values a2) wants_none rfl rfl (one_encTpolicy_values _) rfl ?_
 refine fo (rn 4 rfl ?_)
 refine aops_load_agg (cs:=(encTpolicy_values a2)) tA94 wants_none rfl rfl rfl rfl rfl (nd_encTpolicy_values _) rfl ?_
 obtain⟨y3,hx4,h⟩:=bind_some h
 refine fo (rn 2 rfl ?_)
 refine aops_call (V.tup [(V.agg (encTpolicy_value (y3.1))),(bV (y3.2))]) [(V.agg (encTpolicy_values a2)),(sV a1.name)] fOk281 wants_none (evm_cons rfl (evm_cons rfl evm_nil)) (.cons (Imm.agg (imms_encTpolicy_values _)) (.cons (Imm.con _) .nil)) (W281 F a2 a1.name y3 hx4) rfl ?_
 refine fo (rn 13 rfl ?_)
 refine spC h rfl (fun hb5 h=>?_) (fun hb5 h=>?_)
 ·refine rn 4 rfl ?_
  exact rt h rfl
 refine rn 6 rfl ?_
 refine spO 18 h rfl (fun hb6 h=>?_) (fun hb6 h=>?_)
 ·refine rn 6 rfl ?_
  refine cl h rfl rfl rfl (W287 _ _ _ _) rfl (fun y7 hx8 h=>?_)
  refine rn 1 rfl ?_
  refine cl h rfl rfl rfl (W72 _ _) rfl (fun y9 hx10 h=>?_)
  refine rn 2 rfl ?_
  exact rt h rfl
 refine rn 8 rfl ?_
 refine cl h rfl rfl rfl (W72 _ _) rfl (fun y11 hx12 h=>?_)
 refine rn 2 rfl ?_
 exact rt h rfl
theorem W50(F:Nat)(a1:Int)(r:Int)(h:M50 F a1=some r):Pure Tryz.prog 50 [(iV a1)] (iV r):=by
 refine pin (fun r=>(iV r)) r rfl Tryz.func50 rfl rfl rfl rfl rfl (fun w0 m0 hg=>?_)
 unfold M50 at h
 refine rn 15 rfl ?_
 refine spC h rfl (fun hb2 h=>?_) (fun hb2 h=>?_)
 ·refine rn 4 rfl ?_
  exact rt h rfl
 refine rn 5 rfl ?_
 refine spC h rfl (fun hb3 h=>?_) (fun hb3 h=>?_)
 ·refine rn 4 rfl ?_
  exact rt h rfl
 refine rn 6 rfl ?_
 exact rt h rfl
theorem W288 (Riholds:KV->Tpolicy_values->Option Int) (hRiholds:∀(k:KV) (a1:Tpolicy_values) (r:Int),Riholds k a1=some r->DispG [] Tryz.prog "provender/policy.holds" k [(V.agg (encTpolicy_values a1))] (iV r)) (F:Nat) (a1:Tpolicy_condNot) (a2:Tpolicy_values) (r:Int) (h:M288 Riholds F a1 a2=some r):Pure Tryz.prog 288 [(V.agg [(V.ifc a1.kid.t a1.kid.d)]),(V.agg (encTpolicy_values a2))] (iV r):=by
 refine pin (fun r=>(iV r)) r rfl Tryz.func288 rfl rfl rfl rfl rfl (fun w0 m0 hg=>?_)
 unfold M288 at h
 refine rn 3 rfl ?_
 refine aops_box (encTpolicy_values a2) wants_none rfl rfl (one_encTpolicy_values _) rfl ?_
 refine fo (rn 6 rfl ?_)
 refine aops_load_agg (cs:=(encTpolicy_values a2)) tA94 wants_none rfl rfl rfl rfl rfl (nd_encTpolicy_values _) rfl ?_
 obtain⟨y3,hx4,h⟩:=bind_some h
 refine aops_invokeD (iV y3) [(V.agg (encTpolicy_values a2))] wants_none rfl (evm_cons rfl evm_nil) (.cons (Imm.agg (imms_encTpolicy_values _)) .nil) (hRiholds a1.kid a2 _ hx4) rfl ?_
 refine fo ?_
 refine cl h rfl rfl rfl (W50 _ _) rfl (fun y5 hx6 h=>?_)
 refine rn 2 rfl ?_
 exact rt h rfl
theorem W289 (Riholds:KV->Tpolicy_values->Option Int) (hRiholds:∀(k:KV) (a1:Tpolicy_values) (r:Int),Riholds k a1=some r->DispG [] Tryz.prog "provender/policy.holds" k [(V.agg (encTpolicy_values a1))] (iV r)) (F:Nat) (a1:Tpolicy_condAll) (a2:Tpolicy_values) (r:Int) (h:M289 Riholds F a1 a2=some r):Pure Tryz.prog 289 [(V.agg [(V.lst 1 (a1.kids.map KV.enc))]),(V.agg (encTpolicy_values a2))] (iV r):=by
 refine pin (fun r=>(iV r)) r rfl Tryz.func289 rfl rfl rfl rfl rfl (fun w0 m0 hg=>?_)
 unfold M289 at h
 refine rn 3 rfl ?_
 refine aops_box (encTpolicy_values a2) wants_none rfl rfl (one_encTpolicy_values _) rfl ?_
 refine fo (rn 11 rfl ?_)
 refine ln rfl rfl ?_
 refine rn 2 rfl ?_
 refine jK h (fun(p:Int)=>(⟨[(5,(iV p))],[],0⟩:St)) (fun k3 p=>k3 p=some r) (fun k3 h=>?_) ?_
 ·refine rn 1 rfl ?_
  refine wl (A:=a1.kids) 9 rfl (fun hA18=>?_)
  refine lC (fun(p:Int×Int)=>(⟨[(3,(V.ptr 0 2 0 0)),(5,(iV (p.1))),(9,(V.lst 1 (a1.kids.map KV.enc))),(10,(iV ((a1.kids.length:Nat):Int))),(11,(iV (p.2)))],[(0,(Ob.arr 94 2 [(encTpolicy_values a2)]))],1⟩:St)) (fun n p=>RG a1.kids (fun tl nn=>M289_L1 Riholds F a2 k3 tl p.1=some r) n p.2) (fun p h=>RG.zero h) (a1.kids.length+1) (1,0) (RG.start h) (ghost_ren 1 (fun i=>([1]:List Nat).getD i 0) _ _ (by decide) (EnvSub.get (.cons (Sub.ptr rfl rfl) (.cons (Sub.imm (Imm.con _)) (.cons (Sub.imm (Imm.lst _ _)) (.cons (Sub.imm (Imm.con _)) (.cons (Sub.imm (Imm.con _)) .nil)))))) (HpSub.get (.cons rfl (ObSub.box (hd:=nd_encTpolicy_values _) (.cons (Sub.imm (Imm.imap _)) (.cons (Sub.imm (imm_optm _)) .nil))) .nil)) rfl) (fun n p h=>?_)
  obtain⟨n7,n8⟩:=p
  refine rn 5 rfl ?_
  refine spL rfl (fun hb9=>?_) (fun hb9=>?_)
  ·obtain⟨x10,tl,hx11,h,hk1⟩:=RG.t hA18 h hb9
   unfold M289_L1 at h
   refine rn 5 rfl ?_
   refine ixh hx11 rfl rfl ?_
   refine rn 6 rfl ?_
   refine aops_load_agg (cs:=(encTpolicy_values a2)) tA94 wants_none rfl rfl rfl rfl rfl (nd_encTpolicy_values _) rfl ?_
   obtain⟨y12,hx13,h⟩:=bind_some h
   refine aops_invokeD (iV y12) [(V.agg (encTpolicy_values a2))] wants_none rfl (evm_cons rfl evm_nil) (.cons (Imm.agg (imms_encTpolicy_values _)) .nil) (hRiholds x10 a2 _ hx13) rfl ?_
   refine fo (rn 7 rfl ?_)
   refine jK h (fun(p:Int)=>(⟨[(3,(V.ptr 0 2 0 0)),(5,(iV p)),(9,(V.lst 1 (a1.kids.map KV.enc))),(10,(iV ((a1.kids.length:Nat):Int))),(11,(iV n8))],[(0,(Ob.arr 94 2 [(encTpolicy_values a2)]))],1⟩:St)) (fun k14 p=>k14 p=some r) (fun k14 h=>?_) ?_
   ·refine spC h rfl (fun hb16 h=>?_) (fun hb16 h=>?_)
    ·refine rn 4 rfl ?_
     exact rt h rfl
    refine rn 5 rfl ?_
    refine spC h rfl (fun hb17 h=>?_) (fun hb17 h=>?_)
    ·refine rn 3 rfl ?_
     exact jX 0 h (ghost_ren 1 (fun i=>([0]:List Nat).getD i 0) _ _ (by decide) (EnvSub.get (.cons (Sub.ptr rfl rfl) (.cons (Sub.imm (Imm.con _)) (.cons (Sub.imm (Imm.lst _ _)) (.cons (Sub.imm (Imm.con _)) (.cons (Sub.imm (Imm.con _)) .nil)))))) (HpSub.get (.cons rfl (ObSub.box (hd:=nd_encTpolicy_values _) (.cons (Sub.imm (Imm.imap _)) (.cons (Sub.imm (imm_optm _)) .nil))) .nil)) rfl)
    refine rn 1 rfl ?_
    exact jX n7 h (ghost_ren 1 (fun i=>([0]:List Nat).getD i 0) _ _ (by decide) (EnvSub.get (.cons (Sub.ptr rfl rfl) (.cons (Sub.imm (Imm.con _)) (.cons (Sub.imm (Imm.lst _ _)) (.cons (Sub.imm (Imm.con _)) (.cons (Sub.imm (Imm.con _)) .nil)))))) (HpSub.get (.cons rfl (ObSub.box (hd:=nd_encTpolicy_values _) (.cons (Sub.imm (Imm.imap _)) (.cons (Sub.imm (imm_optm _)) .nil))) .nil)) rfl)
   intro n15 h
   refine rn 6 rfl ?_
   exact jX (n15,(w64 (n8+1))) (hk1 _ h) (ghost_ren 1 (fun i=>([0]:List Nat).getD i 0) _ _ (by decide) (EnvSub.get (.cons (Sub.ptr rfl rfl) (.cons (Sub.imm (Imm.con _)) (.cons (Sub.imm (Imm.lst _ _)) (.cons (Sub.imm (Imm.con _)) (.cons (Sub.imm (Imm.con _)) .nil)))))) (HpSub.get (.cons rfl (ObSub.box (hd:=nd_encTpolicy_values _) (.cons (Sub.imm (Imm.imap _)) (.cons (Sub.imm (imm_optm _)) .nil))) .nil)) rfl)
  replace h:=RG.f h hb9
  unfold M289_L1 at h
  refine rn 1 rfl ?_
  exact jX n7 h (g0 rfl rfl)
 intro n4 h
 refine rn 5 rfl ?_
 exact rt h rfl
theorem W290 (Riholds:KV->Tpolicy_values->Option Int) (hRiholds:∀(k:KV) (a1:Tpolicy_values) (r:Int),Riholds k a1=some r->DispG [] Tryz.prog "provender/policy.holds" k [(V.agg (encTpolicy_values a1))] (iV r)) (F:Nat) (a1:Tpolicy_condAny) (a2:Tpolicy_values) (r:Int) (h:M290 Riholds F a1 a2=some r):Pure Tryz.prog 290 [(V.agg [(V.lst 1 (a1.kids.map KV.enc))]),(V.agg (encTpolicy_values a2))] (iV r):=by
 refine pin (fun r=>(iV r)) r rfl Tryz.func290 rfl rfl rfl rfl rfl (fun w0 m0 hg=>?_)
 unfold M290 at h
 refine rn 3 rfl ?_
 refine aops_box (encTpolicy_values a2) wants_none rfl rfl (one_encTpolicy_values _) rfl ?_
 refine fo (rn 11 rfl ?_)
 refine ln rfl rfl ?_
 refine rn 2 rfl ?_
 refine jK h (fun(p:Int)=>(⟨[(5,(iV p))],[],0⟩:St)) (fun k3 p=>k3 p=some r) (fun k3 h=>?_) ?_
 ·refine rn 1 rfl ?_
  refine wl (A:=a1.kids) 9 rfl (fun hA18=>?_)
  refine lC (fun(p:Int×Int)=>(⟨[(3,(V.ptr 0 2 0 0)),(5,(iV (p.1))),(9,(V.lst 1 (a1.kids.map KV.enc))),(10,(iV ((a1.kids.length:Nat):Int))),(11,(iV (p.2)))],[(0,(Ob.arr 94 2 [(encTpolicy_values a2)]))],1⟩:St)) (fun n p=>RG a1.kids (fun tl nn=>M290_L1 Riholds F a2 k3 tl p.1=some r) n p.2) (fun p h=>RG.zero h) (a1.kids.length+1) (2,0) (RG.start h) (ghost_ren 1 (fun i=>([1]:List Nat).getD i 0) _ _ (by decide) (EnvSub.get (.cons (Sub.ptr rfl rfl) (.cons (Sub.imm (Imm.con _)) (.cons (Sub.imm (Imm.lst _ _)) (.cons (Sub.imm (Imm.con _)) (.cons (Sub.imm (Imm.con _)) .nil)))))) (HpSub.get (.cons rfl (ObSub.box (hd:=nd_encTpolicy_values _) (.cons (Sub.imm (Imm.imap _)) (.cons (Sub.imm (imm_optm _)) .nil))) .nil)) rfl) (fun n p h=>?_)
  obtain⟨n7,n8⟩:=p
  refine rn 5 rfl ?_
  refine spL rfl (fun hb9=>?_) (fun hb9=>?_)
  ·obtain⟨x10,tl,hx11,h,hk1⟩:=RG.t hA18 h hb9
   unfold M290_L1 at h
   refine rn 5 rfl ?_
   refine ixh hx11 rfl rfl ?_
   refine rn 6 rfl ?_
   refine aops_load_agg (cs:=(encTpolicy_values a2)) tA94 wants_none rfl rfl rfl rfl rfl (nd_encTpolicy_values _) rfl ?_
   obtain⟨y12,hx13,h⟩:=bind_some h
   refine aops_invokeD (iV y12) [(V.agg (encTpolicy_values a2))] wants_none rfl (evm_cons rfl evm_nil) (.cons (Imm.agg (imms_encTpolicy_values _)) .nil) (hRiholds x10 a2 _ hx13) rfl ?_
   refine fo (rn 7 rfl ?_)
   refine jK h (fun(p:Int)=>(⟨[(3,(V.ptr 0 2 0 0)),(5,(iV p)),(9,(V.lst 1 (a1.kids.map KV.enc))),(10,(iV ((a1.kids.length:Nat):Int))),(11,(iV n8))],[(0,(Ob.arr 94 2 [(encTpolicy_values a2)]))],1⟩:St)) (fun k14 p=>k14 p=some r) (fun k14 h=>?_) ?_
   ·refine spC h rfl (fun hb16 h=>?_) (fun hb16 h=>?_)
    ·refine rn 4 rfl ?_
     exact rt h rfl
    refine rn 5 rfl ?_
    refine spC h rfl (fun hb17 h=>?_) (fun hb17 h=>?_)
    ·refine rn 3 rfl ?_
     exact jX 0 h (ghost_ren 1 (fun i=>([0]:List Nat).getD i 0) _ _ (by decide) (EnvSub.get (.cons (Sub.ptr rfl rfl) (.cons (Sub.imm (Imm.con _)) (.cons (Sub.imm (Imm.lst _ _)) (.cons (Sub.imm (Imm.con _)) (.cons (Sub.imm (Imm.con _)) .nil)))))) (HpSub.get (.cons rfl (ObSub.box (hd:=nd_encTpolicy_values _) (.cons (Sub.imm (Imm.imap _)) (.cons (Sub.imm (imm_optm _)) .nil))) .nil)) rfl)
    refine rn 1 rfl ?_
    exact jX n7 h (ghost_ren 1 (fun i=>([0]:List Nat).getD i 0) _ _ (by decide) (EnvSub.get (.cons (Sub.ptr rfl rfl) (.cons (Sub.imm (Imm.con _)) (.cons (Sub.imm (Imm.lst _ _)) (.cons (Sub.imm (Imm.con _)) (.cons (Sub.imm (Imm.con _)) .nil)))))) (HpSub.get (.cons rfl (ObSub.box (hd:=nd_encTpolicy_values _) (.cons (Sub.imm (Imm.imap _)) (.cons (Sub.imm (imm_optm _)) .nil))) .nil)) rfl)
   intro n15 h
   refine rn 6 rfl ?_
   exact jX (n15,(w64 (n8+1))) (hk1 _ h) (ghost_ren 1 (fun i=>([0]:List Nat).getD i 0) _ _ (by decide) (EnvSub.get (.cons (Sub.ptr rfl rfl) (.cons (Sub.imm (Imm.con _)) (.cons (Sub.imm (Imm.lst _ _)) (.cons (Sub.imm (Imm.con _)) (.cons (Sub.imm (Imm.con _)) .nil)))))) (HpSub.get (.cons rfl (ObSub.box (hd:=nd_encTpolicy_values _) (.cons (Sub.imm (Imm.imap _)) (.cons (Sub.imm (imm_optm _)) .nil))) .nil)) rfl)
  replace h:=RG.f h hb9
  unfold M290_L1 at h
  refine rn 1 rfl ?_
  exact jX n7 h (g0 rfl rfl)
 intro n4 h
 refine rn 5 rfl ?_
 exact rt h rfl
theorem W291(F:Nat)(a1:Tpolicy_condTrue)(a2:Tpolicy_values)(r:Int)(h:M291 F a1 a2=some r):Pure Tryz.prog 291 [(V.agg []),(V.agg (encTpolicy_values a2))] (iV r):=by
 refine pin (fun r=>(iV r)) r rfl Tryz.func291 rfl rfl rfl rfl rfl (fun w0 m0 hg=>?_)
 unfold M291 at h
 refine rn 3 rfl ?_
 refine aops_box (encTpolicy_values a2) wants_none rfl rfl (one_encTpolicy_values _) rfl ?_
 refine fo (rn 6 rfl ?_)
 exact rt h rfl
theorem Wiholds_B (Riholds:KV->Tpolicy_values->Option Int) (hRiholds:∀(k:KV) (a1:Tpolicy_values) (r:Int),Riholds k a1=some r->DispG [] Tryz.prog "provender/policy.holds" k [(V.agg (encTpolicy_values a1))] (iV r)) (F:Nat) (k:KV) (a1:Tpolicy_values) (r:Int) (h:Miholds_B Riholds F k a1=some r):DispG [] Tryz.prog "provender/policy.holds" k [(V.agg (encTpolicy_values a1))] (iV r):=by
 unfold Miholds_B at h
 refine oeK h (fun y hy h=>disp_of tM147_iholds hy (W282 F y a1 r h)) (fun h=>?_)
 refine oeK h (fun y hy h=>disp_of tM148_iholds hy (W283 F y a1 r h)) (fun h=>?_)
 refine oeK h (fun y hy h=>disp_of tM150_iholds hy (W285 F y a1 r h)) (fun h=>?_)
 refine oeK h (fun y hy h=>disp_of tM152_iholds hy (W286 F y a1 r h)) (fun h=>?_)
 refine oeK h (fun y hy h=>disp_of tM154_iholds hy (W288 Riholds hRiholds F y a1 r h)) (fun h=>?_)
 refine oeK h (fun y hy h=>disp_of tM156_iholds hy (W289 Riholds hRiholds F y a1 r h)) (fun h=>?_)
 refine oeK h (fun y hy h=>disp_of tM157_iholds hy (W290 Riholds hRiholds F y a1 r h)) (fun h=>?_)
 refine oeK h (fun y hy h=>disp_of tM159_iholds hy (W291 F y a1 r h)) (fun h=>?_)
 cases h
theorem Wiholds:∀(F:Nat) (k:KV) (a1:Tpolicy_values) (r:Int) (h:Miholds F k a1=some r),DispG [] Tryz.prog "provender/policy.holds" k [(V.agg (encTpolicy_values a1))] (iV r):=by
 intro F
 induction F with
 |zero=>intros;simp[Miholds] at *
 |succ F ih=>exact fun k a1 r h=>Wiholds_B (Miholds F) ih F k a1 r h
theorem W58(F:Nat)(a1:(List KV))(a2:Int)(a3:Tpolicy_values)(r:Int)(h:M58 F a1 a2 a3=some r):Pure Tryz.prog 58 [(V.lst 1 (a1.map KV.enc)),(iV a2),(V.agg (encTpolicy_values a3))] (iV r):=by
 refine pin (fun r=>(iV r)) r rfl Tryz.func58 rfl rfl rfl rfl rfl (fun w0 m0 hg=>?_)
 unfold M58 at h
 refine rn 2 rfl ?_
 refine aops_box (encTpolicy_values a3) wants_none rfl rfl (one_encTpolicy_values _) rfl ?_
 refine fo (rn 12 rfl ?_)
 refine ck h (fun hc4 h=>?_)
 refine aops_slice_lst (0) ((w64 (a2+1)).toNat) ((a1.take (w64 (a2+1)).toNat).map KV.enc) tSl109 wants_none rfl rfl ⟨_,(by rw[Int.toNat_of_nonneg hc4.1];exact rfl)⟩ (Nat.zero_le _) (by simpa using hc4.2) slL_lo rfl ?_
 refine fo ?_
 refine ln rfl rfl ?_
 refine rn 2 rfl ?_
 refine jK h (fun(p:Int)=>(⟨[(7,(iV p))],[],0⟩:St)) (fun k5 p=>k5 p=some r) (fun k5 h=>?_) ?_
 ·refine rn 1 rfl ?_
  refine wl (A:=(a1.take (w64 (a2+1)).toNat)) 14 rfl (fun hA25=>?_)
  refine lC (fun(p:Int×Int)=>(⟨[(1,(iV a2)),(5,(V.ptr 0 2 0 0)),(7,(iV (p.1))),(14,(V.lst 1 ((a1.take (w64 (a2+1)).toNat).map KV.enc))),(15,(iV (((a1.take (w64 (a2+1)).toNat).length:Nat):Int))),(16,(iV (p.2)))],[(0,(Ob.arr 94 2 [(encTpolicy_values a3)]))],1⟩:St)) (fun n p=>RG (a1.take (w64 (a2+1)).toNat) (fun tl nn=>M58_L1 F a2 a3 k5 tl nn p.1=some r) n p.2) (fun p h=>RG.zero h) ((a1.take (w64 (a2+1)).toNat).length+1) (1,0) (RG.start h) (ghost_ren 1 (fun i=>([0]:List Nat).getD i 0) _ _ (by decide) (EnvSub.get (.cons (Sub.imm (Imm.con _)) (.cons (Sub.ptr rfl rfl) (.cons (Sub.imm (Imm.con _)) (.cons (Sub.imm (Imm.lst _ _)) (.cons (Sub.imm (Imm.con _)) (.cons (Sub.imm (Imm.con _)) .nil))))))) (HpSub.get (.cons rfl (ObSub.box (hd:=nd_encTpolicy_values _) (.cons (Sub.imm (Imm.imap _)) (.cons (Sub.imm (imm_optm _)) .nil))) .nil)) rfl) (fun n p h=>?_)
  obtain⟨n9,n10⟩:=p
  refine rn 5 rfl ?_
  refine spL rfl (fun hb11=>?_) (fun hb11=>?_)
  ·obtain⟨x12,tl,hx13,h,hk1⟩:=RG.t hA25 h hb11
   unfold M58_L1 at h
   refine rn 6 rfl ?_
   refine ixh hx13 rfl rfl ?_
   refine rn 7 rfl ?_
   refine aops_load_agg (cs:=(encTpolicy_values a3)) tA94 wants_none rfl rfl rfl rfl rfl (nd_encTpolicy_values _) rfl ?_
   obtain⟨y14,hx15,h⟩:=bind_some h
   refine aops_invokeD (iV y14) [(V.agg (encTpolicy_values a3))] wants_none rfl (evm_cons rfl evm_nil) (.cons (Imm.agg (imms_encTpolicy_values _)) .nil) (Wiholds F x12 a3 _ hx15) rfl ?_
   refine fo (rn 9 rfl ?_)
   refine jK h (fun(p:Int)=>(⟨[(1,(iV a2)),(5,(V.ptr 0 2 0 0)),(7,(iV n9)),(10,(iV p)),(14,(V.lst 1 ((a1.take (w64 (a2+1)).toNat).map KV.enc))),(15,(iV (((a1.take (w64 (a2+1)).toNat).length:Nat):Int))),(16,(iV n10))],[(0,(Ob.arr 94 2 [(encTpolicy_values a3)]))],1⟩:St)) (fun k16 p=>k16 p=some r) (fun k16 h=>?_) ?_
   ·refine spC h rfl (fun hb18 h=>?_) (fun hb18 h=>?_)
    ·refine rn 2 rfl ?_
     refine cl h rfl rfl rfl (W50 _ _) rfl (fun y19 hx20 h=>?_)
     refine rn 2 rfl ?_
     exact jX y19 h (ghost_ren 1 (fun i=>([0]:List Nat).getD i 0) _ _ (by decide) (EnvSub.get (.cons (Sub.imm (Imm.con _)) (.cons (Sub.ptr rfl rfl) (.cons (Sub.imm (Imm.con _)) (.cons (Sub.imm (Imm.con _)) (.cons (Sub.imm (Imm.lst _ _)) (.cons (Sub.imm (Imm.con _)) (.cons (Sub.imm (Imm.con _)) .nil)))))))) (HpSub.get (.cons rfl (ObSub.box (hd:=nd_encTpolicy_values _) (.cons (Sub.imm (Imm.imap _)) (.cons (Sub.imm (imm_optm _)) .nil))) .nil)) rfl)
    refine rn 1 rfl ?_
    exact jX y14 h (ghost_ren 1 (fun i=>([0]:List Nat).getD i 0) _ _ (by decide) (EnvSub.get (.cons (Sub.imm (Imm.con _)) (.cons (Sub.ptr rfl rfl) (.cons (Sub.imm (Imm.con _)) (.cons (Sub.imm (Imm.con _)) (.cons (Sub.imm (Imm.lst _ _)) (.cons (Sub.imm (Imm.con _)) (.cons (Sub.imm (Imm.con _)) .nil)))))))) (HpSub.get (.cons rfl (ObSub.box (hd:=nd_encTpolicy_values _) (.cons (Sub.imm (Imm.imap _)) (.cons (Sub.imm (imm_optm _)) .nil))) .nil)) rfl)
   intro n17 h
   refine rn 10 rfl ?_
   refine jK h (fun(p:Int)=>(⟨[(1,(iV a2)),(5,(V.ptr 0 2 0 0)),(7,(iV p)),(14,(V.lst 1 ((a1.take (w64 (a2+1)).toNat).map KV.enc))),(15,(iV (((a1.take (w64 (a2+1)).toNat).length:Nat):Int))),(16,(iV n10))],[(0,(Ob.arr 94 2 [(encTpolicy_values a3)]))],1⟩:St)) (fun k21 p=>k21 p=some r) (fun k21 h=>?_) ?_
   ·refine spC h rfl (fun hb23 h=>?_) (fun hb23 h=>?_)
    ·refine rn 4 rfl ?_
     exact rt h rfl
    refine rn 5 rfl ?_
    refine spC h rfl (fun hb24 h=>?_) (fun hb24 h=>?_)
    ·refine rn 3 rfl ?_
     exact jX 0 h (ghost_ren 1 (fun i=>([0]:List Nat).getD i 0) _ _ (by decide) (EnvSub.get (.cons (Sub.imm (Imm.con _)) (.cons (Sub.ptr rfl rfl) (.cons (Sub.imm (Imm.con _)) (.cons (Sub.imm (Imm.lst _ _)) (.cons (Sub.imm (Imm.con _)) (.cons (Sub.imm (Imm.con _)) .nil))))))) (HpSub.get (.cons rfl (ObSub.box (hd:=nd_encTpolicy_values _) (.cons (Sub.imm (Imm.imap _)) (.cons (Sub.imm (imm_optm _)) .nil))) .nil)) rfl)
    refine rn 1 rfl ?_
    exact jX n9 h (ghost_ren 1 (fun i=>([0]:List Nat).getD i 0) _ _ (by decide) (EnvSub.get (.cons (Sub.imm (Imm.con _)) (.cons (Sub.ptr rfl rfl) (.cons (Sub.imm (Imm.con _)) (.cons (Sub.imm (Imm.lst _ _)) (.cons (Sub.imm (Imm.con _)) (.cons (Sub.imm (Imm.con _)) .nil))))))) (HpSub.get (.cons rfl (ObSub.box (hd:=nd_encTpolicy_values _) (.cons (Sub.imm (Imm.imap _)) (.cons (Sub.imm (imm_optm _)) .nil))) .nil)) rfl)
   intro n22 h
   refine rn 6 rfl ?_
   exact jX (n22,(w64 (n10+1))) (hk1 _ h) (ghost_ren 1 (fun i=>([0]:List Nat).getD i 0) _ _ (by decide) (EnvSub.get (.cons (Sub.imm (Imm.con _)) (.cons (Sub.ptr rfl rfl) (.cons (Sub.imm (Imm.con _)) (.cons (Sub.imm (Imm.lst _ _)) (.cons (Sub.imm (Imm.con _)) (.cons (Sub.imm (Imm.con _)) .nil))))))) (HpSub.get (.cons rfl (ObSub.box (hd:=nd_encTpolicy_values _) (.cons (Sub.imm (Imm.imap _)) (.cons (Sub.imm (imm_optm _)) .nil))) .nil)) rfl)
  replace h:=RG.f h hb11
  unfold M58_L1 at h
  refine rn 1 rfl ?_
  exact jX n9 h (g0 rfl rfl)
 intro n6 h
 refine rn 5 rfl ?_
 exact rt h rfl
theorem W57(F:Nat)(a1:Tpolicy_values)(a2:List KV)(a3:Int)(r:Int)(h:M57 F a1 a2 a3=some r):Pure Tryz.prog 57 [(V.agg (encTpolicy_values a1)),(V.iptr [(V.lst 1 (a2.map KV.enc))] 0),(V.iptr [(iV a3)] 0)] (iV r):=by
 refine pin (fun r=>(iV r)) r rfl Tryz.func57 rfl rfl rfl rfl rfl (fun w0 m0 hg=>?_)
 unfold M57 at h
 refine rn 2 rfl ?_
 refine aops_box (encTpolicy_values a1) wants_none rfl rfl (one_encTpolicy_values _) rfl ?_
 refine fo (rn 6 rfl ?_)
 refine aops_load_agg (cs:=(encTpolicy_values a1)) tA94 wants_none rfl rfl rfl rfl rfl (nd_encTpolicy_values _) rfl ?_
 obtain⟨y4,hx5,h⟩:=bind_some h
 refine aops_call (iV y4) [(V.lst 1 (a2.map KV.enc)),(iV a3),(V.agg (encTpolicy_values a1))] fOk58 wants_none (evm_cons rfl (evm_cons rfl (evm_cons rfl evm_nil))) (.cons (Imm.lst _ _) (.cons (Imm.con _) (.cons (Imm.agg (imms_encTpolicy_values _)) .nil))) (W58 F a2 a3 a1 y4 hx5) rfl ?_
 refine fo (rn 2 rfl ?_)
 exact rt h rfl
end Go.Proofs.YtelmfadihfcgnaaGreatDoor
