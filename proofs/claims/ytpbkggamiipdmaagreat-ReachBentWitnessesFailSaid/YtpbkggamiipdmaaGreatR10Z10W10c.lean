/- Part of the proof: Z10W10c. -/
import Derived.Test.YtpbkggamiipdmaaGreatR10Z10M
import Derived.Test.YtpbkggamiipdmaaGreatR10Z10W10b
import Derived.Test.YtpbkggamiipdmaaGreatR10Z10W10a
import Derived.KernelRfl
namespace Go.Proofs.YtpbkggamiipdmaaGreat
open Go Go.Pv
set_option linter.unusedVariables false
set_option maxRecDepth 100000
theorem W40(F:Nat)(a1:q7c)(a2:Int)(a3:(List B8))(a4:B8)(a5:q3e)(r:(Bool×Int))(h:M40 F a1 a2 a3 a4 a5=some r):q5n Tryz.prog 40 [(V.agg (q3d a1)),(iV a2),(V.lst 1 (a3.map q6f)),(sV a4),(V.agg (q0d a5))] (V.tup [(bV (r.1)),(iV (r.2))]):=by
 refine pin (fun r=>(V.tup [(bV (r.1)),(iV (r.2))])) r rfl Tryz.func40 rfl rfl rfl rfl rfl (fun w0 m0 hg=>?_)
 unfold M40 at h
 refine rn 14 rfl ?_
 refine q9e [(0,(sV a4))] [[(sV a4)]] z7c tZ9 rfl rfl rfl rfl q7a (q7g rfl q5i) rfl rfl (by simp) rfl ?_
 obtain⟨y6,hx7,h⟩:=bind_some h
 refine q6p (iV y6) [(V.agg (q3d a1)),(iV a2),(V.lst 1 (a3.map q6f)),(V.lst 1 (([a4]:List B8).map q6f))] w3t (z0t 2 34 rfl (q7j (.cons (.cons (Imm.con _) .nil) .nil)) rfl rfl) (v9v.con _) q7a (q4f rfl (q4f rfl (q4f rfl (q4f rfl q8k)))) (.cons (Imm.agg (q1y _)) (.cons (Imm.con _) (.cons (Imm.lst _ _) (.cons (Imm.lst _ _) .nil)))) (W101 F a1 a2 a3 ([a4]:List B8) y6 hx7) rfl ?_
 refine fo (rn 7 rfl ?_)
 refine spC h rfl (fun hb8 h=>?_) (fun hb8 h=>?_)
 ·refine rn 6 rfl ?_
  exact rt h rfl
 refine rn 5 rfl ?_
 refine cl h rfl rfl rfl (W83 _ _ _) rfl (fun y9 hx10 h=>?_)
 refine rn 12 rfl ?_
 refine ln rfl rfl ?_
 refine rn 2 rfl ?_
 refine jK h (fun(p:Bool)=>(⟨[(1,(iV a2)),(3,(sV a4)),(9,(V.ptr 0 3 0 0)),(13,(V.ptr 1 6 0 0)),(14,(bV p))],[(0,(Ob.arr 61 3 [(q0d a5)])),(1,(Ob.arr 155 6 [(q3a y9)]))],2⟩:St)) (fun k11 p=>k11 p=some r) (fun k11 h=>?_) ?_
 ·refine rn 1 rfl ?_
  refine wl (A:=a1.Entries) 43 rfl (fun hA23=>?_)
  refine lC (fun(p:Bool×Int)=>(⟨[(1,(iV a2)),(3,(sV a4)),(9,(V.ptr 0 3 0 0)),(13,(V.ptr 1 6 0 0)),(14,(bV (p.1))),(43,(V.lst 1 (a1.Entries.map q6f))),(44,(iV ((a1.Entries.length:Nat):Int))),(45,(iV (p.2)))],[(0,(Ob.arr 61 3 [(q0d a5)])),(1,(Ob.arr 155 6 [(q3a y9)]))],2⟩:St)) (fun n p=>RG a1.Entries (fun tl nn=>z7x F a5 k11 tl p.1=some r) n p.2) (fun p h=>RG.zero h) (a1.Entries.length+1) (false,0) (RG.start h) (gr [1,3] rfl (hB rfl rfl rfl (hB rfl rfl rfl .nil)) rfl) (fun n p h=>?_)
  obtain⟨b15,n16⟩:=p
  refine rn 5 rfl ?_
  refine spL rfl (fun hb17=>?_) (fun hb17=>?_)
  ·obtain⟨x20,tl,hx21,h,hk1⟩:=RG.t hA23 h hb17
   unfold z7x at h
   refine rn 2 rfl ?_
   refine jK h (fun(p:Bool)=>(⟨[(1,(iV a2)),(3,(sV a4)),(9,(V.ptr 0 3 0 0)),(13,(V.ptr 1 6 0 0)),(14,(bV p)),(43,(V.lst 1 (a1.Entries.map q6f))),(44,(iV ((a1.Entries.length:Nat):Int))),(45,(iV n16))],[(0,(Ob.arr 61 3 [(q0d a5)])),(1,(Ob.arr 155 6 [(q3a y9)]))],2⟩:St)) (fun k18 p=>k18 p=some r) (fun k18 h=>?_) ?_
   ·refine rn 3 rfl ?_
    refine ixh hx21 rfl rfl ?_
    refine rn 6 rfl ?_
    refine spO 50 h rfl (fun hb22 h=>?_) (fun hb22 h=>?_)
    ·refine rn 8 rfl ?_
     exact jX true h (gr [0,1] rfl (hB rfl rfl rfl (hB rfl rfl rfl .nil)) rfl)
    refine rn 8 rfl ?_
    exact jX (x20==a5.Entry) h (gr [0,1] rfl (hB rfl rfl rfl (hB rfl rfl rfl .nil)) rfl)
   intro b19 h
   refine rn 4 rfl ?_
   exact jX (b19,(w64 (n16+1))) (hk1 _ h) (gr [0,1] rfl (hB rfl rfl rfl (hB rfl rfl rfl .nil)) rfl)
  replace h:=RG.f h hb17
  unfold z7x at h
  refine rn 1 rfl ?_
  exact jX b15 h (gr [0,1] rfl (hB rfl rfl rfl (hB rfl rfl rfl .nil)) rfl)
 intro b12 h
 refine rn 2 rfl ?_
 refine bs h (fun hb24 h=>?_) (fun hb24 h=>?_)
 ·refine dr mixed (vs 2 rfl (vb hb24 rfl (vs 19 rfl .nil))) (by kernel_rfl) ?_
  refine rn 6 rfl ?_
  exact rt h rfl
 refine bs h (fun hb25 h=>?_) (fun hb25 h=>?_)
 ·refine bs h (fun hb26 h=>?_) (fun hb26 h=>?_)
  ·refine dr mixed (vs 2 rfl (vb hb24 rfl (vs 2 rfl (vb hb25 rfl (vs 2 rfl (nD rfl rfl rfl (vs 3 rfl (vb hb26 rfl (vs 9 rfl .nil))))))))) (by kernel_rfl) ?_
   refine rn 6 rfl ?_
   exact rt h rfl
  obtain⟨y27,hx28,h⟩:=bind_some h
  obtain⟨y29,hx30,h⟩:=bind_some h
  refine dr mixed (vs 2 rfl (vb hb24 rfl (vs 2 rfl (vb hb25 rfl (vs 2 rfl (nD rfl rfl rfl (vs 3 rfl (vb hb26 rfl (vs 3 rfl (cD rfl rfl rfl rfl (W102 _ _ _ _ hx28) rfl (vs 2 rfl (cD rfl rfl rfl rfl (W116 _ _ _ _ _ hx30) rfl (vs 2 rfl .nil))))))))))))) (by kernel_rfl) ?_
  refine spC h rfl (fun hb31 h=>?_) (fun hb31 h=>?_)
  ·refine rn 5 rfl ?_
   exact rt h rfl
  refine rn 5 rfl ?_
  refine ln rfl rfl ?_
  refine ck h (fun hc32 h=>?_)
  refine q8n (ln:=(List.replicate (((a5.Made.length:Nat):Int)).toNat (false:Bool)).length) ((List.replicate (((a5.Made.length:Nat):Int)).toNat (false:Bool)).map q9h) j7m tZ4 rfl rfl hc32 List.map_replicate List.length_replicate q7a rfl rfl ?_
  refine fo (rn 13 rfl ?_)
  refine ln rfl rfl ?_
  refine rn 2 rfl ?_
  refine jK h (fun(p:B8×(List Bool))=>(⟨[(3,(sV a4)),(17,(V.own 0 (p.2).length)),(18,(sV (p.1)))],[(0,(Ob.arr 4 1 ((p.2).map q9h)))],1⟩:St)) (fun k33 p=>k33 p.1 p.2=some r) (fun k33 h=>?_) ?_
  ·refine rn 1 rfl ?_
   refine wl (A:=a5.Hops) 86 rfl (fun hA121=>?_)
   refine lC (fun(p:B8×Int×(List Bool))=>(⟨[(1,(iV a2)),(3,(sV a4)),(9,(V.ptr 0 3 0 0)),(13,(V.ptr 1 6 0 0)),(17,(V.own 2 (p.2.2).length)),(18,(sV (p.1))),(86,(V.lst 3 (a5.Hops.map q3c))),(87,(iV ((a5.Hops.length:Nat):Int))),(88,(iV (p.2.1)))],[(0,(Ob.arr 61 3 [(q0d a5)])),(1,(Ob.arr 155 6 [(q3a y9)])),(2,(Ob.arr 4 1 ((p.2.2).map q9h)))],3⟩:St)) (fun n p=>RG a5.Hops (fun tl nn=>j2j F a5 y9 k33 tl p.1 p.2.2=some r) n p.2.1) (fun p h=>RG.zero h) (a5.Hops.length+1) (a5.Entry,0,(List.replicate (((a5.Made.length:Nat):Int)).toNat (false:Bool))) (RG.start h) (gr [0,1,2] rfl (hB rfl rfl rfl (hB rfl rfl rfl (hR rfl rfl .nil))) rfl) (fun n p h=>?_)
   obtain⟨s39,n40,l41⟩:=p
   refine rn 5 rfl ?_
   refine spL rfl (fun hb42=>?_) (fun hb42=>?_)
   ·obtain⟨x46,tl,hx47,h,hk2⟩:=RG.t hA121 h hb42
    unfold j2j at h
    refine rn 2 rfl ?_
    refine jK h (fun(p:B8×(List Bool))=>(⟨[(1,(iV a2)),(3,(sV a4)),(9,(V.ptr 0 3 0 0)),(13,(V.ptr 1 6 0 0)),(17,(V.own 2 (p.2).length)),(18,(sV (p.1))),(86,(V.lst 3 (a5.Hops.map q3c))),(87,(iV ((a5.Hops.length:Nat):Int))),(88,(iV n40))],[(0,(Ob.arr 61 3 [(q0d a5)])),(1,(Ob.arr 155 6 [(q3a y9)])),(2,(Ob.arr 4 1 ((p.2).map q9h)))],3⟩:St)) (fun k43 p=>k43 p.1 p.2=some r) (fun k43 h=>?_) ?_
    ·refine rn 3 rfl ?_
     refine ixh hx47 rfl rfl ?_
     refine rn 13 rfl ?_
     refine spC h rfl (fun hb48 h=>?_) (fun hb48 h=>?_)
     ·refine rn 5 rfl ?_
      exact rt h rfl
     refine rn 11 rfl ?_
     refine q7d _ (V.lst 3 (([]:(List q0a)).map q6a)) (V.lst 3 (((q6b y9.links s39).getD ([]:(List q0a))).map q6a)) z5l q6h j6m (fun _=>.nil _ _ _) q7a rfl .imm (.con rfl) ⟨_,rfl⟩ q5p (q4p y9.links s39) (q1f (q3n) (q6b y9.links s39) ([]:(List q0a))) rfl ?_
     refine fo ?_
     refine ln rfl rfl ?_
     refine rn 2 rfl ?_
     refine jK h (fun(p:Bool×(List Bool))=>(⟨[(1,(iV a2)),(3,(sV a4)),(9,(V.ptr 0 3 0 0)),(13,(V.ptr 1 6 0 0)),(17,(V.own 2 (p.2).length)),(20,(V.ptr 3 3 0 0)),(21,(bV (p.1))),(86,(V.lst 3 (a5.Hops.map q3c))),(87,(iV ((a5.Hops.length:Nat):Int))),(88,(iV n40))],[(0,(Ob.arr 61 3 [(q0d a5)])),(1,(Ob.arr 155 6 [(q3a y9)])),(2,(Ob.arr 4 1 ((p.2).map q9h))),(3,(Ob.arr 80 3 [(q3c x46)]))],4⟩:St)) (fun k49 p=>k49 p.1 p.2=some r) (fun k49 h=>?_) ?_
     ·refine rn 1 rfl ?_
      refine wl (A:=((q6b y9.links s39).getD ([]:(List q0a)))) 100 rfl (fun hA119=>?_)
      refine lC (fun(p:Bool×Int×(List Bool))=>(⟨[(1,(iV a2)),(3,(sV a4)),(9,(V.ptr 0 3 0 0)),(13,(V.ptr 1 6 0 0)),(17,(V.own 2 (p.2.2).length)),(20,(V.ptr 3 3 0 0)),(21,(bV (p.1))),(86,(V.lst 3 (a5.Hops.map q3c))),(87,(iV ((a5.Hops.length:Nat):Int))),(88,(iV n40)),(100,(V.lst 3 (((q6b y9.links s39).getD ([]:(List q0a))).map q6a))),(101,(iV ((((q6b y9.links s39).getD ([]:(List q0a))).length:Nat):Int))),(102,(iV (p.2.1)))],[(0,(Ob.arr 61 3 [(q0d a5)])),(1,(Ob.arr 155 6 [(q3a y9)])),(2,(Ob.arr 4 1 ((p.2.2).map q9h))),(3,(Ob.arr 80 3 [(q3c x46)]))],4⟩:St)) (fun n p=>RG ((q6b y9.links s39).getD ([]:(List q0a))) (fun tl nn=>z6x F a5 x46 k49 tl p.1 p.2.2=some r) n p.2.1) (fun p h=>RG.zero h) (((q6b y9.links s39).getD ([]:(List q0a))).length+1) (false,0,l41) (RG.start h) (gr [0,1,2,3] rfl (hB rfl rfl rfl (hB rfl rfl rfl (hR rfl rfl (hB rfl rfl rfl .nil)))) rfl) (fun n p h=>?_)
      obtain⟨b55,n56,l57⟩:=p
      refine rn 5 rfl ?_
      refine spL rfl (fun hb58=>?_) (fun hb58=>?_)
      ·obtain⟨x62,tl,hx63,h,hk3⟩:=RG.t hA119 h hb58
       unfold z6x at h
       refine rn 2 rfl ?_
       refine jK h (fun(p:Bool×(List Bool))=>(⟨[(1,(iV a2)),(3,(sV a4)),(9,(V.ptr 0 3 0 0)),(13,(V.ptr 1 6 0 0)),(17,(V.own 2 (p.2).length)),(20,(V.ptr 3 3 0 0)),(21,(bV (p.1))),(86,(V.lst 3 (a5.Hops.map q3c))),(87,(iV ((a5.Hops.length:Nat):Int))),(88,(iV n40)),(100,(V.lst 3 (((q6b y9.links s39).getD ([]:(List q0a))).map q6a))),(101,(iV ((((q6b y9.links s39).getD ([]:(List q0a))).length:Nat):Int))),(102,(iV n56))],[(0,(Ob.arr 61 3 [(q0d a5)])),(1,(Ob.arr 155 6 [(q3a y9)])),(2,(Ob.arr 4 1 ((p.2).map q9h))),(3,(Ob.arr 80 3 [(q3c x46)]))],4⟩:St)) (fun k59 p=>k59 p.1 p.2=some r) (fun k59 h=>?_) ?_
       ·refine rn 3 rfl ?_
        refine ixh hx63 rfl rfl ?_
        refine rn 11 rfl ?_
        refine v3r true (xs:=w9i x62.site) (ys:=w9i x46.Site) (b:=(decide (x62.site=x46.Site))) eqk70 ⟨_,rfl⟩ ⟨_,rfl⟩ (eq_b w9i _ _ (v6p _ _)) w2r q7a rfl rfl rfl ?_
        refine fo (rn 1 rfl ?_)
        refine spC h rfl (fun hb64 h=>?_) (fun hb64 h=>?_)
        ·refine rn 1 rfl ?_
         exact jX (b55,l57) h (gr [0,1,2,3] rfl (hB rfl rfl rfl (hB rfl rfl rfl (hR rfl rfl (hB rfl rfl rfl .nil)))) rfl)
        refine rn 5 rfl ?_
        refine ln rfl rfl ?_
        refine rn 2 rfl ?_
        refine jK h (fun(p:Bool×(List Bool))=>(⟨[(1,(iV a2)),(3,(sV a4)),(9,(V.ptr 0 3 0 0)),(13,(V.ptr 1 6 0 0)),(17,(V.own 2 (p.2).length)),(20,(V.ptr 3 3 0 0)),(21,(bV (p.1))),(86,(V.lst 3 (a5.Hops.map q3c))),(87,(iV ((a5.Hops.length:Nat):Int))),(88,(iV n40)),(100,(V.lst 3 (((q6b y9.links s39).getD ([]:(List q0a))).map q6a))),(101,(iV ((((q6b y9.links s39).getD ([]:(List q0a))).length:Nat):Int))),(102,(iV n56))],[(0,(Ob.arr 61 3 [(q0d a5)])),(1,(Ob.arr 155 6 [(q3a y9)])),(2,(Ob.arr 4 1 ((p.2).map q9h))),(3,(Ob.arr 80 3 [(q3c x46)]))],4⟩:St)) (fun k65 p=>k65 p.1 p.2=some r) (fun k65 h=>?_) ?_
        ·refine rn 1 rfl ?_
         refine wl (A:=x62.aims) 112 rfl (fun hA118=>?_)
         refine lC (fun(p:Bool×Int×(List Bool))=>(⟨[(1,(iV a2)),(3,(sV a4)),(9,(V.ptr 0 3 0 0)),(13,(V.ptr 1 6 0 0)),(17,(V.own 2 (p.2.2).length)),(20,(V.ptr 3 3 0 0)),(21,(bV (p.1))),(86,(V.lst 3 (a5.Hops.map q3c))),(87,(iV ((a5.Hops.length:Nat):Int))),(88,(iV n40)),(100,(V.lst 3 (((q6b y9.links s39).getD ([]:(List q0a))).map q6a))),(101,(iV ((((q6b y9.links s39).getD ([]:(List q0a))).length:Nat):Int))),(102,(iV n56)),(112,(V.lst 2 (x62.aims.map q0b))),(113,(iV ((x62.aims.length:Nat):Int))),(114,(iV (p.2.1)))],[(0,(Ob.arr 61 3 [(q0d a5)])),(1,(Ob.arr 155 6 [(q3a y9)])),(2,(Ob.arr 4 1 ((p.2.2).map q9h))),(3,(Ob.arr 80 3 [(q3c x46)]))],4⟩:St)) (fun n p=>RG x62.aims (fun tl nn=>z5r F a5 x46 k65 tl p.1 p.2.2=some r) n p.2.1) (fun p h=>RG.zero h) (x62.aims.length+1) (b55,0,l57) (RG.start h) (gr [0,1,2,3] rfl (hB rfl rfl rfl (hB rfl rfl rfl (hR rfl rfl (hB rfl rfl rfl .nil)))) rfl) (fun n p h=>?_)
         obtain⟨b71,n72,l73⟩:=p
         refine rn 5 rfl ?_
         refine spL rfl (fun hb74=>?_) (fun hb74=>?_)
         ·obtain⟨x78,tl,hx79,h,hk4⟩:=RG.t hA118 h hb74
          unfold z5r at h
          refine rn 2 rfl ?_
          refine jK h (fun(p:Bool×(List Bool))=>(⟨[(1,(iV a2)),(3,(sV a4)),(9,(V.ptr 0 3 0 0)),(13,(V.ptr 1 6 0 0)),(17,(V.own 2 (p.2).length)),(20,(V.ptr 3 3 0 0)),(21,(bV (p.1))),(86,(V.lst 3 (a5.Hops.map q3c))),(87,(iV ((a5.Hops.length:Nat):Int))),(88,(iV n40)),(100,(V.lst 3 (((q6b y9.links s39).getD ([]:(List q0a))).map q6a))),(101,(iV ((((q6b y9.links s39).getD ([]:(List q0a))).length:Nat):Int))),(102,(iV n56)),(112,(V.lst 2 (x62.aims.map q0b))),(113,(iV ((x62.aims.length:Nat):Int))),(114,(iV n72))],[(0,(Ob.arr 61 3 [(q0d a5)])),(1,(Ob.arr 155 6 [(q3a y9)])),(2,(Ob.arr 4 1 ((p.2).map q9h))),(3,(Ob.arr 80 3 [(q3c x46)]))],4⟩:St)) (fun k75 p=>k75 p.1 p.2=some r) (fun k75 h=>?_) ?_
          ·refine rn 3 rfl ?_
           refine ixh hx79 rfl rfl ?_
           refine rn 13 rfl ?_
           refine spC h rfl (fun hb80 h=>?_) (fun hb80 h=>?_)
           ·refine rn 1 rfl ?_
            exact jX (b71,l73) h (gr [0,1,2,3] rfl (hB rfl rfl rfl (hB rfl rfl rfl (hR rfl rfl (hB rfl rfl rfl .nil)))) rfl)
           refine rn 5 rfl ?_
           refine spO 124 h rfl (fun hb81 h=>?_) (fun hb81 h=>?_)
           ·refine rn 14 rfl ?_
            refine ln rfl rfl ?_
            refine rn 2 rfl ?_
            refine jK h (fun(p:(List Bool))=>(⟨[(1,(iV a2)),(3,(sV a4)),(9,(V.ptr 0 3 0 0)),(13,(V.ptr 1 6 0 0)),(17,(V.own 2 p.length)),(20,(V.ptr 3 3 0 0)),(21,(bV true)),(86,(V.lst 3 (a5.Hops.map q3c))),(87,(iV ((a5.Hops.length:Nat):Int))),(88,(iV n40)),(100,(V.lst 3 (((q6b y9.links s39).getD ([]:(List q0a))).map q6a))),(101,(iV ((((q6b y9.links s39).getD ([]:(List q0a))).length:Nat):Int))),(102,(iV n56)),(112,(V.lst 2 (x62.aims.map q0b))),(113,(iV ((x62.aims.length:Nat):Int))),(114,(iV n72)),(126,(V.con undef)),(131,(V.con undef))],[(0,(Ob.arr 61 3 [(q0d a5)])),(1,(Ob.arr 155 6 [(q3a y9)])),(2,(Ob.arr 4 1 (p.map q9h))),(3,(Ob.arr 80 3 [(q3c x46)]))],4⟩:St)) (fun k82 p=>k82 p=some r) (fun k82 h=>?_) ?_
            ·refine rn 1 rfl ?_
             refine wl (A:=a5.Made) 134 rfl (fun hA99=>?_)
             refine lC (fun(p:Int×(List Bool))=>(⟨[(1,(iV a2)),(3,(sV a4)),(9,(V.ptr 0 3 0 0)),(13,(V.ptr 1 6 0 0)),(17,(V.own 2 (p.2).length)),(20,(V.ptr 3 3 0 0)),(21,(bV true)),(25,(V.ptr 4 2 0 0)),(86,(V.lst 3 (a5.Hops.map q3c))),(87,(iV ((a5.Hops.length:Nat):Int))),(88,(iV n40)),(100,(V.lst 3 (((q6b y9.links s39).getD ([]:(List q0a))).map q6a))),(101,(iV ((((q6b y9.links s39).getD ([]:(List q0a))).length:Nat):Int))),(102,(iV n56)),(112,(V.lst 2 (x62.aims.map q0b))),(113,(iV ((x62.aims.length:Nat):Int))),(114,(iV n72)),(126,(V.con undef)),(131,(V.con undef)),(134,(V.lst 2 (a5.Made.map q9b))),(135,(iV ((a5.Made.length:Nat):Int))),(136,(iV (p.1)))],[(0,(Ob.arr 61 3 [(q0d a5)])),(1,(Ob.arr 155 6 [(q3a y9)])),(2,(Ob.arr 4 1 ((p.2).map q9h))),(3,(Ob.arr 80 3 [(q3c x46)])),(4,(Ob.arr 223 2 [(q0b x78)]))],5⟩:St)) (fun n p=>RG a5.Made (fun tl nn=>j7p F x78 k82 tl nn p.2=some r) n p.1) (fun p h=>RG.zero h) (a5.Made.length+1) (0,l73) (RG.start h) (gr [0,1,2,3,4] rfl (hB rfl rfl rfl (hB rfl rfl rfl (hR rfl rfl (hB rfl rfl rfl (hB rfl rfl rfl .nil))))) rfl) (fun n p h=>?_)
             obtain⟨n86,l87⟩:=p
             refine rn 5 rfl ?_
             refine spL rfl (fun hb88=>?_) (fun hb88=>?_)
             ·obtain⟨x91,tl,hx92,h,hk5⟩:=RG.t hA99 h hb88
              unfold j7p at h
              refine rn 2 rfl ?_
              refine jK h (fun(p:(List Bool))=>(⟨[(1,(iV a2)),(3,(sV a4)),(9,(V.ptr 0 3 0 0)),(13,(V.ptr 1 6 0 0)),(17,(V.own 2 p.length)),(20,(V.ptr 3 3 0 0)),(21,(bV true)),(25,(V.ptr 4 2 0 0)),(86,(V.lst 3 (a5.Hops.map q3c))),(87,(iV ((a5.Hops.length:Nat):Int))),(88,(iV n40)),(100,(V.lst 3 (((q6b y9.links s39).getD ([]:(List q0a))).map q6a))),(101,(iV ((((q6b y9.links s39).getD ([]:(List q0a))).length:Nat):Int))),(102,(iV n56)),(112,(V.lst 2 (x62.aims.map q0b))),(113,(iV ((x62.aims.length:Nat):Int))),(114,(iV n72)),(126,(V.con undef)),(131,(V.con undef)),(134,(V.lst 2 (a5.Made.map q9b))),(135,(iV ((a5.Made.length:Nat):Int))),(136,(iV n86))],[(0,(Ob.arr 61 3 [(q0d a5)])),(1,(Ob.arr 155 6 [(q3a y9)])),(2,(Ob.arr 4 1 (p.map q9h))),(3,(Ob.arr 80 3 [(q3c x46)])),(4,(Ob.arr 223 2 [(q0b x78)]))],5⟩:St)) (fun k89 p=>k89 p=some r) (fun k89 h=>?_) ?_
              ·refine rn 4 rfl ?_
               refine ixh hx92 rfl rfl ?_
               refine rn 11 rfl ?_
               refine spO 144 h rfl (fun hb93 h=>?_) (fun hb93 h=>?_)
               ·refine rn 7 rfl ?_
                refine jK h (fun(p:(List Bool))=>(⟨[(1,(iV a2)),(3,(sV a4)),(9,(V.ptr 0 3 0 0)),(13,(V.ptr 1 6 0 0)),(17,(V.own 2 p.length)),(20,(V.ptr 3 3 0 0)),(21,(bV true)),(25,(V.ptr 4 2 0 0)),(86,(V.lst 3 (a5.Hops.map q3c))),(87,(iV ((a5.Hops.length:Nat):Int))),(88,(iV n40)),(100,(V.lst 3 (((q6b y9.links s39).getD ([]:(List q0a))).map q6a))),(101,(iV ((((q6b y9.links s39).getD ([]:(List q0a))).length:Nat):Int))),(102,(iV n56)),(112,(V.lst 2 (x62.aims.map q0b))),(113,(iV ((x62.aims.length:Nat):Int))),(114,(iV n72)),(126,(V.con undef)),(131,(V.con undef)),(134,(V.lst 2 (a5.Made.map q9b))),(135,(iV ((a5.Made.length:Nat):Int))),(136,(iV n86)),(149,(bV (x91.Type_==x78.typ)))],[(0,(Ob.arr 61 3 [(q0d a5)])),(1,(Ob.arr 155 6 [(q3a y9)])),(2,(Ob.arr 4 1 (p.map q9h))),(3,(Ob.arr 80 3 [(q3c x46)])),(4,(Ob.arr 223 2 [(q0b x78)]))],5⟩:St)) (fun k94 p=>k94 p=some r) (fun k94 h=>?_) ?_
                ·refine spC h rfl (fun hb96 h=>?_) (fun hb96 h=>?_)
                 ·refine rn 4 rfl ?_
                  refine ixo (a:=l87) h rfl rfl rfl (fun x97 hx98 h=>?_)
                  refine stS true hx98 rfl rfl rfl rfl rfl rfl ?_
                  refine rn 1 rfl ?_
                  exact jX (l87.set n86.toNat true) h (q9g 5 (fun i=>([0,1,2,3,4]:List Nat).getD i 0) _ _ (by decide) (q9k.get (.cons (Sub.imm (Imm.con _)) (.cons (Sub.imm (Imm.con _)) (.cons (Sub.ptr rfl rfl) (.cons (Sub.ptr rfl rfl) (.cons (Sub.ownE rfl rfl (by simp)) (.cons (Sub.ptr rfl rfl) (.cons (Sub.imm (Imm.con _)) (.cons (Sub.ptr rfl rfl) (.cons (Sub.imm (Imm.lst _ _)) (.cons (Sub.imm (Imm.con _)) (.cons (Sub.imm (Imm.con _)) (.cons (Sub.imm (Imm.lst _ _)) (.cons (Sub.imm (Imm.con _)) (.cons (Sub.imm (Imm.con _)) (.cons (Sub.imm (Imm.lst _ _)) (.cons (Sub.imm (Imm.con _)) (.cons (Sub.imm (Imm.con _)) (.cons (Sub.imm (Imm.con _)) (.cons (Sub.imm (Imm.con _)) (.cons (Sub.imm (Imm.lst _ _)) (.cons (Sub.imm (Imm.con _)) (.cons (Sub.imm (Imm.con _)) (.cons (Sub.imm (Imm.con _)) .nil)))))))))))))))))))))))) (q6i.get (.cons rfl (q4b.box (.cons (Sub.imm (Imm.con _)) (.cons (Sub.imm (Imm.lst _ _)) (.cons (Sub.imm (Imm.lst _ _)) .nil)))) (.cons rfl (q4b.box (.cons (Sub.imm (Imm.lst _ _)) (.cons (Sub.imm (Imm.lst _ _)) (.cons (Sub.imm (Imm.lst _ _)) (.cons (Sub.imm (Imm.lst _ _)) (.cons (Sub.imm (Imm.imap _)) (.cons (Sub.imm (Imm.imap _)) .nil))))))) (.cons rfl (q4b.rows (q3b q2f)) (.cons rfl (q4b.box (.cons (Sub.imm (Imm.con _)) (.cons (Sub.imm (Imm.con _)) (.cons (Sub.imm (Imm.con _)) .nil)))) (.cons rfl (q4b.box (.cons (Sub.imm (Imm.con _)) (.cons (Sub.imm (Imm.con _)) .nil))) .nil)))))) rfl)
                 refine rn 1 rfl ?_
                 exact jX l87 h (gr [0,1,2,3,4] rfl (hB rfl rfl rfl (hB rfl rfl rfl (hR rfl rfl (hB rfl rfl rfl (hB rfl rfl rfl .nil))))) rfl)
                intro l95 h
                refine rn 1 rfl ?_
                exact jX l95 h (gr [0,1,2,3,4] rfl (hB rfl rfl rfl (hB rfl rfl rfl (hR rfl rfl (hB rfl rfl rfl (hB rfl rfl rfl .nil))))) rfl)
               refine rn 10 rfl ?_
               exact jX l87 h (gr [0,1,2,3,4] rfl (hB rfl rfl rfl (hB rfl rfl rfl (hR rfl rfl (hB rfl rfl rfl (hB rfl rfl rfl .nil))))) rfl)
              intro l90 h
              refine rn 4 rfl ?_
              exact jX ((w64 (n86+1)),l90) (hk5 _ h) (gr [0,1,2,3,4] rfl (hB rfl rfl rfl (hB rfl rfl rfl (hR rfl rfl (hB rfl rfl rfl (hB rfl rfl rfl .nil))))) rfl)
             replace h:=RG.f h hb88
             unfold j7p at h
             refine rn 1 rfl ?_
             exact jX l87 h (gr [0,1,2,3] rfl (hB rfl rfl rfl (hB rfl rfl rfl (hR rfl rfl (hB rfl rfl rfl .nil)))) rfl)
            intro l83 h
            refine rn 1 rfl ?_
            exact jX (true,l83) h (gr [0,1,2,3] rfl (hB rfl rfl rfl (hB rfl rfl rfl (hR rfl rfl (hB rfl rfl rfl .nil)))) rfl)
           refine rn 4 rfl ?_
           refine fxO 128 hb25 rfl ?_
           refine rn 10 rfl ?_
           refine ln rfl rfl ?_
           refine rn 2 rfl ?_
           refine jK h (fun(p:(List Bool))=>(⟨[(1,(iV a2)),(3,(sV a4)),(9,(V.ptr 0 3 0 0)),(13,(V.ptr 1 6 0 0)),(17,(V.own 2 p.length)),(20,(V.ptr 3 3 0 0)),(21,(bV true)),(86,(V.lst 3 (a5.Hops.map q3c))),(87,(iV ((a5.Hops.length:Nat):Int))),(88,(iV n40)),(100,(V.lst 3 (((q6b y9.links s39).getD ([]:(List q0a))).map q6a))),(101,(iV ((((q6b y9.links s39).getD ([]:(List q0a))).length:Nat):Int))),(102,(iV n56)),(112,(V.lst 2 (x62.aims.map q0b))),(113,(iV ((x62.aims.length:Nat):Int))),(114,(iV n72)),(126,(bV (a2==1))),(131,(V.con undef))],[(0,(Ob.arr 61 3 [(q0d a5)])),(1,(Ob.arr 155 6 [(q3a y9)])),(2,(Ob.arr 4 1 (p.map q9h))),(3,(Ob.arr 80 3 [(q3c x46)]))],4⟩:St)) (fun k100 p=>k100 p=some r) (fun k100 h=>?_) ?_
           ·refine rn 1 rfl ?_
            refine wl (A:=a5.Made) 134 rfl (fun hA117=>?_)
            refine lC (fun(p:Int×(List Bool))=>(⟨[(1,(iV a2)),(3,(sV a4)),(9,(V.ptr 0 3 0 0)),(13,(V.ptr 1 6 0 0)),(17,(V.own 2 (p.2).length)),(20,(V.ptr 3 3 0 0)),(21,(bV true)),(25,(V.ptr 4 2 0 0)),(86,(V.lst 3 (a5.Hops.map q3c))),(87,(iV ((a5.Hops.length:Nat):Int))),(88,(iV n40)),(100,(V.lst 3 (((q6b y9.links s39).getD ([]:(List q0a))).map q6a))),(101,(iV ((((q6b y9.links s39).getD ([]:(List q0a))).length:Nat):Int))),(102,(iV n56)),(112,(V.lst 2 (x62.aims.map q0b))),(113,(iV ((x62.aims.length:Nat):Int))),(114,(iV n72)),(126,(bV (a2==1))),(131,(V.con undef)),(134,(V.lst 2 (a5.Made.map q9b))),(135,(iV ((a5.Made.length:Nat):Int))),(136,(iV (p.1)))],[(0,(Ob.arr 61 3 [(q0d a5)])),(1,(Ob.arr 155 6 [(q3a y9)])),(2,(Ob.arr 4 1 ((p.2).map q9h))),(3,(Ob.arr 80 3 [(q3c x46)])),(4,(Ob.arr 223 2 [(q0b x78)]))],5⟩:St)) (fun n p=>RG a5.Made (fun tl nn=>j6p F x78 k100 tl nn p.2=some r) n p.1) (fun p h=>RG.zero h) (a5.Made.length+1) (0,l73) (RG.start h) (gr [0,1,2,3,4] rfl (hB rfl rfl rfl (hB rfl rfl rfl (hR rfl rfl (hB rfl rfl rfl (hB rfl rfl rfl .nil))))) rfl) (fun n p h=>?_)
            obtain⟨n104,l105⟩:=p
            refine rn 5 rfl ?_
            refine spL rfl (fun hb106=>?_) (fun hb106=>?_)
            ·obtain⟨x109,tl,hx110,h,hk6⟩:=RG.t hA117 h hb106
             unfold j6p at h
             refine rn 2 rfl ?_
             refine jK h (fun(p:(List Bool))=>(⟨[(1,(iV a2)),(3,(sV a4)),(9,(V.ptr 0 3 0 0)),(13,(V.ptr 1 6 0 0)),(17,(V.own 2 p.length)),(20,(V.ptr 3 3 0 0)),(21,(bV true)),(25,(V.ptr 4 2 0 0)),(86,(V.lst 3 (a5.Hops.map q3c))),(87,(iV ((a5.Hops.length:Nat):Int))),(88,(iV n40)),(100,(V.lst 3 (((q6b y9.links s39).getD ([]:(List q0a))).map q6a))),(101,(iV ((((q6b y9.links s39).getD ([]:(List q0a))).length:Nat):Int))),(102,(iV n56)),(112,(V.lst 2 (x62.aims.map q0b))),(113,(iV ((x62.aims.length:Nat):Int))),(114,(iV n72)),(126,(bV (a2==1))),(131,(V.con undef)),(134,(V.lst 2 (a5.Made.map q9b))),(135,(iV ((a5.Made.length:Nat):Int))),(136,(iV n104))],[(0,(Ob.arr 61 3 [(q0d a5)])),(1,(Ob.arr 155 6 [(q3a y9)])),(2,(Ob.arr 4 1 (p.map q9h))),(3,(Ob.arr 80 3 [(q3c x46)])),(4,(Ob.arr 223 2 [(q0b x78)]))],5⟩:St)) (fun k107 p=>k107 p=some r) (fun k107 h=>?_) ?_
             ·refine rn 4 rfl ?_
              refine ixh hx110 rfl rfl ?_
              refine rn 11 rfl ?_
              refine spO 144 h rfl (fun hb111 h=>?_) (fun hb111 h=>?_)
              ·refine rn 7 rfl ?_
               refine jK h (fun(p:(List Bool))=>(⟨[(1,(iV a2)),(3,(sV a4)),(9,(V.ptr 0 3 0 0)),(13,(V.ptr 1 6 0 0)),(17,(V.own 2 p.length)),(20,(V.ptr 3 3 0 0)),(21,(bV true)),(25,(V.ptr 4 2 0 0)),(86,(V.lst 3 (a5.Hops.map q3c))),(87,(iV ((a5.Hops.length:Nat):Int))),(88,(iV n40)),(100,(V.lst 3 (((q6b y9.links s39).getD ([]:(List q0a))).map q6a))),(101,(iV ((((q6b y9.links s39).getD ([]:(List q0a))).length:Nat):Int))),(102,(iV n56)),(112,(V.lst 2 (x62.aims.map q0b))),(113,(iV ((x62.aims.length:Nat):Int))),(114,(iV n72)),(126,(bV (a2==1))),(131,(V.con undef)),(134,(V.lst 2 (a5.Made.map q9b))),(135,(iV ((a5.Made.length:Nat):Int))),(136,(iV n104)),(149,(bV (x109.Type_==x78.typ)))],[(0,(Ob.arr 61 3 [(q0d a5)])),(1,(Ob.arr 155 6 [(q3a y9)])),(2,(Ob.arr 4 1 (p.map q9h))),(3,(Ob.arr 80 3 [(q3c x46)])),(4,(Ob.arr 223 2 [(q0b x78)]))],5⟩:St)) (fun k112 p=>k112 p=some r) (fun k112 h=>?_) ?_
               ·refine spC h rfl (fun hb114 h=>?_) (fun hb114 h=>?_)
                ·refine rn 4 rfl ?_
                 refine ixo (a:=l105) h rfl rfl rfl (fun x115 hx116 h=>?_)
                 refine stS true hx116 rfl rfl rfl rfl rfl rfl ?_
                 refine rn 1 rfl ?_
                 exact jX (l105.set n104.toNat true) h (q9g 5 (fun i=>([0,1,2,3,4]:List Nat).getD i 0) _ _ (by decide) (q9k.get (.cons (Sub.imm (Imm.con _)) (.cons (Sub.imm (Imm.con _)) (.cons (Sub.ptr rfl rfl) (.cons (Sub.ptr rfl rfl) (.cons (Sub.ownE rfl rfl (by simp)) (.cons (Sub.ptr rfl rfl) (.cons (Sub.imm (Imm.con _)) (.cons (Sub.ptr rfl rfl) (.cons (Sub.imm (Imm.lst _ _)) (.cons (Sub.imm (Imm.con _)) (.cons (Sub.imm (Imm.con _)) (.cons (Sub.imm (Imm.lst _ _)) (.cons (Sub.imm (Imm.con _)) (.cons (Sub.imm (Imm.con _)) (.cons (Sub.imm (Imm.lst _ _)) (.cons (Sub.imm (Imm.con _)) (.cons (Sub.imm (Imm.con _)) (.cons (Sub.imm (Imm.con _)) (.cons (Sub.imm (Imm.con _)) (.cons (Sub.imm (Imm.lst _ _)) (.cons (Sub.imm (Imm.con _)) (.cons (Sub.imm (Imm.con _)) (.cons (Sub.imm (Imm.con _)) .nil)))))))))))))))))))))))) (q6i.get (.cons rfl (q4b.box (.cons (Sub.imm (Imm.con _)) (.cons (Sub.imm (Imm.lst _ _)) (.cons (Sub.imm (Imm.lst _ _)) .nil)))) (.cons rfl (q4b.box (.cons (Sub.imm (Imm.lst _ _)) (.cons (Sub.imm (Imm.lst _ _)) (.cons (Sub.imm (Imm.lst _ _)) (.cons (Sub.imm (Imm.lst _ _)) (.cons (Sub.imm (Imm.imap _)) (.cons (Sub.imm (Imm.imap _)) .nil))))))) (.cons rfl (q4b.rows (q3b q2f)) (.cons rfl (q4b.box (.cons (Sub.imm (Imm.con _)) (.cons (Sub.imm (Imm.con _)) (.cons (Sub.imm (Imm.con _)) .nil)))) (.cons rfl (q4b.box (.cons (Sub.imm (Imm.con _)) (.cons (Sub.imm (Imm.con _)) .nil))) .nil)))))) rfl)
                refine rn 1 rfl ?_
                exact jX l105 h (gr [0,1,2,3,4] rfl (hB rfl rfl rfl (hB rfl rfl rfl (hR rfl rfl (hB rfl rfl rfl (hB rfl rfl rfl .nil))))) rfl)
               intro l113 h
               refine rn 1 rfl ?_
               exact jX l113 h (gr [0,1,2,3,4] rfl (hB rfl rfl rfl (hB rfl rfl rfl (hR rfl rfl (hB rfl rfl rfl (hB rfl rfl rfl .nil))))) rfl)
              refine rn 10 rfl ?_
              exact jX l105 h (gr [0,1,2,3,4] rfl (hB rfl rfl rfl (hB rfl rfl rfl (hR rfl rfl (hB rfl rfl rfl (hB rfl rfl rfl .nil))))) rfl)
             intro l108 h
             refine rn 4 rfl ?_
             exact jX ((w64 (n104+1)),l108) (hk6 _ h) (gr [0,1,2,3,4] rfl (hB rfl rfl rfl (hB rfl rfl rfl (hR rfl rfl (hB rfl rfl rfl (hB rfl rfl rfl .nil))))) rfl)
            replace h:=RG.f h hb106
            unfold j6p at h
            refine rn 1 rfl ?_
            exact jX l105 h (gr [0,1,2,3] rfl (hB rfl rfl rfl (hB rfl rfl rfl (hR rfl rfl (hB rfl rfl rfl .nil)))) rfl)
           intro l101 h
           refine rn 1 rfl ?_
           exact jX (true,l101) h (gr [0,1,2,3] rfl (hB rfl rfl rfl (hB rfl rfl rfl (hR rfl rfl (hB rfl rfl rfl .nil)))) rfl)
          rintro⟨b76,l77⟩ h
          refine rn 4 rfl ?_
          exact jX (b76,(w64 (n72+1)),l77) (hk4 _ h) (gr [0,1,2,3] rfl (hB rfl rfl rfl (hB rfl rfl rfl (hR rfl rfl (hB rfl rfl rfl .nil)))) rfl)
         replace h:=RG.f h hb74
         unfold z5r at h
         refine rn 1 rfl ?_
         exact jX (b71,l73) h (gr [0,1,2,3] rfl (hB rfl rfl rfl (hB rfl rfl rfl (hR rfl rfl (hB rfl rfl rfl .nil)))) rfl)
        rintro⟨b66,l67⟩ h
        refine rn 1 rfl ?_
        exact jX (b66,l67) h (gr [0,1,2,3] rfl (hB rfl rfl rfl (hB rfl rfl rfl (hR rfl rfl (hB rfl rfl rfl .nil)))) rfl)
       rintro⟨b60,l61⟩ h
       refine rn 4 rfl ?_
       exact jX (b60,(w64 (n56+1)),l61) (hk3 _ h) (gr [0,1,2,3] rfl (hB rfl rfl rfl (hB rfl rfl rfl (hR rfl rfl (hB rfl rfl rfl .nil)))) rfl)
      replace h:=RG.f h hb58
      unfold z6x at h
      refine rn 1 rfl ?_
      exact jX (b55,l57) h (gr [0,1,2,3] rfl (hB rfl rfl rfl (hB rfl rfl rfl (hR rfl rfl (hB rfl rfl rfl .nil)))) rfl)
     rintro⟨b50,l51⟩ h
     refine rn 6 rfl ?_
     refine spC h rfl (fun hb120 h=>?_) (fun hb120 h=>?_)
     ·refine rn 5 rfl ?_
      exact rt h rfl
     refine rn 7 rfl ?_
     exact jX (x46.To,l51) h (gr [0,1,2] rfl (hB rfl rfl rfl (hB rfl rfl rfl (hR rfl rfl .nil))) rfl)
    rintro⟨s44,l45⟩ h
    refine rn 4 rfl ?_
    exact jX (s44,(w64 (n40+1)),l45) (hk2 _ h) (gr [0,1,2] rfl (hB rfl rfl rfl (hB rfl rfl rfl (hR rfl rfl .nil))) rfl)
   replace h:=RG.f h hb42
   unfold j2j at h
   refine rn 1 rfl ?_
   exact jX (s39,l41) h (gr [2] rfl (hR rfl rfl .nil) rfl)
  rintro⟨s34,l35⟩ h
  refine rn 7 rfl ?_
  refine jK h (fun _:Unit=>(⟨[(3,(sV a4)),(18,(sV s34))],[],0⟩:St)) (fun k122 (_:Unit)=>k122=some r) (fun k122 h=>?_) ?_
  ·refine rn 1 rfl ?_
   refine wlO (A:=l35) 0 rfl (fun hA129=>?_)
   refine lC (fun(p:Int)=>(⟨[(3,(sV a4)),(18,(sV s34)),(162,(V.own 0 l35.length)),(163,(iV ((l35.length:Nat):Int))),(164,(iV p))],[(0,(Ob.arr 4 1 (l35.map q9h)))],1⟩:St)) (fun n p=>RG l35 (fun tl nn=>j1j F k122 tl=some r) n p) (fun p h=>RG.zero h) (l35.length+1) 0 (RG.start h) (gr [0] rfl (hR rfl rfl .nil) rfl) (fun n n124 h=>?_)
   refine rn 5 rfl ?_
   refine spL rfl (fun hb125=>?_) (fun hb125=>?_)
   ·obtain⟨x126,tl,hx127,h,hk7⟩:=RG.t hA129 h hb125
    unfold j1j at h
    refine rn 5 rfl ?_
    refine ixoh (a:=l35) hx127 rfl rfl rfl ?_
    refine ldp hx127 rfl rfl rfl rfl ?_
    refine rn 7 rfl ?_
    refine spC h rfl (fun hb128 h=>?_) (fun hb128 h=>?_)
    ·refine rn 5 rfl ?_
     exact rt h rfl
    refine rn 6 rfl ?_
    exact jX (w64 (n124+1)) (hk7 _ h) (gr [0] rfl (hR rfl rfl .nil) rfl)
   replace h:=RG.f h hb125
   unfold j1j at h
   refine rn 1 rfl ?_
   exact jX () h (g0 rfl rfl)
  intro _ h
  refine rn 8 rfl ?_
  exact rt h rfl
 obtain⟨y130,hx131,h⟩:=bind_some h
 obtain⟨y132,hx133,h⟩:=bind_some h
 refine dr mixed (vs 2 rfl (vb hb24 rfl (vs 2 rfl (vb hb25 rfl (vs 10 rfl (cD rfl rfl rfl rfl (W102 _ _ _ _ hx131) rfl (vs 2 rfl (cD rfl rfl rfl rfl (W116 _ _ _ _ _ hx133) rfl (vs 2 rfl .nil))))))))) (by kernel_rfl) ?_
 refine spC h rfl (fun hb134 h=>?_) (fun hb134 h=>?_)
 ·refine rn 5 rfl ?_
  exact rt h rfl
 refine rn 5 rfl ?_
 refine ln rfl rfl ?_
 refine ck h (fun hc135 h=>?_)
 refine q8n (ln:=(List.replicate (((a5.Made.length:Nat):Int)).toNat (false:Bool)).length) ((List.replicate (((a5.Made.length:Nat):Int)).toNat (false:Bool)).map q9h) j7m tZ4 rfl rfl hc135 List.map_replicate List.length_replicate q7a rfl rfl ?_
 refine fo (rn 13 rfl ?_)
 refine ln rfl rfl ?_
 refine rn 2 rfl ?_
 refine jK h (fun(p:B8×(List Bool))=>(⟨[(3,(sV a4)),(17,(V.own 0 (p.2).length)),(18,(sV (p.1)))],[(0,(Ob.arr 4 1 ((p.2).map q9h)))],1⟩:St)) (fun k136 p=>k136 p.1 p.2=some r) (fun k136 h=>?_) ?_
 ·refine rn 1 rfl ?_
  refine wl (A:=a5.Hops) 86 rfl (fun hA229=>?_)
  refine lC (fun(p:B8×Int×(List Bool))=>(⟨[(1,(iV a2)),(3,(sV a4)),(9,(V.ptr 0 3 0 0)),(13,(V.ptr 1 6 0 0)),(17,(V.own 2 (p.2.2).length)),(18,(sV (p.1))),(86,(V.lst 3 (a5.Hops.map q3c))),(87,(iV ((a5.Hops.length:Nat):Int))),(88,(iV (p.2.1)))],[(0,(Ob.arr 61 3 [(q0d a5)])),(1,(Ob.arr 155 6 [(q3a y9)])),(2,(Ob.arr 4 1 ((p.2.2).map q9h)))],3⟩:St)) (fun n p=>RG a5.Hops (fun tl nn=>j0j F a5 y9 k136 tl p.1 p.2.2=some r) n p.2.1) (fun p h=>RG.zero h) (a5.Hops.length+1) (a5.Entry,0,(List.replicate (((a5.Made.length:Nat):Int)).toNat (false:Bool))) (RG.start h) (gr [0,1,2] rfl (hB rfl rfl rfl (hB rfl rfl rfl (hR rfl rfl .nil))) rfl) (fun n p h=>?_)
  obtain⟨s142,n143,l144⟩:=p
  refine rn 5 rfl ?_
  refine spL rfl (fun hb145=>?_) (fun hb145=>?_)
  ·obtain⟨x149,tl,hx150,h,hk8⟩:=RG.t hA229 h hb145
   unfold j0j at h
   refine rn 2 rfl ?_
   refine jK h (fun(p:B8×(List Bool))=>(⟨[(1,(iV a2)),(3,(sV a4)),(9,(V.ptr 0 3 0 0)),(13,(V.ptr 1 6 0 0)),(17,(V.own 2 (p.2).length)),(18,(sV (p.1))),(86,(V.lst 3 (a5.Hops.map q3c))),(87,(iV ((a5.Hops.length:Nat):Int))),(88,(iV n143))],[(0,(Ob.arr 61 3 [(q0d a5)])),(1,(Ob.arr 155 6 [(q3a y9)])),(2,(Ob.arr 4 1 ((p.2).map q9h)))],3⟩:St)) (fun k146 p=>k146 p.1 p.2=some r) (fun k146 h=>?_) ?_
   ·refine rn 3 rfl ?_
    refine ixh hx150 rfl rfl ?_
    refine rn 13 rfl ?_
    refine spC h rfl (fun hb151 h=>?_) (fun hb151 h=>?_)
    ·refine rn 5 rfl ?_
     exact rt h rfl
    refine rn 11 rfl ?_
    refine q7d _ (V.lst 3 (([]:(List q0a)).map q6a)) (V.lst 3 (((q6b y9.links s142).getD ([]:(List q0a))).map q6a)) z5l q6h j6m (fun _=>.nil _ _ _) q7a rfl .imm (.con rfl) ⟨_,rfl⟩ q5p (q4p y9.links s142) (q1f (q3n) (q6b y9.links s142) ([]:(List q0a))) rfl ?_
    refine fo ?_
    refine ln rfl rfl ?_
    refine rn 2 rfl ?_
    refine jK h (fun(p:Bool×(List Bool))=>(⟨[(1,(iV a2)),(3,(sV a4)),(9,(V.ptr 0 3 0 0)),(13,(V.ptr 1 6 0 0)),(17,(V.own 2 (p.2).length)),(20,(V.ptr 3 3 0 0)),(21,(bV (p.1))),(86,(V.lst 3 (a5.Hops.map q3c))),(87,(iV ((a5.Hops.length:Nat):Int))),(88,(iV n143))],[(0,(Ob.arr 61 3 [(q0d a5)])),(1,(Ob.arr 155 6 [(q3a y9)])),(2,(Ob.arr 4 1 ((p.2).map q9h))),(3,(Ob.arr 80 3 [(q3c x149)]))],4⟩:St)) (fun k152 p=>k152 p.1 p.2=some r) (fun k152 h=>?_) ?_
    ·refine rn 1 rfl ?_
     refine wl (A:=((q6b y9.links s142).getD ([]:(List q0a)))) 100 rfl (fun hA227=>?_)
     refine lC (fun(p:Bool×Int×(List Bool))=>(⟨[(1,(iV a2)),(3,(sV a4)),(9,(V.ptr 0 3 0 0)),(13,(V.ptr 1 6 0 0)),(17,(V.own 2 (p.2.2).length)),(20,(V.ptr 3 3 0 0)),(21,(bV (p.1))),(86,(V.lst 3 (a5.Hops.map q3c))),(87,(iV ((a5.Hops.length:Nat):Int))),(88,(iV n143)),(100,(V.lst 3 (((q6b y9.links s142).getD ([]:(List q0a))).map q6a))),(101,(iV ((((q6b y9.links s142).getD ([]:(List q0a))).length:Nat):Int))),(102,(iV (p.2.1)))],[(0,(Ob.arr 61 3 [(q0d a5)])),(1,(Ob.arr 155 6 [(q3a y9)])),(2,(Ob.arr 4 1 ((p.2.2).map q9h))),(3,(Ob.arr 80 3 [(q3c x149)]))],4⟩:St)) (fun n p=>RG ((q6b y9.links s142).getD ([]:(List q0a))) (fun tl nn=>z5x F a5 x149 k152 tl p.1 p.2.2=some r) n p.2.1) (fun p h=>RG.zero h) (((q6b y9.links s142).getD ([]:(List q0a))).length+1) (false,0,l144) (RG.start h) (gr [0,1,2,3] rfl (hB rfl rfl rfl (hB rfl rfl rfl (hR rfl rfl (hB rfl rfl rfl .nil)))) rfl) (fun n p h=>?_)
     obtain⟨b158,n159,l160⟩:=p
     refine rn 5 rfl ?_
     refine spL rfl (fun hb161=>?_) (fun hb161=>?_)
     ·obtain⟨x165,tl,hx166,h,hk9⟩:=RG.t hA227 h hb161
      unfold z5x at h
      refine rn 2 rfl ?_
      refine jK h (fun(p:Bool×(List Bool))=>(⟨[(1,(iV a2)),(3,(sV a4)),(9,(V.ptr 0 3 0 0)),(13,(V.ptr 1 6 0 0)),(17,(V.own 2 (p.2).length)),(20,(V.ptr 3 3 0 0)),(21,(bV (p.1))),(86,(V.lst 3 (a5.Hops.map q3c))),(87,(iV ((a5.Hops.length:Nat):Int))),(88,(iV n143)),(100,(V.lst 3 (((q6b y9.links s142).getD ([]:(List q0a))).map q6a))),(101,(iV ((((q6b y9.links s142).getD ([]:(List q0a))).length:Nat):Int))),(102,(iV n159))],[(0,(Ob.arr 61 3 [(q0d a5)])),(1,(Ob.arr 155 6 [(q3a y9)])),(2,(Ob.arr 4 1 ((p.2).map q9h))),(3,(Ob.arr 80 3 [(q3c x149)]))],4⟩:St)) (fun k162 p=>k162 p.1 p.2=some r) (fun k162 h=>?_) ?_
      ·refine rn 3 rfl ?_
       refine ixh hx166 rfl rfl ?_
       refine rn 11 rfl ?_
       refine v3r true (xs:=w9i x165.site) (ys:=w9i x149.Site) (b:=(decide (x165.site=x149.Site))) eqk70 ⟨_,rfl⟩ ⟨_,rfl⟩ (eq_b w9i _ _ (v6p _ _)) w2r q7a rfl rfl rfl ?_
       refine fo (rn 1 rfl ?_)
       refine spC h rfl (fun hb167 h=>?_) (fun hb167 h=>?_)
       ·refine rn 1 rfl ?_
        exact jX (b158,l160) h (gr [0,1,2,3] rfl (hB rfl rfl rfl (hB rfl rfl rfl (hR rfl rfl (hB rfl rfl rfl .nil)))) rfl)
       refine rn 5 rfl ?_
       refine ln rfl rfl ?_
       refine rn 2 rfl ?_
       refine jK h (fun(p:Bool×(List Bool))=>(⟨[(1,(iV a2)),(3,(sV a4)),(9,(V.ptr 0 3 0 0)),(13,(V.ptr 1 6 0 0)),(17,(V.own 2 (p.2).length)),(20,(V.ptr 3 3 0 0)),(21,(bV (p.1))),(86,(V.lst 3 (a5.Hops.map q3c))),(87,(iV ((a5.Hops.length:Nat):Int))),(88,(iV n143)),(100,(V.lst 3 (((q6b y9.links s142).getD ([]:(List q0a))).map q6a))),(101,(iV ((((q6b y9.links s142).getD ([]:(List q0a))).length:Nat):Int))),(102,(iV n159))],[(0,(Ob.arr 61 3 [(q0d a5)])),(1,(Ob.arr 155 6 [(q3a y9)])),(2,(Ob.arr 4 1 ((p.2).map q9h))),(3,(Ob.arr 80 3 [(q3c x149)]))],4⟩:St)) (fun k168 p=>k168 p.1 p.2=some r) (fun k168 h=>?_) ?_
       ·refine rn 1 rfl ?_
        refine wl (A:=x165.aims) 112 rfl (fun hA226=>?_)
        refine lC (fun(p:Bool×Int×(List Bool))=>(⟨[(1,(iV a2)),(3,(sV a4)),(9,(V.ptr 0 3 0 0)),(13,(V.ptr 1 6 0 0)),(17,(V.own 2 (p.2.2).length)),(20,(V.ptr 3 3 0 0)),(21,(bV (p.1))),(86,(V.lst 3 (a5.Hops.map q3c))),(87,(iV ((a5.Hops.length:Nat):Int))),(88,(iV n143)),(100,(V.lst 3 (((q6b y9.links s142).getD ([]:(List q0a))).map q6a))),(101,(iV ((((q6b y9.links s142).getD ([]:(List q0a))).length:Nat):Int))),(102,(iV n159)),(112,(V.lst 2 (x165.aims.map q0b))),(113,(iV ((x165.aims.length:Nat):Int))),(114,(iV (p.2.1)))],[(0,(Ob.arr 61 3 [(q0d a5)])),(1,(Ob.arr 155 6 [(q3a y9)])),(2,(Ob.arr 4 1 ((p.2.2).map q9h))),(3,(Ob.arr 80 3 [(q3c x149)]))],4⟩:St)) (fun n p=>RG x165.aims (fun tl nn=>q4w F a5 x149 k168 tl p.1 p.2.2=some r) n p.2.1) (fun p h=>RG.zero h) (x165.aims.length+1) (b158,0,l160) (RG.start h) (gr [0,1,2,3] rfl (hB rfl rfl rfl (hB rfl rfl rfl (hR rfl rfl (hB rfl rfl rfl .nil)))) rfl) (fun n p h=>?_)
        obtain⟨b174,n175,l176⟩:=p
        refine rn 5 rfl ?_
        refine spL rfl (fun hb177=>?_) (fun hb177=>?_)
        ·obtain⟨x181,tl,hx182,h,hk10⟩:=RG.t hA226 h hb177
         unfold q4w at h
         refine rn 2 rfl ?_
         refine jK h (fun(p:Bool×(List Bool))=>(⟨[(1,(iV a2)),(3,(sV a4)),(9,(V.ptr 0 3 0 0)),(13,(V.ptr 1 6 0 0)),(17,(V.own 2 (p.2).length)),(20,(V.ptr 3 3 0 0)),(21,(bV (p.1))),(86,(V.lst 3 (a5.Hops.map q3c))),(87,(iV ((a5.Hops.length:Nat):Int))),(88,(iV n143)),(100,(V.lst 3 (((q6b y9.links s142).getD ([]:(List q0a))).map q6a))),(101,(iV ((((q6b y9.links s142).getD ([]:(List q0a))).length:Nat):Int))),(102,(iV n159)),(112,(V.lst 2 (x165.aims.map q0b))),(113,(iV ((x165.aims.length:Nat):Int))),(114,(iV n175))],[(0,(Ob.arr 61 3 [(q0d a5)])),(1,(Ob.arr 155 6 [(q3a y9)])),(2,(Ob.arr 4 1 ((p.2).map q9h))),(3,(Ob.arr 80 3 [(q3c x149)]))],4⟩:St)) (fun k178 p=>k178 p.1 p.2=some r) (fun k178 h=>?_) ?_
         ·refine rn 3 rfl ?_
          refine ixh hx182 rfl rfl ?_
          refine rn 13 rfl ?_
          refine spC h rfl (fun hb183 h=>?_) (fun hb183 h=>?_)
          ·refine rn 1 rfl ?_
           exact jX (b174,l176) h (gr [0,1,2,3] rfl (hB rfl rfl rfl (hB rfl rfl rfl (hR rfl rfl (hB rfl rfl rfl .nil)))) rfl)
          refine rn 5 rfl ?_
          refine spO 124 h rfl (fun hb184 h=>?_) (fun hb184 h=>?_)
          ·refine rn 14 rfl ?_
           refine ln rfl rfl ?_
           refine rn 2 rfl ?_
           refine jK h (fun(p:(List Bool))=>(⟨[(1,(iV a2)),(3,(sV a4)),(9,(V.ptr 0 3 0 0)),(13,(V.ptr 1 6 0 0)),(17,(V.own 2 p.length)),(20,(V.ptr 3 3 0 0)),(21,(bV true)),(86,(V.lst 3 (a5.Hops.map q3c))),(87,(iV ((a5.Hops.length:Nat):Int))),(88,(iV n143)),(100,(V.lst 3 (((q6b y9.links s142).getD ([]:(List q0a))).map q6a))),(101,(iV ((((q6b y9.links s142).getD ([]:(List q0a))).length:Nat):Int))),(102,(iV n159)),(112,(V.lst 2 (x165.aims.map q0b))),(113,(iV ((x165.aims.length:Nat):Int))),(114,(iV n175)),(126,(V.con undef)),(131,(V.con undef))],[(0,(Ob.arr 61 3 [(q0d a5)])),(1,(Ob.arr 155 6 [(q3a y9)])),(2,(Ob.arr 4 1 (p.map q9h))),(3,(Ob.arr 80 3 [(q3c x149)]))],4⟩:St)) (fun k185 p=>k185 p=some r) (fun k185 h=>?_) ?_
           ·refine rn 1 rfl ?_
            refine wl (A:=a5.Made) 134 rfl (fun hA202=>?_)
            refine lC (fun(p:Int×(List Bool))=>(⟨[(1,(iV a2)),(3,(sV a4)),(9,(V.ptr 0 3 0 0)),(13,(V.ptr 1 6 0 0)),(17,(V.own 2 (p.2).length)),(20,(V.ptr 3 3 0 0)),(21,(bV true)),(25,(V.ptr 4 2 0 0)),(86,(V.lst 3 (a5.Hops.map q3c))),(87,(iV ((a5.Hops.length:Nat):Int))),(88,(iV n143)),(100,(V.lst 3 (((q6b y9.links s142).getD ([]:(List q0a))).map q6a))),(101,(iV ((((q6b y9.links s142).getD ([]:(List q0a))).length:Nat):Int))),(102,(iV n159)),(112,(V.lst 2 (x165.aims.map q0b))),(113,(iV ((x165.aims.length:Nat):Int))),(114,(iV n175)),(126,(V.con undef)),(131,(V.con undef)),(134,(V.lst 2 (a5.Made.map q9b))),(135,(iV ((a5.Made.length:Nat):Int))),(136,(iV (p.1)))],[(0,(Ob.arr 61 3 [(q0d a5)])),(1,(Ob.arr 155 6 [(q3a y9)])),(2,(Ob.arr 4 1 ((p.2).map q9h))),(3,(Ob.arr 80 3 [(q3c x149)])),(4,(Ob.arr 223 2 [(q0b x181)]))],5⟩:St)) (fun n p=>RG a5.Made (fun tl nn=>z6b F x181 k185 tl nn p.2=some r) n p.1) (fun p h=>RG.zero h) (a5.Made.length+1) (0,l176) (RG.start h) (gr [0,1,2,3,4] rfl (hB rfl rfl rfl (hB rfl rfl rfl (hR rfl rfl (hB rfl rfl rfl (hB rfl rfl rfl .nil))))) rfl) (fun n p h=>?_)
            obtain⟨n189,l190⟩:=p
            refine rn 5 rfl ?_
            refine spL rfl (fun hb191=>?_) (fun hb191=>?_)
            ·obtain⟨x194,tl,hx195,h,hk11⟩:=RG.t hA202 h hb191
             unfold z6b at h
             refine rn 2 rfl ?_
             refine jK h (fun(p:(List Bool))=>(⟨[(1,(iV a2)),(3,(sV a4)),(9,(V.ptr 0 3 0 0)),(13,(V.ptr 1 6 0 0)),(17,(V.own 2 p.length)),(20,(V.ptr 3 3 0 0)),(21,(bV true)),(25,(V.ptr 4 2 0 0)),(86,(V.lst 3 (a5.Hops.map q3c))),(87,(iV ((a5.Hops.length:Nat):Int))),(88,(iV n143)),(100,(V.lst 3 (((q6b y9.links s142).getD ([]:(List q0a))).map q6a))),(101,(iV ((((q6b y9.links s142).getD ([]:(List q0a))).length:Nat):Int))),(102,(iV n159)),(112,(V.lst 2 (x165.aims.map q0b))),(113,(iV ((x165.aims.length:Nat):Int))),(114,(iV n175)),(126,(V.con undef)),(131,(V.con undef)),(134,(V.lst 2 (a5.Made.map q9b))),(135,(iV ((a5.Made.length:Nat):Int))),(136,(iV n189))],[(0,(Ob.arr 61 3 [(q0d a5)])),(1,(Ob.arr 155 6 [(q3a y9)])),(2,(Ob.arr 4 1 (p.map q9h))),(3,(Ob.arr 80 3 [(q3c x149)])),(4,(Ob.arr 223 2 [(q0b x181)]))],5⟩:St)) (fun k192 p=>k192 p=some r) (fun k192 h=>?_) ?_
             ·refine rn 4 rfl ?_
              refine ixh hx195 rfl rfl ?_
              refine rn 11 rfl ?_
              refine spO 144 h rfl (fun hb196 h=>?_) (fun hb196 h=>?_)
              ·refine rn 7 rfl ?_
               refine jK h (fun(p:(List Bool))=>(⟨[(1,(iV a2)),(3,(sV a4)),(9,(V.ptr 0 3 0 0)),(13,(V.ptr 1 6 0 0)),(17,(V.own 2 p.length)),(20,(V.ptr 3 3 0 0)),(21,(bV true)),(25,(V.ptr 4 2 0 0)),(86,(V.lst 3 (a5.Hops.map q3c))),(87,(iV ((a5.Hops.length:Nat):Int))),(88,(iV n143)),(100,(V.lst 3 (((q6b y9.links s142).getD ([]:(List q0a))).map q6a))),(101,(iV ((((q6b y9.links s142).getD ([]:(List q0a))).length:Nat):Int))),(102,(iV n159)),(112,(V.lst 2 (x165.aims.map q0b))),(113,(iV ((x165.aims.length:Nat):Int))),(114,(iV n175)),(126,(V.con undef)),(131,(V.con undef)),(134,(V.lst 2 (a5.Made.map q9b))),(135,(iV ((a5.Made.length:Nat):Int))),(136,(iV n189)),(149,(bV (x194.Type_==x181.typ)))],[(0,(Ob.arr 61 3 [(q0d a5)])),(1,(Ob.arr 155 6 [(q3a y9)])),(2,(Ob.arr 4 1 (p.map q9h))),(3,(Ob.arr 80 3 [(q3c x149)])),(4,(Ob.arr 223 2 [(q0b x181)]))],5⟩:St)) (fun k197 p=>k197 p=some r) (fun k197 h=>?_) ?_
               ·refine spC h rfl (fun hb199 h=>?_) (fun hb199 h=>?_)
                ·refine rn 4 rfl ?_
                 refine ixo (a:=l190) h rfl rfl rfl (fun x200 hx201 h=>?_)
                 refine stS true hx201 rfl rfl rfl rfl rfl rfl ?_
                 refine rn 1 rfl ?_
                 exact jX (l190.set n189.toNat true) h (q9g 5 (fun i=>([0,1,2,3,4]:List Nat).getD i 0) _ _ (by decide) (q9k.get (.cons (Sub.imm (Imm.con _)) (.cons (Sub.imm (Imm.con _)) (.cons (Sub.ptr rfl rfl) (.cons (Sub.ptr rfl rfl) (.cons (Sub.ownE rfl rfl (by simp)) (.cons (Sub.ptr rfl rfl) (.cons (Sub.imm (Imm.con _)) (.cons (Sub.ptr rfl rfl) (.cons (Sub.imm (Imm.lst _ _)) (.cons (Sub.imm (Imm.con _)) (.cons (Sub.imm (Imm.con _)) (.cons (Sub.imm (Imm.lst _ _)) (.cons (Sub.imm (Imm.con _)) (.cons (Sub.imm (Imm.con _)) (.cons (Sub.imm (Imm.lst _ _)) (.cons (Sub.imm (Imm.con _)) (.cons (Sub.imm (Imm.con _)) (.cons (Sub.imm (Imm.con _)) (.cons (Sub.imm (Imm.con _)) (.cons (Sub.imm (Imm.lst _ _)) (.cons (Sub.imm (Imm.con _)) (.cons (Sub.imm (Imm.con _)) (.cons (Sub.imm (Imm.con _)) .nil)))))))))))))))))))))))) (q6i.get (.cons rfl (q4b.box (.cons (Sub.imm (Imm.con _)) (.cons (Sub.imm (Imm.lst _ _)) (.cons (Sub.imm (Imm.lst _ _)) .nil)))) (.cons rfl (q4b.box (.cons (Sub.imm (Imm.lst _ _)) (.cons (Sub.imm (Imm.lst _ _)) (.cons (Sub.imm (Imm.lst _ _)) (.cons (Sub.imm (Imm.lst _ _)) (.cons (Sub.imm (Imm.imap _)) (.cons (Sub.imm (Imm.imap _)) .nil))))))) (.cons rfl (q4b.rows (q3b q2f)) (.cons rfl (q4b.box (.cons (Sub.imm (Imm.con _)) (.cons (Sub.imm (Imm.con _)) (.cons (Sub.imm (Imm.con _)) .nil)))) (.cons rfl (q4b.box (.cons (Sub.imm (Imm.con _)) (.cons (Sub.imm (Imm.con _)) .nil))) .nil)))))) rfl)
                refine rn 1 rfl ?_
                exact jX l190 h (gr [0,1,2,3,4] rfl (hB rfl rfl rfl (hB rfl rfl rfl (hR rfl rfl (hB rfl rfl rfl (hB rfl rfl rfl .nil))))) rfl)
               intro l198 h
               refine rn 1 rfl ?_
               exact jX l198 h (gr [0,1,2,3,4] rfl (hB rfl rfl rfl (hB rfl rfl rfl (hR rfl rfl (hB rfl rfl rfl (hB rfl rfl rfl .nil))))) rfl)
              refine rn 10 rfl ?_
              exact jX l190 h (gr [0,1,2,3,4] rfl (hB rfl rfl rfl (hB rfl rfl rfl (hR rfl rfl (hB rfl rfl rfl (hB rfl rfl rfl .nil))))) rfl)
             intro l193 h
             refine rn 4 rfl ?_
             exact jX ((w64 (n189+1)),l193) (hk11 _ h) (gr [0,1,2,3,4] rfl (hB rfl rfl rfl (hB rfl rfl rfl (hR rfl rfl (hB rfl rfl rfl (hB rfl rfl rfl .nil))))) rfl)
            replace h:=RG.f h hb191
            unfold z6b at h
            refine rn 1 rfl ?_
            exact jX l190 h (gr [0,1,2,3] rfl (hB rfl rfl rfl (hB rfl rfl rfl (hR rfl rfl (hB rfl rfl rfl .nil)))) rfl)
           intro l186 h
           refine rn 1 rfl ?_
           exact jX (true,l186) h (gr [0,1,2,3] rfl (hB rfl rfl rfl (hB rfl rfl rfl (hR rfl rfl (hB rfl rfl rfl .nil)))) rfl)
          refine rn 4 rfl ?_
          refine fxO 128 hb25 rfl ?_
          refine rn 10 rfl ?_
          refine ln rfl rfl ?_
          refine rn 2 rfl ?_
          refine jK h (fun(p:Bool×(List Bool))=>(⟨[(1,(iV a2)),(3,(sV a4)),(9,(V.ptr 0 3 0 0)),(13,(V.ptr 1 6 0 0)),(17,(V.own 2 (p.2).length)),(20,(V.ptr 3 3 0 0)),(21,(bV (p.1))),(86,(V.lst 3 (a5.Hops.map q3c))),(87,(iV ((a5.Hops.length:Nat):Int))),(88,(iV n143)),(100,(V.lst 3 (((q6b y9.links s142).getD ([]:(List q0a))).map q6a))),(101,(iV ((((q6b y9.links s142).getD ([]:(List q0a))).length:Nat):Int))),(102,(iV n159)),(112,(V.lst 2 (x165.aims.map q0b))),(113,(iV ((x165.aims.length:Nat):Int))),(114,(iV n175)),(126,(bV (a2==1))),(131,(bV (x181.typ==([]:B8))))],[(0,(Ob.arr 61 3 [(q0d a5)])),(1,(Ob.arr 155 6 [(q3a y9)])),(2,(Ob.arr 4 1 ((p.2).map q9h))),(3,(Ob.arr 80 3 [(q3c x149)]))],4⟩:St)) (fun k203 p=>k203 p.1 p.2=some r) (fun k203 h=>?_) ?_
          ·refine rn 1 rfl ?_
           refine wl (A:=a5.Made) 134 rfl (fun hA225=>?_)
           refine lC (fun(p:Bool×Int×(List Bool))=>(⟨[(1,(iV a2)),(3,(sV a4)),(9,(V.ptr 0 3 0 0)),(13,(V.ptr 1 6 0 0)),(17,(V.own 2 (p.2.2).length)),(20,(V.ptr 3 3 0 0)),(21,(bV (p.1))),(25,(V.ptr 4 2 0 0)),(86,(V.lst 3 (a5.Hops.map q3c))),(87,(iV ((a5.Hops.length:Nat):Int))),(88,(iV n143)),(100,(V.lst 3 (((q6b y9.links s142).getD ([]:(List q0a))).map q6a))),(101,(iV ((((q6b y9.links s142).getD ([]:(List q0a))).length:Nat):Int))),(102,(iV n159)),(112,(V.lst 2 (x165.aims.map q0b))),(113,(iV ((x165.aims.length:Nat):Int))),(114,(iV n175)),(126,(bV (a2==1))),(131,(bV (x181.typ==([]:B8)))),(134,(V.lst 2 (a5.Made.map q9b))),(135,(iV ((a5.Made.length:Nat):Int))),(136,(iV (p.2.1)))],[(0,(Ob.arr 61 3 [(q0d a5)])),(1,(Ob.arr 155 6 [(q3a y9)])),(2,(Ob.arr 4 1 ((p.2.2).map q9h))),(3,(Ob.arr 80 3 [(q3c x149)])),(4,(Ob.arr 223 2 [(q0b x181)]))],5⟩:St)) (fun n p=>RG a5.Made (fun tl nn=>z5b F x181 k203 tl nn p.1 p.2.2=some r) n p.2.1) (fun p h=>RG.zero h) (a5.Made.length+1) ((x181.typ==([]:B8)),0,l176) (RG.start h) (gr [0,1,2,3,4] rfl (hB rfl rfl rfl (hB rfl rfl rfl (hR rfl rfl (hB rfl rfl rfl (hB rfl rfl rfl .nil))))) rfl) (fun n p h=>?_)
           obtain⟨b209,n210,l211⟩:=p
           refine rn 5 rfl ?_
           refine spL rfl (fun hb212=>?_) (fun hb212=>?_)
           ·obtain⟨x216,tl,hx217,h,hk12⟩:=RG.t hA225 h hb212
            unfold z5b at h
            refine rn 2 rfl ?_
            refine jK h (fun(p:Bool×(List Bool))=>(⟨[(1,(iV a2)),(3,(sV a4)),(9,(V.ptr 0 3 0 0)),(13,(V.ptr 1 6 0 0)),(17,(V.own 2 (p.2).length)),(20,(V.ptr 3 3 0 0)),(21,(bV (p.1))),(25,(V.ptr 4 2 0 0)),(86,(V.lst 3 (a5.Hops.map q3c))),(87,(iV ((a5.Hops.length:Nat):Int))),(88,(iV n143)),(100,(V.lst 3 (((q6b y9.links s142).getD ([]:(List q0a))).map q6a))),(101,(iV ((((q6b y9.links s142).getD ([]:(List q0a))).length:Nat):Int))),(102,(iV n159)),(112,(V.lst 2 (x165.aims.map q0b))),(113,(iV ((x165.aims.length:Nat):Int))),(114,(iV n175)),(126,(bV (a2==1))),(131,(bV (x181.typ==([]:B8)))),(134,(V.lst 2 (a5.Made.map q9b))),(135,(iV ((a5.Made.length:Nat):Int))),(136,(iV n210))],[(0,(Ob.arr 61 3 [(q0d a5)])),(1,(Ob.arr 155 6 [(q3a y9)])),(2,(Ob.arr 4 1 ((p.2).map q9h))),(3,(Ob.arr 80 3 [(q3c x149)])),(4,(Ob.arr 223 2 [(q0b x181)]))],5⟩:St)) (fun k213 p=>k213 p.1 p.2=some r) (fun k213 h=>?_) ?_
            ·refine rn 4 rfl ?_
             refine ixh hx217 rfl rfl ?_
             refine rn 11 rfl ?_
             refine spO 144 h rfl (fun hb218 h=>?_) (fun hb218 h=>?_)
             ·refine rn 7 rfl ?_
              refine jK h (fun(p:Bool×(List Bool))=>(⟨[(1,(iV a2)),(3,(sV a4)),(9,(V.ptr 0 3 0 0)),(13,(V.ptr 1 6 0 0)),(17,(V.own 2 (p.2).length)),(20,(V.ptr 3 3 0 0)),(21,(bV (p.1))),(25,(V.ptr 4 2 0 0)),(86,(V.lst 3 (a5.Hops.map q3c))),(87,(iV ((a5.Hops.length:Nat):Int))),(88,(iV n143)),(100,(V.lst 3 (((q6b y9.links s142).getD ([]:(List q0a))).map q6a))),(101,(iV ((((q6b y9.links s142).getD ([]:(List q0a))).length:Nat):Int))),(102,(iV n159)),(112,(V.lst 2 (x165.aims.map q0b))),(113,(iV ((x165.aims.length:Nat):Int))),(114,(iV n175)),(126,(bV (a2==1))),(131,(bV (x181.typ==([]:B8)))),(134,(V.lst 2 (a5.Made.map q9b))),(135,(iV ((a5.Made.length:Nat):Int))),(136,(iV n210)),(149,(bV (x216.Type_==x181.typ)))],[(0,(Ob.arr 61 3 [(q0d a5)])),(1,(Ob.arr 155 6 [(q3a y9)])),(2,(Ob.arr 4 1 ((p.2).map q9h))),(3,(Ob.arr 80 3 [(q3c x149)])),(4,(Ob.arr 223 2 [(q0b x181)]))],5⟩:St)) (fun k219 p=>k219 p.1 p.2=some r) (fun k219 h=>?_) ?_
              ·refine spC h rfl (fun hb222 h=>?_) (fun hb222 h=>?_)
               ·refine rn 4 rfl ?_
                refine ixo (a:=l211) h rfl rfl rfl (fun x223 hx224 h=>?_)
                refine stS true hx224 rfl rfl rfl rfl rfl rfl ?_
                refine rn 1 rfl ?_
                exact jX (true,(l211.set n210.toNat true)) h (q9g 5 (fun i=>([0,1,2,3,4]:List Nat).getD i 0) _ _ (by decide) (q9k.get (.cons (Sub.imm (Imm.con _)) (.cons (Sub.imm (Imm.con _)) (.cons (Sub.ptr rfl rfl) (.cons (Sub.ptr rfl rfl) (.cons (Sub.ownE rfl rfl (by simp)) (.cons (Sub.ptr rfl rfl) (.cons (Sub.imm (Imm.con _)) (.cons (Sub.ptr rfl rfl) (.cons (Sub.imm (Imm.lst _ _)) (.cons (Sub.imm (Imm.con _)) (.cons (Sub.imm (Imm.con _)) (.cons (Sub.imm (Imm.lst _ _)) (.cons (Sub.imm (Imm.con _)) (.cons (Sub.imm (Imm.con _)) (.cons (Sub.imm (Imm.lst _ _)) (.cons (Sub.imm (Imm.con _)) (.cons (Sub.imm (Imm.con _)) (.cons (Sub.imm (Imm.con _)) (.cons (Sub.imm (Imm.con _)) (.cons (Sub.imm (Imm.lst _ _)) (.cons (Sub.imm (Imm.con _)) (.cons (Sub.imm (Imm.con _)) (.cons (Sub.imm (Imm.con _)) .nil)))))))))))))))))))))))) (q6i.get (.cons rfl (q4b.box (.cons (Sub.imm (Imm.con _)) (.cons (Sub.imm (Imm.lst _ _)) (.cons (Sub.imm (Imm.lst _ _)) .nil)))) (.cons rfl (q4b.box (.cons (Sub.imm (Imm.lst _ _)) (.cons (Sub.imm (Imm.lst _ _)) (.cons (Sub.imm (Imm.lst _ _)) (.cons (Sub.imm (Imm.lst _ _)) (.cons (Sub.imm (Imm.imap _)) (.cons (Sub.imm (Imm.imap _)) .nil))))))) (.cons rfl (q4b.rows (q3b q2f)) (.cons rfl (q4b.box (.cons (Sub.imm (Imm.con _)) (.cons (Sub.imm (Imm.con _)) (.cons (Sub.imm (Imm.con _)) .nil)))) (.cons rfl (q4b.box (.cons (Sub.imm (Imm.con _)) (.cons (Sub.imm (Imm.con _)) .nil))) .nil)))))) rfl)
               refine rn 1 rfl ?_
               exact jX (b209,l211) h (gr [0,1,2,3,4] rfl (hB rfl rfl rfl (hB rfl rfl rfl (hR rfl rfl (hB rfl rfl rfl (hB rfl rfl rfl .nil))))) rfl)
              rintro⟨b220,l221⟩ h
              refine rn 1 rfl ?_
              exact jX (b220,l221) h (gr [0,1,2,3,4] rfl (hB rfl rfl rfl (hB rfl rfl rfl (hR rfl rfl (hB rfl rfl rfl (hB rfl rfl rfl .nil))))) rfl)
             refine rn 10 rfl ?_
             exact jX (b209,l211) h (gr [0,1,2,3,4] rfl (hB rfl rfl rfl (hB rfl rfl rfl (hR rfl rfl (hB rfl rfl rfl (hB rfl rfl rfl .nil))))) rfl)
            rintro⟨b214,l215⟩ h
            refine rn 4 rfl ?_
            exact jX (b214,(w64 (n210+1)),l215) (hk12 _ h) (gr [0,1,2,3,4] rfl (hB rfl rfl rfl (hB rfl rfl rfl (hR rfl rfl (hB rfl rfl rfl (hB rfl rfl rfl .nil))))) rfl)
           replace h:=RG.f h hb212
           unfold z5b at h
           refine rn 1 rfl ?_
           exact jX (b209,l211) h (gr [0,1,2,3] rfl (hB rfl rfl rfl (hB rfl rfl rfl (hR rfl rfl (hB rfl rfl rfl .nil)))) rfl)
          rintro⟨b204,l205⟩ h
          refine rn 1 rfl ?_
          exact jX (b204,l205) h (gr [0,1,2,3] rfl (hB rfl rfl rfl (hB rfl rfl rfl (hR rfl rfl (hB rfl rfl rfl .nil)))) rfl)
         rintro⟨b179,l180⟩ h
         refine rn 4 rfl ?_
         exact jX (b179,(w64 (n175+1)),l180) (hk10 _ h) (gr [0,1,2,3] rfl (hB rfl rfl rfl (hB rfl rfl rfl (hR rfl rfl (hB rfl rfl rfl .nil)))) rfl)
        replace h:=RG.f h hb177
        unfold q4w at h
        refine rn 1 rfl ?_
        exact jX (b174,l176) h (gr [0,1,2,3] rfl (hB rfl rfl rfl (hB rfl rfl rfl (hR rfl rfl (hB rfl rfl rfl .nil)))) rfl)
       rintro⟨b169,l170⟩ h
       refine rn 1 rfl ?_
       exact jX (b169,l170) h (gr [0,1,2,3] rfl (hB rfl rfl rfl (hB rfl rfl rfl (hR rfl rfl (hB rfl rfl rfl .nil)))) rfl)
      rintro⟨b163,l164⟩ h
      refine rn 4 rfl ?_
      exact jX (b163,(w64 (n159+1)),l164) (hk9 _ h) (gr [0,1,2,3] rfl (hB rfl rfl rfl (hB rfl rfl rfl (hR rfl rfl (hB rfl rfl rfl .nil)))) rfl)
     replace h:=RG.f h hb161
     unfold z5x at h
     refine rn 1 rfl ?_
     exact jX (b158,l160) h (gr [0,1,2,3] rfl (hB rfl rfl rfl (hB rfl rfl rfl (hR rfl rfl (hB rfl rfl rfl .nil)))) rfl)
    rintro⟨b153,l154⟩ h
    refine rn 6 rfl ?_
    refine spC h rfl (fun hb228 h=>?_) (fun hb228 h=>?_)
    ·refine rn 5 rfl ?_
     exact rt h rfl
    refine rn 7 rfl ?_
    exact jX (x149.To,l154) h (gr [0,1,2] rfl (hB rfl rfl rfl (hB rfl rfl rfl (hR rfl rfl .nil))) rfl)
   rintro⟨s147,l148⟩ h
   refine rn 4 rfl ?_
   exact jX (s147,(w64 (n143+1)),l148) (hk8 _ h) (gr [0,1,2] rfl (hB rfl rfl rfl (hB rfl rfl rfl (hR rfl rfl .nil))) rfl)
  replace h:=RG.f h hb145
  unfold j0j at h
  refine rn 1 rfl ?_
  exact jX (s142,l144) h (gr [2] rfl (hR rfl rfl .nil) rfl)
 rintro⟨s137,l138⟩ h
 refine rn 7 rfl ?_
 refine jK h (fun _:Unit=>(⟨[(3,(sV a4)),(18,(sV s137))],[],0⟩:St)) (fun k230 (_:Unit)=>k230=some r) (fun k230 h=>?_) ?_
 ·refine rn 1 rfl ?_
  refine wlO (A:=l138) 0 rfl (fun hA237=>?_)
  refine lC (fun(p:Int)=>(⟨[(3,(sV a4)),(18,(sV s137)),(162,(V.own 0 l138.length)),(163,(iV ((l138.length:Nat):Int))),(164,(iV p))],[(0,(Ob.arr 4 1 (l138.map q9h)))],1⟩:St)) (fun n p=>RG l138 (fun tl nn=>z4m F k230 tl=some r) n p) (fun p h=>RG.zero h) (l138.length+1) 0 (RG.start h) (gr [0] rfl (hR rfl rfl .nil) rfl) (fun n n232 h=>?_)
  refine rn 5 rfl ?_
  refine spL rfl (fun hb233=>?_) (fun hb233=>?_)
  ·obtain⟨x234,tl,hx235,h,hk13⟩:=RG.t hA237 h hb233
   unfold z4m at h
   refine rn 5 rfl ?_
   refine ixoh (a:=l138) hx235 rfl rfl rfl ?_
   refine ldp hx235 rfl rfl rfl rfl ?_
   refine rn 7 rfl ?_
   refine spC h rfl (fun hb236 h=>?_) (fun hb236 h=>?_)
   ·refine rn 5 rfl ?_
    exact rt h rfl
   refine rn 6 rfl ?_
   exact jX (w64 (n232+1)) (hk13 _ h) (gr [0] rfl (hR rfl rfl .nil) rfl)
  replace h:=RG.f h hb233
  unfold z4m at h
  refine rn 1 rfl ?_
  exact jX () h (g0 rfl rfl)
 intro _ h
 refine rn 8 rfl ?_
 exact rt h rfl
theorem W10(F:Nat)(a1:q7c)(a2:Int)(a3:(List B8))(a4:B8)(a5:Int)(a6:Bool)(r:Bool)(h:M10 F a1 a2 a3 a4 a5 a6=some r):q5n Tryz.prog 10 [(V.agg (q3d a1)),(iV a2),(V.lst 1 (a3.map q6f)),(sV a4),(iV a5),(bV a6)] (bV r):=by
 refine pin (fun r=>(bV r)) r rfl Tryz.func10 rfl rfl rfl rfl rfl (fun w0 m0 hg=>?_)
 unfold M10 at h
 refine rn 11 rfl ?_
 refine cl h rfl rfl rfl (W28 _ _ _ _ _) rfl (fun y7 hx8 h=>?_)
 refine rn 15 rfl ?_
 refine spO 34 h rfl (fun hb9 h=>?_) (fun hb9 h=>?_)
 ·refine rn 11 rfl ?_
  refine cl h rfl rfl rfl (W29 _ _ _ _ _) rfl (fun y10 hx11 h=>?_)
  refine rn 15 rfl ?_
  refine spO 50 h rfl (fun hb12 h=>?_) (fun hb12 h=>?_)
  ·refine rn 5 rfl ?_
   refine spO 55 h rfl (fun hb13 h=>?_) (fun hb13 h=>?_)
   ·refine cl h rfl rfl rfl (W14 _) rfl (fun y14 hx15 h=>?_)
    refine rn 3 rfl ?_
    exact rt h rfl
   refine rn 4 rfl ?_
   exact rt h rfl
  refine rn 9 rfl ?_
  exact rt h rfl
 refine rn 4 rfl ?_
 refine spC h rfl (fun hb16 h=>?_) (fun hb16 h=>?_)
 ·refine rn 6 rfl ?_
  refine cl h rfl rfl rfl (W29 _ _ _ _ _) rfl (fun y17 hx18 h=>?_)
  refine rn 15 rfl ?_
  refine spO 50 h rfl (fun hb19 h=>?_) (fun hb19 h=>?_)
  ·refine rn 5 rfl ?_
   refine spO 55 h rfl (fun hb20 h=>?_) (fun hb20 h=>?_)
   ·refine cl h rfl rfl rfl (W14 _) rfl (fun y21 hx22 h=>?_)
    refine rn 3 rfl ?_
    exact rt h rfl
   refine rn 4 rfl ?_
   exact rt h rfl
  refine rn 9 rfl ?_
  exact rt h rfl
 refine rn 2 rfl ?_
 refine jK h (fun(p:(List q5j)×(List q0c))=>(⟨[(1,(iV a2)),(2,(V.lst 1 (a3.map q6f))),(3,(sV a4)),(5,(bV a6)),(6,(V.ptr 0 4 0 0)),(13,(V.ptr 1 3 0 0))],[(0,(Ob.arr 27 4 [(q3d a1)])),(1,(Ob.arr 61 3 [[(sV (y7.1).Entry),(V.lst 3 ((p.1).map q3c)),(V.lst 2 ((p.2).map q9b))]]))],2⟩:St)) (fun k23 p=>k23 p.1 p.2=some r) (fun k23 h=>?_) ?_
 ·refine rn 5 rfl ?_
  refine spO 61 h rfl (fun hb26 h=>?_) (fun hb26 h=>?_)
  ·refine rn 4 rfl ?_
   refine spO 65 h rfl (fun hb27 h=>?_) (fun hb27 h=>?_)
   ·refine rn 3 rfl ?_
    refine ln rfl rfl ?_
    refine rn 4 rfl ?_
    refine jK h (fun(p:(List q5j)×(List q0c))=>(⟨[(1,(iV a2)),(2,(V.lst 1 (a3.map q6f))),(3,(sV a4)),(5,(bV a6)),(6,(V.ptr 0 4 0 0)),(13,(V.ptr 1 3 0 0))],[(0,(Ob.arr 27 4 [(q3d a1)])),(1,(Ob.arr 61 3 [[(sV (y7.1).Entry),(V.lst 3 ((p.1).map q3c)),(V.lst 2 ((p.2).map q9b))]]))],2⟩:St)) (fun k28 p=>k28 p.1 p.2=some r) (fun k28 h=>?_) ?_
    ·refine spC h rfl (fun hb31 h=>?_) (fun hb31 h=>?_)
     ·obtain⟨y32,hx33,h⟩:=bind_some h
      refine rn 3 rfl ?_
      refine q0k (V.own 2 y32.length) [(V.lst 2 ((y7.1).Made.map q9b))] (fun i=>([]:List Nat).getD i 0) (fun i=>([2]:List Nat).getD i 0) 2 3 [(2,(Ob.arr 76 2 (y32.map q9b)))] fOk37 q7a rfl (q4f rfl q8k) (.cons (Sub.imm (Imm.lst _ _)) .nil) .nil (W37 F ((y7.1).Made) y32 hx33) rfl rfl rfl rfl (Sub.ownT rfl rfl) (.cons rfl (q4b.rowsT (q3b q1h)) .nil) _ rfl ?_
      obtain⟨y34,hx35,h⟩:=bind_some h
      refine fo (rn 3 rfl ?_)
      refine q0k (V.own 2 y34.length) [(V.own 2 y32.length),(iV a5),(iV (w64 (a5+1)))] (fun i=>([2]:List Nat).getD i 0) (fun i=>([2]:List Nat).getD i 0) 3 3 [(2,(Ob.arr 76 2 (y34.map q9b)))] fOk36 q7a rfl (q4f rfl (q4f rfl (q4f rfl q8k))) (.cons (Sub.own rfl rfl) (.cons (Sub.imm (Imm.con _)) (.cons (Sub.imm (Imm.con _)) .nil))) (.cons rfl (q4b.rows (q3b q1h)) .nil) (W36 F a5 (w64 (a5+1)) y32 y34 hx35) rfl rfl rfl rfl (Sub.ownT rfl rfl) (.cons rfl (q4b.rowsT (q3b q1h)) .nil) _ rfl ?_
      refine fo (rn 3 rfl ?_)
      exact jX ((y7.1).Hops,y34) h (q8h.trans (q7m 2 1 (Ob.arr 61 3 [[(sV (y7.1).Entry),(V.lst 3 ((y7.1).Hops.map q3c)),(V.lst 2 (y34.map q9b))]]) rfl (q3b q1h) (q4b.box (.cons Sub.keep (.cons Sub.keep (.cons (Sub.frzAll (rows:=y34.map q9b) (List.length_map ..).symm) .nil))))) (gr [0,1] rfl (hB rfl rfl rfl (hB rfl rfl rfl .nil)) rfl))
     refine rn 5 rfl ?_
     refine spO 83 h rfl (fun hb36 h=>?_) (fun hb36 h=>?_)
     ·refine rn 4 rfl ?_
      refine fxO 87 hb27 rfl ?_
      refine rn 3 rfl ?_
      refine ln rfl rfl ?_
      refine rn 4 rfl ?_
      refine spC h rfl (fun hb37 h=>?_) (fun hb37 h=>?_)
      ·obtain⟨y38,hx39,h⟩:=bind_some h
       refine rn 3 rfl ?_
       refine q0k (V.own 2 y38.length) [(V.lst 3 ((y7.1).Hops.map q3c))] (fun i=>([]:List Nat).getD i 0) (fun i=>([2]:List Nat).getD i 0) 2 3 [(2,(Ob.arr 80 3 (y38.map q3c)))] fOk39 q7a rfl (q4f rfl q8k) (.cons (Sub.imm (Imm.lst _ _)) .nil) .nil (W39 F ((y7.1).Hops) y38 hx39) rfl rfl rfl rfl (Sub.ownT rfl rfl) (.cons rfl (q4b.rowsT (q3b q7h)) .nil) _ rfl ?_
       obtain⟨y40,hx41,h⟩:=bind_some h
       refine fo (rn 3 rfl ?_)
       refine q0k (V.own 2 y40.length) [(V.own 2 y38.length),(iV a5),(iV (w64 (a5+1)))] (fun i=>([2]:List Nat).getD i 0) (fun i=>([2]:List Nat).getD i 0) 3 3 [(2,(Ob.arr 80 3 (y40.map q3c)))] fOk38 q7a rfl (q4f rfl (q4f rfl (q4f rfl q8k))) (.cons (Sub.own rfl rfl) (.cons (Sub.imm (Imm.con _)) (.cons (Sub.imm (Imm.con _)) .nil))) (.cons rfl (q4b.rows (q3b q7h)) .nil) (W38 F a5 (w64 (a5+1)) y38 y40 hx41) rfl rfl rfl rfl (Sub.ownT rfl rfl) (.cons rfl (q4b.rowsT (q3b q7h)) .nil) _ rfl ?_
       refine fo (rn 3 rfl ?_)
       exact jX (y40,(y7.1).Made) h (q8h.trans (q7m 2 1 (Ob.arr 61 3 [[(sV (y7.1).Entry),(V.lst 3 (y40.map q3c)),(V.lst 2 ((y7.1).Made.map q9b))]]) rfl (q3b q7h) (q4b.box (.cons Sub.keep (.cons (Sub.frzAll (rows:=y40.map q3c) (List.length_map ..).symm) (.cons Sub.keep .nil))))) (gr [0,1] rfl (hB rfl rfl rfl (hB rfl rfl rfl .nil)) rfl))
      refine rn 2 rfl ?_
      refine cl h rfl rfl rfl (W14 _) rfl (fun y42 hx43 h=>?_)
      refine rn 2 rfl ?_
      exact rt h rfl
     refine rn 15 rfl ?_
     refine cl h rfl rfl rfl (W14 _) rfl (fun y44 hx45 h=>?_)
     refine rn 2 rfl ?_
     exact rt h rfl
    rintro⟨l29,l30⟩ h
    refine rn 1 rfl ?_
    exact jX (l29,l30) h (gr [0,1] rfl (hB rfl rfl rfl (hB rfl rfl rfl .nil)) rfl)
   refine rn 14 rfl ?_
   refine spO 83 h rfl (fun hb46 h=>?_) (fun hb46 h=>?_)
   ·refine rn 4 rfl ?_
    refine fxO 87 hb27 rfl ?_
    refine rn 11 rfl ?_
    refine cl h rfl rfl rfl (W14 _) rfl (fun y47 hx48 h=>?_)
    refine rn 2 rfl ?_
    exact rt h rfl
   refine rn 15 rfl ?_
   refine cl h rfl rfl rfl (W14 _) rfl (fun y49 hx50 h=>?_)
   refine rn 2 rfl ?_
   exact rt h rfl
  refine rn 18 rfl ?_
  refine spO 83 h rfl (fun hb51 h=>?_) (fun hb51 h=>?_)
  ·refine rn 4 rfl ?_
   refine spO 87 h rfl (fun hb52 h=>?_) (fun hb52 h=>?_)
   ·refine rn 3 rfl ?_
    refine ln rfl rfl ?_
    refine rn 4 rfl ?_
    refine spC h rfl (fun hb53 h=>?_) (fun hb53 h=>?_)
    ·obtain⟨y54,hx55,h⟩:=bind_some h
     refine rn 3 rfl ?_
     refine q0k (V.own 2 y54.length) [(V.lst 3 ((y7.1).Hops.map q3c))] (fun i=>([]:List Nat).getD i 0) (fun i=>([2]:List Nat).getD i 0) 2 3 [(2,(Ob.arr 80 3 (y54.map q3c)))] fOk39 q7a rfl (q4f rfl q8k) (.cons (Sub.imm (Imm.lst _ _)) .nil) .nil (W39 F ((y7.1).Hops) y54 hx55) rfl rfl rfl rfl (Sub.ownT rfl rfl) (.cons rfl (q4b.rowsT (q3b q7h)) .nil) _ rfl ?_
     obtain⟨y56,hx57,h⟩:=bind_some h
     refine fo (rn 3 rfl ?_)
     refine q0k (V.own 2 y56.length) [(V.own 2 y54.length),(iV a5),(iV (w64 (a5+1)))] (fun i=>([2]:List Nat).getD i 0) (fun i=>([2]:List Nat).getD i 0) 3 3 [(2,(Ob.arr 80 3 (y56.map q3c)))] fOk38 q7a rfl (q4f rfl (q4f rfl (q4f rfl q8k))) (.cons (Sub.own rfl rfl) (.cons (Sub.imm (Imm.con _)) (.cons (Sub.imm (Imm.con _)) .nil))) (.cons rfl (q4b.rows (q3b q7h)) .nil) (W38 F a5 (w64 (a5+1)) y54 y56 hx57) rfl rfl rfl rfl (Sub.ownT rfl rfl) (.cons rfl (q4b.rowsT (q3b q7h)) .nil) _ rfl ?_
     refine fo (rn 4 rfl ?_)
     exact jX (y56,(y7.1).Made) h (q8h.trans (q7m 2 1 (Ob.arr 61 3 [[(sV (y7.1).Entry),(V.lst 3 (y56.map q3c)),(V.lst 2 ((y7.1).Made.map q9b))]]) rfl (q3b q7h) (q4b.box (.cons Sub.keep (.cons (Sub.frzAll (rows:=y56.map q3c) (List.length_map ..).symm) (.cons Sub.keep .nil))))) (gr [0,1] rfl (hB rfl rfl rfl (hB rfl rfl rfl .nil)) rfl))
    refine rn 2 rfl ?_
    refine cl h rfl rfl rfl (W14 _) rfl (fun y58 hx59 h=>?_)
    refine rn 2 rfl ?_
    exact rt h rfl
   refine rn 11 rfl ?_
   refine cl h rfl rfl rfl (W14 _) rfl (fun y60 hx61 h=>?_)
   refine rn 2 rfl ?_
   exact rt h rfl
  refine rn 15 rfl ?_
  refine cl h rfl rfl rfl (W14 _) rfl (fun y62 hx63 h=>?_)
  refine rn 2 rfl ?_
  exact rt h rfl
 rintro⟨l24,l25⟩ h
 refine rn 7 rfl ?_
 refine cl h rfl rfl rfl (W31 _ _ _ _ _ _) rfl (fun y64 hx65 h=>?_)
 refine rn 13 rfl ?_
 refine cl h rfl rfl rfl (W40 _ _ _ _ _ _) rfl (fun y66 hx67 h=>?_)
 refine rn 12 rfl ?_
 refine spO 123 h rfl (fun hb68 h=>?_) (fun hb68 h=>?_)
 ·refine rn 2 rfl ?_
  refine spO 125 h rfl (fun hb69 h=>?_) (fun hb69 h=>?_)
  ·refine rn 9 rfl ?_
   refine spO 134 h rfl (fun hb70 h=>?_) (fun hb70 h=>?_)
   ·refine cl h rfl rfl rfl (W14 _) rfl (fun y71 hx72 h=>?_)
    refine rn 3 rfl ?_
    exact rt h rfl
   refine rn 4 rfl ?_
   exact rt h rfl
  refine rn 5 rfl ?_
  refine spO 130 h rfl (fun hb73 h=>?_) (fun hb73 h=>?_)
  ·refine rn 4 rfl ?_
   refine spO 134 h rfl (fun hb74 h=>?_) (fun hb74 h=>?_)
   ·refine cl h rfl rfl rfl (W14 _) rfl (fun y75 hx76 h=>?_)
    refine rn 3 rfl ?_
    exact rt h rfl
   refine rn 4 rfl ?_
   exact rt h rfl
  refine rn 8 rfl ?_
  exact rt h rfl
 refine rn 15 rfl ?_
 exact rt h rfl
end Go.Proofs.YtpbkggamiipdmaaGreat
