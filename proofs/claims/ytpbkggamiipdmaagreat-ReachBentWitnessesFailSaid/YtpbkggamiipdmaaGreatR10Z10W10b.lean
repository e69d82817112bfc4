/- Part of the proof: Z10W10b. -/
import Derived.Test.YtpbkggamiipdmaaGreatR10Z10M
import Derived.Test.YtpbkggamiipdmaaGreatR10Z10Del
import Derived.Test.YtpbkggamiipdmaaGreatR10Z10O
import Derived.Test.YtpbkggamiipdmaaGreatR10Z10W10a
import Derived.KernelRfl
namespace Go.Proofs.YtpbkggamiipdmaaGreat
open Go Go.Pv
set_option linter.unusedVariables false
set_option maxRecDepth 100000
theorem W136(F:Nat)(a1:q8b)(r:Int)(h:M136 F a1=some r):q5n Tryz.prog 136 [(V.agg (q4c a1))] (iV r):=by
 refine pin (fun r=>(iV r)) r rfl Tryz.func136 rfl rfl rfl rfl rfl (fun w0 m0 hg=>?_)
 unfold M136 at h
 refine rn 15 rfl ?_
 refine ln rfl rfl ?_
 refine rn 2 rfl ?_
 refine jK h (fun _:Unit=>(⟨[],[],0⟩:St)) (fun k2 (_:Unit)=>k2=some r) (fun k2 h=>?_) ?_
 ·refine rn 1 rfl ?_
  refine wl (A:=a1.g.Ifaces) 11 rfl (fun hA31=>?_)
  refine lC (fun(p:B8×Int)=>(⟨[(3,(sV (p.1))),(11,(V.lst 2 (a1.g.Ifaces.map q2d))),(12,(iV ((a1.g.Ifaces.length:Nat):Int))),(13,(iV (p.2)))],[],0⟩:St)) (fun n p=>RG a1.g.Ifaces (fun tl nn=>z2c F k2 tl p.1=some r) n p.2) (fun p h=>RG.zero h) (a1.g.Ifaces.length+1) (([]:B8),0) (RG.start h) (g0 rfl rfl) (fun n p h=>?_)
  obtain⟨s5,n6⟩:=p
  refine rn 5 rfl ?_
  refine spL rfl (fun hb7=>?_) (fun hb7=>?_)
  ·obtain⟨x10,tl,hx11,h,hk1⟩:=RG.t hA31 h hb7
   unfold z2c at h
   refine rn 2 rfl ?_
   refine jK h (fun(p:B8)=>(⟨[(3,(sV p)),(11,(V.lst 2 (a1.g.Ifaces.map q2d))),(12,(iV ((a1.g.Ifaces.length:Nat):Int))),(13,(iV n6))],[],0⟩:St)) (fun k8 p=>k8 p=some r) (fun k8 h=>?_) ?_
   ·refine rn 3 rfl ?_
    refine ixh hx11 rfl rfl ?_
    refine rn 10 rfl ?_
    refine cl h rfl rfl rfl (W82 _ _) rfl (fun y12 hx13 h=>?_)
    refine rn 3 rfl ?_
    refine spC h rfl (fun hb14 h=>?_) (fun hb14 h=>?_)
    ·refine rn 4 rfl ?_
     exact rt h rfl
    refine rn 8 rfl ?_
    refine spC h rfl (fun hb15 h=>?_) (fun hb15 h=>?_)
    ·refine rn 4 rfl ?_
     exact rt h rfl
    refine rn 4 rfl ?_
    refine ln rfl rfl ?_
    refine rn 3 rfl ?_
    refine spC h rfl (fun hb16 h=>?_) (fun hb16 h=>?_)
    ·refine rn 4 rfl ?_
     exact rt h rfl
    refine rn 4 rfl ?_
    refine ln rfl rfl ?_
    refine rn 3 rfl ?_
    refine spC h rfl (fun hb17 h=>?_) (fun hb17 h=>?_)
    ·refine rn 4 rfl ?_
     exact rt h rfl
    refine rn 12 rfl ?_
    refine ln rfl rfl ?_
    refine rn 2 rfl ?_
    refine jK h (fun _:Unit=>(⟨[(3,(sV x10.Name)),(11,(V.lst 2 (a1.g.Ifaces.map q2d))),(12,(iV ((a1.g.Ifaces.length:Nat):Int))),(13,(iV n6))],[],0⟩:St)) (fun k18 (_:Unit)=>k18=some r) (fun k18 h=>?_) ?_
    ·refine rn 1 rfl ?_
     refine wl (A:=x10.Methods) 29 rfl (fun hA30=>?_)
     refine lC (fun(p:Int)=>(⟨[(3,(sV x10.Name)),(5,(V.ptr 0 2 0 0)),(11,(V.lst 2 (a1.g.Ifaces.map q2d))),(12,(iV ((a1.g.Ifaces.length:Nat):Int))),(13,(iV n6)),(40,(V.lst 1 (x10.Methods.map q6f))),(41,(iV ((x10.Methods.length:Nat):Int))),(42,(iV p))],[(0,(Ob.arr 98 2 [(q2d x10)]))],1⟩:St)) (fun n p=>RG x10.Methods (fun tl nn=>z1g F x10 k18 tl nn=some r) n p) (fun p h=>RG.zero h) (x10.Methods.length+1) 0 (RG.start h) (gr [0] rfl (hB rfl rfl rfl .nil) rfl) (fun n n20 h=>?_)
     refine rn 5 rfl ?_
     refine spL rfl (fun hb21=>?_) (fun hb21=>?_)
     ·obtain⟨x22,tl,hx23,h,hk2⟩:=RG.t hA30 h hb21
      unfold z1g at h
      refine rn 6 rfl ?_
      refine ixh hx23 rfl rfl ?_
      refine rn 8 rfl ?_
      refine cl h rfl rfl rfl (W82 _ _) rfl (fun y24 hx25 h=>?_)
      refine rn 2 rfl ?_
      refine spC h rfl (fun hb26 h=>?_) (fun hb26 h=>?_)
      ·refine rn 4 rfl ?_
       exact rt h rfl
      refine rn 6 rfl ?_
      refine cl h rfl rfl rfl (W139 _ _ _) rfl (fun y27 hx28 h=>?_)
      refine rn 7 rfl ?_
      refine spC h rfl (fun hb29 h=>?_) (fun hb29 h=>?_)
      ·refine rn 5 rfl ?_
       exact rt h rfl
      refine rn 6 rfl ?_
      exact jX (w64 (n20+1)) (hk2 _ h) (gr [0] rfl (hB rfl rfl rfl .nil) rfl)
     replace h:=RG.f h hb21
     unfold z1g at h
     refine rn 1 rfl ?_
     exact jX () h (g0 rfl rfl)
    intro _ h
    refine rn 1 rfl ?_
    exact jX x10.Name h (g0 rfl rfl)
   intro s9 h
   refine rn 4 rfl ?_
   exact jX (s9,(w64 (n6+1))) (hk1 _ h) (g0 rfl rfl)
  replace h:=RG.f h hb7
  unfold z2c at h
  refine rn 1 rfl ?_
  exact jX () h (g0 rfl rfl)
 intro _ h
 refine rn 4 rfl ?_
 exact rt h rfl
theorem W137(F:Nat)(a1:q8b)(r:Int)(h:M137 F a1=some r):q5n Tryz.prog 137 [(V.agg (q4c a1))] (iV r):=by
 refine pin (fun r=>(iV r)) r rfl Tryz.func137 rfl rfl rfl rfl rfl (fun w0 m0 hg=>?_)
 unfold M137 at h
 refine rn 15 rfl ?_
 refine ln rfl rfl ?_
 refine rn 2 rfl ?_
 refine jK h (fun _:Unit=>(⟨[],[],0⟩:St)) (fun k2 (_:Unit)=>k2=some r) (fun k2 h=>?_) ?_
 ·refine rn 1 rfl ?_
  refine wl (A:=a1.g.Types) 11 rfl (fun hA33=>?_)
  refine lC (fun(p:B8×Int)=>(⟨[(1,(V.ptr 0 8 0 0)),(3,(sV (p.1))),(11,(V.lst 2 (a1.g.Types.map q6e))),(12,(iV ((a1.g.Types.length:Nat):Int))),(13,(iV (p.2)))],[(0,(Ob.arr 141 8 [(q4c a1)]))],1⟩:St)) (fun n p=>RG a1.g.Types (fun tl nn=>z0g F a1 k2 tl p.1=some r) n p.2) (fun p h=>RG.zero h) (a1.g.Types.length+1) (([]:B8),0) (RG.start h) (gr [0] rfl (hB rfl rfl rfl .nil) rfl) (fun n p h=>?_)
  obtain⟨s5,n6⟩:=p
  refine rn 5 rfl ?_
  refine spL rfl (fun hb7=>?_) (fun hb7=>?_)
  ·obtain⟨x10,tl,hx11,h,hk1⟩:=RG.t hA33 h hb7
   unfold z0g at h
   refine rn 2 rfl ?_
   refine jK h (fun(p:B8)=>(⟨[(1,(V.ptr 0 8 0 0)),(3,(sV p)),(11,(V.lst 2 (a1.g.Types.map q6e))),(12,(iV ((a1.g.Types.length:Nat):Int))),(13,(iV n6))],[(0,(Ob.arr 141 8 [(q4c a1)]))],1⟩:St)) (fun k8 p=>k8 p=some r) (fun k8 h=>?_) ?_
   ·refine rn 3 rfl ?_
    refine ixh hx11 rfl rfl ?_
    refine rn 10 rfl ?_
    refine cl h rfl rfl rfl (W82 _ _) rfl (fun y12 hx13 h=>?_)
    refine rn 3 rfl ?_
    refine spC h rfl (fun hb14 h=>?_) (fun hb14 h=>?_)
    ·refine rn 4 rfl ?_
     exact rt h rfl
    refine rn 8 rfl ?_
    refine spC h rfl (fun hb15 h=>?_) (fun hb15 h=>?_)
    ·refine rn 4 rfl ?_
     exact rt h rfl
    refine rn 4 rfl ?_
    refine ln rfl rfl ?_
    refine rn 3 rfl ?_
    refine spC h rfl (fun hb16 h=>?_) (fun hb16 h=>?_)
    ·refine rn 4 rfl ?_
     exact rt h rfl
    refine rn 16 rfl ?_
    refine ln rfl rfl ?_
    refine rn 2 rfl ?_
    refine jK h (fun _:Unit=>(⟨[(1,(V.ptr 0 8 0 0)),(3,(sV x10.Name)),(11,(V.lst 2 (a1.g.Types.map q6e))),(12,(iV ((a1.g.Types.length:Nat):Int))),(13,(iV n6))],[(0,(Ob.arr 141 8 [(q4c a1)]))],1⟩:St)) (fun k17 (_:Unit)=>k17=some r) (fun k17 h=>?_) ?_
    ·refine rn 1 rfl ?_
     refine wl (A:=x10.Methods) 29 rfl (fun hA32=>?_)
     refine lC (fun(p:B8×Int)=>(⟨[(1,(V.ptr 0 8 0 0)),(3,(sV x10.Name)),(6,(sV (p.1))),(11,(V.lst 2 (a1.g.Types.map q6e))),(12,(iV ((a1.g.Types.length:Nat):Int))),(13,(iV n6)),(35,(V.lst 2 (x10.Methods.map q1j))),(36,(iV ((x10.Methods.length:Nat):Int))),(37,(iV (p.2)))],[(0,(Ob.arr 141 8 [(q4c a1)]))],1⟩:St)) (fun n p=>RG x10.Methods (fun tl nn=>z9f F a1 k17 tl p.1=some r) n p.2) (fun p h=>RG.zero h) (x10.Methods.length+1) (([]:B8),0) (RG.start h) (gr [0] rfl (hB rfl rfl rfl .nil) rfl) (fun n p h=>?_)
     obtain⟨s20,n21⟩:=p
     refine rn 5 rfl ?_
     refine spL rfl (fun hb22=>?_) (fun hb22=>?_)
     ·obtain⟨x23,tl,hx24,h,hk2⟩:=RG.t hA32 h hb22
      unfold z9f at h
      refine rn 5 rfl ?_
      refine ixh hx24 rfl rfl ?_
      refine rn 10 rfl ?_
      refine cl h rfl rfl rfl (W82 _ _) rfl (fun y25 hx26 h=>?_)
      refine rn 3 rfl ?_
      refine jK h (fun _:Unit=>(⟨[(1,(V.ptr 0 8 0 0)),(3,(sV x10.Name)),(8,(V.ptr 1 2 0 0)),(11,(V.lst 2 (a1.g.Types.map q6e))),(12,(iV ((a1.g.Types.length:Nat):Int))),(13,(iV n6)),(35,(V.lst 2 (x10.Methods.map q1j))),(36,(iV ((x10.Methods.length:Nat):Int))),(37,(iV n21))],[(0,(Ob.arr 141 8 [(q4c a1)])),(1,(Ob.arr 116 2 [(q1j x23)]))],2⟩:St)) (fun k27 (_:Unit)=>k27=some r) (fun k27 h=>?_) ?_
      ·refine spC h rfl (fun hb28 h=>?_) (fun hb28 h=>?_)
       ·refine rn 4 rfl ?_
        exact rt h rfl
       refine rn 8 rfl ?_
       refine spC h rfl (fun hb29 h=>?_) (fun hb29 h=>?_)
       ·refine rn 4 rfl ?_
        exact rt h rfl
       refine rn 6 rfl ?_
       refine spO 55 h rfl (fun hb30 h=>?_) (fun hb30 h=>?_)
       ·refine rn 5 rfl ?_
        refine q7d _ (bV false) (bV ((q6b a1.n.funcs x23.Func).getD false)) q4j q6h j4m (q9f _) (q4i (c:=true) (b:=true) 55 rfl rfl rfl) rfl .imm (.con rfl) ⟨_,rfl⟩ q7e (q3h a1.n.funcs x23.Func) (q1f (q5g) (q6b a1.n.funcs x23.Func) false) rfl ?_
        refine fo (rn 4 rfl ?_)
        refine spC h rfl (fun hb31 h=>?_) (fun hb31 h=>?_)
        ·refine rn 4 rfl ?_
         exact rt h rfl
        refine rn 1 rfl ?_
        exact jX () h (gr [0,1] rfl (hB rfl rfl rfl (hB rfl rfl rfl .nil)) rfl)
       refine rn 12 rfl ?_
       exact jX () h (gr [0,1] rfl (hB rfl rfl rfl (hB rfl rfl rfl .nil)) rfl)
      intro _ h
      refine rn 11 rfl ?_
      exact jX (x23.Name,(w64 (n21+1))) (hk2 _ h) (gr [0] rfl (hB rfl rfl rfl .nil) rfl)
     replace h:=RG.f h hb22
     unfold z9f at h
     refine rn 1 rfl ?_
     exact jX () h (gr [0] rfl (hB rfl rfl rfl .nil) rfl)
    intro _ h
    refine rn 1 rfl ?_
    exact jX x10.Name h (gr [0] rfl (hB rfl rfl rfl .nil) rfl)
   intro s9 h
   refine rn 4 rfl ?_
   exact jX (s9,(w64 (n6+1))) (hk1 _ h) (gr [0] rfl (hB rfl rfl rfl .nil) rfl)
  replace h:=RG.f h hb7
  unfold z0g at h
  refine rn 1 rfl ?_
  exact jX () h (g0 rfl rfl)
 intro _ h
 refine rn 4 rfl ?_
 exact rt h rfl
theorem W187(F:Nat)(a1:q8b)(a2:q6c)(r:Int)(h:M187 F a1 a2=some r):q5n Tryz.prog 187 [(V.agg (q4c a1)),(V.agg (q6d a2))] (iV r):=by
 refine pin (fun r=>(iV r)) r rfl Tryz.func187 rfl rfl rfl rfl rfl (fun w0 m0 hg=>?_)
 unfold M187 at h
 refine rn 18 rfl ?_
 refine jK h (fun _:Unit=>(⟨[(3,(V.ptr 0 4 0 0))],[(0,(Ob.arr 109 4 [(q6d a2)]))],1⟩:St)) (fun k3 (_:Unit)=>k3=some r) (fun k3 h=>?_) ?_
 ·refine spC h rfl (fun hb4 h=>?_) (fun hb4 h=>?_)
  ·refine rn 7 rfl ?_
   refine spO 14 h rfl (fun hb5 h=>?_) (fun hb5 h=>?_)
   ·refine rn 5 rfl ?_
    refine q7d _ (bV false) (bV ((q6b a1.n.funcs a2.Target).getD false)) q4j q6h j4m (q9f _) (q4i (c:=true) (b:=true) 14 rfl rfl rfl) rfl .imm (.con rfl) ⟨_,rfl⟩ q7e (q3h a1.n.funcs a2.Target) (q1f (q5g) (q6b a1.n.funcs a2.Target) false) rfl ?_
    refine fo (rn 3 rfl ?_)
    refine spC h rfl (fun hb6 h=>?_) (fun hb6 h=>?_)
    ·refine rn 4 rfl ?_
     exact rt h rfl
    refine rn 7 rfl ?_
    refine spC h rfl (fun hb7 h=>?_) (fun hb7 h=>?_)
    ·refine rn 4 rfl ?_
     exact rt h rfl
    refine rn 1 rfl ?_
    exact jX () h (gr [1] rfl (hB rfl rfl rfl .nil) rfl)
   refine rn 17 rfl ?_
   refine spC h rfl (fun hb8 h=>?_) (fun hb8 h=>?_)
   ·refine rn 4 rfl ?_
    exact rt h rfl
   refine rn 1 rfl ?_
   exact jX () h (gr [1] rfl (hB rfl rfl rfl .nil) rfl)
  refine rn 5 rfl ?_
  refine spC h rfl (fun hb9 h=>?_) (fun hb9 h=>?_)
  ·refine rn 7 rfl ?_
   refine bs h (fun hb10 h=>?_) (fun hb10 h=>?_)
   ·refine q5h _ (V.con (.map none)) (V.imap (((q6b a1.n.ifaces a2.Target).getD []).map q5b)) j5t q6h tZo89 (q9f _) q7a rfl .imm (.con rfl) ⟨_,rfl⟩ z9p (z8p a1.n.ifaces a2.Target) (w4d (y:=[]) hb10) (w2c hb10) rfl ?_
    refine fo (rn 12 rfl ?_)
    refine spO 40 h rfl (fun hb11 h=>?_) (fun hb11 h=>?_)
    ·refine rn 6 rfl ?_
     refine q7d _ (bV false) (bV ((q6b ((q6b a1.n.ifaces a2.Target).getD []) a2.Method).getD false)) q4j q6h j4m (q9f _) (q4i (c:=false) (b:=false) 43 rfl rfl rfl) rfl .imm (.con rfl) ⟨_,rfl⟩ q7e (q3h ((q6b a1.n.ifaces a2.Target).getD []) a2.Method) (q1f (q5g) (q6b ((q6b a1.n.ifaces a2.Target).getD []) a2.Method) false) rfl ?_
     refine fo (rn 4 rfl ?_)
     refine spC h rfl (fun hb12 h=>?_) (fun hb12 h=>?_)
     ·refine rn 4 rfl ?_
      exact rt h rfl
     refine rn 1 rfl ?_
     exact jX () h (gr [1] rfl (hB rfl rfl rfl .nil) rfl)
    refine rn 13 rfl ?_
    exact jX () h (gr [1] rfl (hB rfl rfl rfl .nil) rfl)
   refine q5h _ (V.con (.map none)) (V.con (.map none)) j5t q6h tZo89 (q9f _) q7a rfl .imm (.con rfl) ⟨_,rfl⟩ z9p (z8p a1.n.ifaces a2.Target) (w5d hb10) (w2c hb10) rfl ?_
   refine fo (rn 12 rfl ?_)
   refine spO 40 h rfl (fun hb13 h=>?_) (fun hb13 h=>?_)
   ·refine rn 16 rfl ?_
    exact rt h rfl
   refine rn 13 rfl ?_
   exact jX () h (gr [1] rfl (hB rfl rfl rfl .nil) rfl)
  refine rn 4 rfl ?_
  exact rt h rfl
 intro _ h
 refine rn 8 rfl ?_
 refine spO 54 h rfl (fun hb14 h=>?_) (fun hb14 h=>?_)
 ·refine rn 2 rfl ?_
  refine cl h rfl rfl rfl (W82 _ _) rfl (fun y15 hx16 h=>?_)
  refine rn 3 rfl ?_
  refine spC h rfl (fun hb17 h=>?_) (fun hb17 h=>?_)
  ·refine rn 4 rfl ?_
   exact rt h rfl
  refine rn 5 rfl ?_
  exact rt h rfl
 refine rn 12 rfl ?_
 exact rt h rfl
theorem W138(F:Nat)(a1:q8b)(r:Int)(h:M138 F a1=some r):q5n Tryz.prog 138 [(V.agg (q4c a1))] (iV r):=by
 refine pin (fun r=>(iV r)) r rfl Tryz.func138 rfl rfl rfl rfl rfl (fun w0 m0 hg=>?_)
 unfold M138 at h
 refine rn 15 rfl ?_
 refine ln rfl rfl ?_
 refine rn 2 rfl ?_
 refine jK h (fun _:Unit=>(⟨[],[],0⟩:St)) (fun k2 (_:Unit)=>k2=some r) (fun k2 h=>?_) ?_
 ·refine rn 1 rfl ?_
  refine wl (A:=a1.g.Funcs) 14 rfl (fun hA46=>?_)
  refine lC (fun(p:B8×Int)=>(⟨[(1,(V.ptr 0 8 0 0)),(3,(sV (p.1))),(14,(V.lst 4 (a1.g.Funcs.map q8c))),(15,(iV ((a1.g.Funcs.length:Nat):Int))),(16,(iV (p.2)))],[(0,(Ob.arr 141 8 [(q4c a1)]))],1⟩:St)) (fun n p=>RG a1.g.Funcs (fun tl nn=>z1c F a1 k2 tl p.1=some r) n p.2) (fun p h=>RG.zero h) (a1.g.Funcs.length+1) (([]:B8),0) (RG.start h) (gr [0] rfl (hB rfl rfl rfl .nil) rfl) (fun n p h=>?_)
  obtain⟨s5,n6⟩:=p
  refine rn 5 rfl ?_
  refine spL rfl (fun hb7=>?_) (fun hb7=>?_)
  ·obtain⟨x10,tl,hx11,h,hk1⟩:=RG.t hA46 h hb7
   unfold z1c at h
   refine rn 2 rfl ?_
   refine jK h (fun(p:B8)=>(⟨[(1,(V.ptr 0 8 0 0)),(3,(sV p)),(14,(V.lst 4 (a1.g.Funcs.map q8c))),(15,(iV ((a1.g.Funcs.length:Nat):Int))),(16,(iV n6))],[(0,(Ob.arr 141 8 [(q4c a1)]))],1⟩:St)) (fun k8 p=>k8 p=some r) (fun k8 h=>?_) ?_
   ·refine rn 3 rfl ?_
    refine ixh hx11 rfl rfl ?_
    refine rn 10 rfl ?_
    refine cl h rfl rfl rfl (W82 _ _) rfl (fun y12 hx13 h=>?_)
    refine rn 3 rfl ?_
    refine spC h rfl (fun hb14 h=>?_) (fun hb14 h=>?_)
    ·refine rn 4 rfl ?_
     exact rt h rfl
    refine rn 8 rfl ?_
    refine spC h rfl (fun hb15 h=>?_) (fun hb15 h=>?_)
    ·refine rn 4 rfl ?_
     exact rt h rfl
    refine rn 4 rfl ?_
    refine cl h rfl rfl rfl (W82 _ _) rfl (fun y16 hx17 h=>?_)
    refine rn 3 rfl ?_
    refine spC h rfl (fun hb18 h=>?_) (fun hb18 h=>?_)
    ·refine rn 4 rfl ?_
     exact rt h rfl
    refine rn 4 rfl ?_
    refine ln rfl rfl ?_
    refine rn 3 rfl ?_
    refine spC h rfl (fun hb19 h=>?_) (fun hb19 h=>?_)
    ·refine rn 4 rfl ?_
     exact rt h rfl
    refine rn 13 rfl ?_
    refine ln rfl rfl ?_
    refine rn 2 rfl ?_
    refine jK h (fun _:Unit=>(⟨[(1,(V.ptr 0 8 0 0)),(3,(sV x10.Name)),(5,(V.ptr 1 4 0 0)),(14,(V.lst 4 (a1.g.Funcs.map q8c))),(15,(iV ((a1.g.Funcs.length:Nat):Int))),(16,(iV n6))],[(0,(Ob.arr 141 8 [(q4c a1)])),(1,(Ob.arr 94 4 [(q8c x10)]))],2⟩:St)) (fun k20 (_:Unit)=>k20=some r) (fun k20 h=>?_) ?_
    ·refine rn 1 rfl ?_
     refine wl (A:=x10.Calls) 37 rfl (fun hA29=>?_)
     refine lC (fun(p:Int)=>(⟨[(1,(V.ptr 0 8 0 0)),(3,(sV x10.Name)),(5,(V.ptr 1 4 0 0)),(14,(V.lst 4 (a1.g.Funcs.map q8c))),(15,(iV ((a1.g.Funcs.length:Nat):Int))),(16,(iV n6)),(43,(V.lst 4 (x10.Calls.map q6d))),(44,(iV ((x10.Calls.length:Nat):Int))),(45,(iV p))],[(0,(Ob.arr 141 8 [(q4c a1)])),(1,(Ob.arr 94 4 [(q8c x10)]))],2⟩:St)) (fun n p=>RG x10.Calls (fun tl nn=>z8f F a1 k20 tl=some r) n p) (fun p h=>RG.zero h) (x10.Calls.length+1) 0 (RG.start h) (gr [0,1] rfl (hB rfl rfl rfl (hB rfl rfl rfl .nil)) rfl) (fun n n22 h=>?_)
     refine rn 5 rfl ?_
     refine spL rfl (fun hb23=>?_) (fun hb23=>?_)
     ·obtain⟨x24,tl,hx25,h,hk2⟩:=RG.t hA29 h hb23
      unfold z8f at h
      refine rn 5 rfl ?_
      refine ixh hx25 rfl rfl ?_
      refine rn 8 rfl ?_
      refine cl h rfl rfl rfl (W187 _ _ _) rfl (fun y26 hx27 h=>?_)
      refine rn 7 rfl ?_
      refine spC h rfl (fun hb28 h=>?_) (fun hb28 h=>?_)
      ·refine rn 5 rfl ?_
       exact rt h rfl
      refine rn 6 rfl ?_
      exact jX (w64 (n22+1)) (hk2 _ h) (gr [0,1] rfl (hB rfl rfl rfl (hB rfl rfl rfl .nil)) rfl)
     replace h:=RG.f h hb23
     unfold z8f at h
     refine rn 1 rfl ?_
     exact jX () h (gr [0,1] rfl (hB rfl rfl rfl (hB rfl rfl rfl .nil)) rfl)
    intro _ h
    refine rn 4 rfl ?_
    refine ln rfl rfl ?_
    refine rn 2 rfl ?_
    refine jK h (fun _:Unit=>(⟨[(1,(V.ptr 0 8 0 0)),(3,(sV x10.Name)),(14,(V.lst 4 (a1.g.Funcs.map q8c))),(15,(iV ((a1.g.Funcs.length:Nat):Int))),(16,(iV n6))],[(0,(Ob.arr 141 8 [(q4c a1)]))],1⟩:St)) (fun k30 (_:Unit)=>k30=some r) (fun k30 h=>?_) ?_
    ·refine rn 1 rfl ?_
     refine wl (A:=x10.Makes) 57 rfl (fun hA45=>?_)
     refine lC (fun(p:Int)=>(⟨[(1,(V.ptr 0 8 0 0)),(3,(sV x10.Name)),(5,(V.ptr 1 4 0 0)),(14,(V.lst 4 (a1.g.Funcs.map q8c))),(15,(iV ((a1.g.Funcs.length:Nat):Int))),(16,(iV n6)),(57,(V.lst 1 (x10.Makes.map q6f))),(58,(iV ((x10.Makes.length:Nat):Int))),(59,(iV p))],[(0,(Ob.arr 141 8 [(q4c a1)])),(1,(Ob.arr 94 4 [(q8c x10)]))],2⟩:St)) (fun n p=>RG x10.Makes (fun tl nn=>z7f F a1 x10 k30 tl nn=some r) n p) (fun p h=>RG.zero h) (x10.Makes.length+1) 0 (RG.start h) (gr [0,1] rfl (hB rfl rfl rfl (hB rfl rfl rfl .nil)) rfl) (fun n n32 h=>?_)
     refine rn 5 rfl ?_
     refine spL rfl (fun hb33=>?_) (fun hb33=>?_)
     ·obtain⟨x35,tl,hx36,h,hk3⟩:=RG.t hA45 h hb33
      unfold z7f at h
      refine rn 2 rfl ?_
      refine jK h (fun _:Unit=>(⟨[(1,(V.ptr 0 8 0 0)),(3,(sV x10.Name)),(5,(V.ptr 1 4 0 0)),(14,(V.lst 4 (a1.g.Funcs.map q8c))),(15,(iV ((a1.g.Funcs.length:Nat):Int))),(16,(iV n6)),(57,(V.lst 1 (x10.Makes.map q6f))),(58,(iV ((x10.Makes.length:Nat):Int))),(59,(iV n32))],[(0,(Ob.arr 141 8 [(q4c a1)])),(1,(Ob.arr 94 4 [(q8c x10)]))],2⟩:St)) (fun k34 (_:Unit)=>k34=some r) (fun k34 h=>?_) ?_
      ·refine rn 4 rfl ?_
       refine ixh hx36 rfl rfl ?_
       refine rn 11 rfl ?_
       refine spO 67 h rfl (fun hb37 h=>?_) (fun hb37 h=>?_)
       ·refine rn 4 rfl ?_
        refine q7d _ (bV false) (bV ((q6b a1.n.types x35).getD false)) q4j q6h j4m (q9f _) (q4i (c:=true) (b:=true) 67 rfl rfl rfl) rfl .imm (.con rfl) ⟨_,rfl⟩ q7e (q3h a1.n.types x35) (q1f (q5g) (q6b a1.n.types x35) false) rfl ?_
        refine fo (rn 3 rfl ?_)
        refine spC h rfl (fun hb38 h=>?_) (fun hb38 h=>?_)
        ·refine rn 4 rfl ?_
         exact rt h rfl
        refine rn 6 rfl ?_
        refine cl h rfl rfl rfl (W139 _ _ _) rfl (fun y39 hx40 h=>?_)
        refine rn 7 rfl ?_
        refine spC h rfl (fun hb41 h=>?_) (fun hb41 h=>?_)
        ·refine rn 5 rfl ?_
         exact rt h rfl
        refine rn 2 rfl ?_
        exact jX () h (gr [0,1] rfl (hB rfl rfl rfl (hB rfl rfl rfl .nil)) rfl)
       refine rn 15 rfl ?_
       refine cl h rfl rfl rfl (W139 _ _ _) rfl (fun y42 hx43 h=>?_)
       refine rn 7 rfl ?_
       refine spC h rfl (fun hb44 h=>?_) (fun hb44 h=>?_)
       ·refine rn 5 rfl ?_
        exact rt h rfl
       refine rn 2 rfl ?_
       exact jX () h (gr [0,1] rfl (hB rfl rfl rfl (hB rfl rfl rfl .nil)) rfl)
      intro _ h
      refine rn 4 rfl ?_
      exact jX (w64 (n32+1)) (hk3 _ h) (gr [0,1] rfl (hB rfl rfl rfl (hB rfl rfl rfl .nil)) rfl)
     replace h:=RG.f h hb33
     unfold z7f at h
     refine rn 1 rfl ?_
     exact jX () h (gr [0] rfl (hB rfl rfl rfl .nil) rfl)
    intro _ h
    refine rn 1 rfl ?_
    exact jX x10.Name h (gr [0] rfl (hB rfl rfl rfl .nil) rfl)
   intro s9 h
   refine rn 4 rfl ?_
   exact jX (s9,(w64 (n6+1))) (hk1 _ h) (gr [0] rfl (hB rfl rfl rfl .nil) rfl)
  replace h:=RG.f h hb7
  unfold z1c at h
  refine rn 1 rfl ?_
  exact jX () h (g0 rfl rfl)
 intro _ h
 refine rn 4 rfl ?_
 exact rt h rfl
theorem W73(F:Nat)(a1:q8b)(r:Int)(h:M73 F a1=some r):q5n Tryz.prog 73 [(V.agg (q4c a1))] (iV r):=by
 refine pin (fun r=>(iV r)) r rfl Tryz.func73 rfl rfl rfl rfl rfl (fun w0 m0 hg=>?_)
 unfold M73 at h
 refine rn 11 rfl ?_
 refine ln rfl rfl ?_
 refine rn 2 rfl ?_
 refine spO 14 h rfl (fun hb2 h=>?_) (fun hb2 h=>?_)
 ·refine rn 19 rfl ?_
  exact rt h rfl
 refine rn 3 rfl ?_
 refine ln rfl rfl ?_
 refine rn 3 rfl ?_
 refine spO 21 h rfl (fun hb3 h=>?_) (fun hb3 h=>?_)
 ·refine rn 12 rfl ?_
  exact rt h rfl
 refine rn 3 rfl ?_
 refine ln rfl rfl ?_
 refine rn 3 rfl ?_
 refine spC h rfl (fun hb4 h=>?_) (fun hb4 h=>?_)
 ·refine rn 4 rfl ?_
  exact rt h rfl
 refine rn 5 rfl ?_
 refine cl h rfl rfl rfl (W136 _ _) rfl (fun y5 hx6 h=>?_)
 refine rn 7 rfl ?_
 refine spC h rfl (fun hb7 h=>?_) (fun hb7 h=>?_)
 ·refine rn 5 rfl ?_
  exact rt h rfl
 refine rn 5 rfl ?_
 refine cl h rfl rfl rfl (W137 _ _) rfl (fun y8 hx9 h=>?_)
 refine rn 7 rfl ?_
 refine spC h rfl (fun hb10 h=>?_) (fun hb10 h=>?_)
 ·refine rn 5 rfl ?_
  exact rt h rfl
 refine rn 5 rfl ?_
 refine cl h rfl rfl rfl (W138 _ _) rfl (fun y11 hx12 h=>?_)
 refine rn 7 rfl ?_
 refine spC h rfl (fun hb13 h=>?_) (fun hb13 h=>?_)
 ·refine rn 5 rfl ?_
  exact rt h rfl
 refine rn 7 rfl ?_
 refine ln rfl rfl ?_
 refine rn 2 rfl ?_
 refine jK h (fun _:Unit=>(⟨[],[],0⟩:St)) (fun k14 (_:Unit)=>k14=some r) (fun k14 h=>?_) ?_
 ·refine rn 1 rfl ?_
  refine wl (A:=a1.g.Entries) 45 rfl (fun hA29=>?_)
  refine lC (fun(p:Int)=>(⟨[(1,(V.ptr 0 8 0 0)),(45,(V.lst 1 (a1.g.Entries.map q6f))),(46,(iV ((a1.g.Entries.length:Nat):Int))),(47,(iV p))],[(0,(Ob.arr 141 8 [(q4c a1)]))],1⟩:St)) (fun n p=>RG a1.g.Entries (fun tl nn=>z3x F a1 k14 tl nn=some r) n p) (fun p h=>RG.zero h) (a1.g.Entries.length+1) 0 (RG.start h) (gr [0] rfl (hB rfl rfl rfl .nil) rfl) (fun n n16 h=>?_)
  refine rn 5 rfl ?_
  refine spL rfl (fun hb17=>?_) (fun hb17=>?_)
  ·obtain⟨x19,tl,hx20,h,hk1⟩:=RG.t hA29 h hb17
   unfold z3x at h
   refine rn 2 rfl ?_
   refine jK h (fun _:Unit=>(⟨[(1,(V.ptr 0 8 0 0)),(45,(V.lst 1 (a1.g.Entries.map q6f))),(46,(iV ((a1.g.Entries.length:Nat):Int))),(47,(iV n16))],[(0,(Ob.arr 141 8 [(q4c a1)]))],1⟩:St)) (fun k18 (_:Unit)=>k18=some r) (fun k18 h=>?_) ?_
   ·refine rn 4 rfl ?_
    refine ixh hx20 rfl rfl ?_
    refine rn 11 rfl ?_
    refine spO 55 h rfl (fun hb21 h=>?_) (fun hb21 h=>?_)
    ·refine rn 4 rfl ?_
     refine q7d _ (bV false) (bV ((q6b a1.n.funcs x19).getD false)) q4j q6h j4m (q9f _) (q4i (c:=true) (b:=true) 55 rfl rfl rfl) rfl .imm (.con rfl) ⟨_,rfl⟩ q7e (q3h a1.n.funcs x19) (q1f (q5g) (q6b a1.n.funcs x19) false) rfl ?_
     refine fo (rn 3 rfl ?_)
     refine spC h rfl (fun hb22 h=>?_) (fun hb22 h=>?_)
     ·refine rn 4 rfl ?_
      exact rt h rfl
     refine rn 7 rfl ?_
     refine cl h rfl rfl rfl (W139 _ _ _) rfl (fun y23 hx24 h=>?_)
     refine rn 7 rfl ?_
     refine spC h rfl (fun hb25 h=>?_) (fun hb25 h=>?_)
     ·refine rn 5 rfl ?_
      exact rt h rfl
     refine rn 2 rfl ?_
     exact jX () h (gr [0] rfl (hB rfl rfl rfl .nil) rfl)
    refine rn 16 rfl ?_
    refine cl h rfl rfl rfl (W139 _ _ _) rfl (fun y26 hx27 h=>?_)
    refine rn 7 rfl ?_
    refine spC h rfl (fun hb28 h=>?_) (fun hb28 h=>?_)
    ·refine rn 5 rfl ?_
     exact rt h rfl
    refine rn 2 rfl ?_
    exact jX () h (gr [0] rfl (hB rfl rfl rfl .nil) rfl)
   intro _ h
   refine rn 4 rfl ?_
   exact jX (w64 (n16+1)) (hk1 _ h) (gr [0] rfl (hB rfl rfl rfl .nil) rfl)
  replace h:=RG.f h hb17
  unfold z3x at h
  refine rn 1 rfl ?_
  exact jX () h (g0 rfl rfl)
 intro _ h
 refine rn 4 rfl ?_
 exact rt h rfl
theorem W18(F:Nat)(a1:q7c)(r:Int)(h:M18 F a1=some r):q5n Tryz.prog 18 [(V.agg (q3d a1))] (iV r):=by
 refine pin (fun r=>(iV r)) r rfl Tryz.func18 rfl rfl rfl rfl rfl (fun w0 m0 hg=>?_)
 unfold M18 at h
 obtain⟨y2,hx3,h⟩:=bind_some h
 obtain⟨y4,hx5,h⟩:=bind_some h
 refine rn 6 rfl ?_
 refine dr mixed (vs 2 rfl (cD rfl rfl rfl rfl (W72 _ _ _ hx3) rfl (vs 1 rfl (cD rfl rfl rfl rfl (W73 _ _ _ hx5) rfl (vs 1 rfl .nil))))) (by kernel_rfl) ?_
 exact rt h rfl
theorem W81(F:Nat)(a1:(List B8))(r:Int)(h:M81 F a1=some r):q5n Tryz.prog 81 [(V.lst 1 (a1.map q6f))] (iV r):=by
 refine pin (fun r=>(iV r)) r rfl Tryz.func81 rfl rfl rfl rfl rfl (fun w0 m0 hg=>?_)
 unfold M81 at h
 refine rn 8 rfl ?_
 refine ln rfl rfl ?_
 refine rn 2 rfl ?_
 refine spC h rfl (fun hb2 h=>?_) (fun hb2 h=>?_)
 ·refine rn 4 rfl ?_
  exact rt h rfl
 refine rn 5 rfl ?_
 refine ln rfl rfl ?_
 refine rn 2 rfl ?_
 refine jK h (fun _:Unit=>(⟨[],[],0⟩:St)) (fun k3 (_:Unit)=>k3=some r) (fun k3 h=>?_) ?_
 ·refine rn 1 rfl ?_
  refine wl (A:=a1) 0 rfl (fun hA15=>?_)
  refine lC (fun(p:Int)=>(⟨[(0,(V.lst 1 (a1.map q6f))),(9,(V.lst 1 (a1.map q6f))),(10,(iV ((a1.length:Nat):Int))),(11,(iV p))],[],0⟩:St)) (fun n p=>RG a1 (fun tl nn=>z2x F a1 k3 tl nn=some r) n p) (fun p h=>RG.zero h) (a1.length+1) 0 (RG.start h) (g0 rfl rfl) (fun n n5 h=>?_)
  refine rn 5 rfl ?_
  refine spL rfl (fun hb6=>?_) (fun hb6=>?_)
  ·obtain⟨x7,tl,hx8,h,hk1⟩:=RG.t hA15 h hb6
   unfold z2x at h
   refine rn 6 rfl ?_
   refine ixh hx8 rfl rfl ?_
   refine rn 8 rfl ?_
   refine cl h rfl rfl rfl (W82 _ _) rfl (fun y9 hx10 h=>?_)
   refine rn 2 rfl ?_
   refine spC h rfl (fun hb11 h=>?_) (fun hb11 h=>?_)
   ·refine rn 4 rfl ?_
    exact rt h rfl
   refine rn 5 rfl ?_
   refine cl h rfl rfl rfl (W139 _ _ _) rfl (fun y12 hx13 h=>?_)
   refine rn 7 rfl ?_
   refine spC h rfl (fun hb14 h=>?_) (fun hb14 h=>?_)
   ·refine rn 5 rfl ?_
    exact rt h rfl
   refine rn 6 rfl ?_
   exact jX (w64 (n5+1)) (hk1 _ h) (g0 rfl rfl)
  replace h:=RG.f h hb6
  unfold z2x at h
  refine rn 1 rfl ?_
  exact jX () h (g0 rfl rfl)
 intro _ h
 refine rn 4 rfl ?_
 exact rt h rfl
theorem W125(F:Nat)(a1:q7c)(a2:B8)(r:(q5e×Bool))(h:M125 F a1 a2=some r):q5n Tryz.prog 125 [(V.agg (q3d a1)),(sV a2)] (V.tup [(V.agg (q8c (r.1))),(bV (r.2))]):=by
 refine pin (fun r=>(V.tup [(V.agg (q8c (r.1))),(bV (r.2))])) r rfl Tryz.func125 rfl rfl rfl rfl rfl (fun w0 m0 hg=>?_)
 unfold M125 at h
 refine rn 11 rfl ?_
 refine ln rfl rfl ?_
 refine rn 2 rfl ?_
 refine jK h (fun _:Unit=>(⟨[(4,(V.ptr 0 4 0 0))],[(0,(Ob.arr 94 4 [[(sV ([]:B8)),(sV ([]:B8)),nV,nV]]))],1⟩:St)) (fun k3 (_:Unit)=>k3=some r) (fun k3 h=>?_) ?_
 ·refine rn 1 rfl ?_
  refine wl (A:=a1.Funcs) 9 rfl (fun hA10=>?_)
  refine lC (fun(p:Int)=>(⟨[(1,(sV a2)),(4,(V.ptr 0 4 0 0)),(9,(V.lst 4 (a1.Funcs.map q8c))),(10,(iV ((a1.Funcs.length:Nat):Int))),(11,(iV p))],[(0,(Ob.arr 94 4 [[(sV ([]:B8)),(sV ([]:B8)),nV,nV]]))],1⟩:St)) (fun n p=>RG a1.Funcs (fun tl nn=>z4n F a2 k3 tl=some r) n p) (fun p h=>RG.zero h) (a1.Funcs.length+1) 0 (RG.start h) (gr [1] rfl (hB rfl rfl rfl .nil) rfl) (fun n n5 h=>?_)
  refine rn 5 rfl ?_
  refine spL rfl (fun hb6=>?_) (fun hb6=>?_)
  ·obtain⟨x7,tl,hx8,h,hk1⟩:=RG.t hA10 h hb6
   unfold z4n at h
   refine rn 5 rfl ?_
   refine ixh hx8 rfl rfl ?_
   refine rn 11 rfl ?_
   refine spC h rfl (fun hb9 h=>?_) (fun hb9 h=>?_)
   ·refine rn 6 rfl ?_
    exact rt h rfl
   refine rn 6 rfl ?_
   exact jX (w64 (n5+1)) (hk1 _ h) (gr [0] rfl (hB rfl rfl rfl .nil) rfl)
  replace h:=RG.f h hb6
  unfold z4n at h
  refine rn 1 rfl ?_
  exact jX () h (gr [0] rfl (hB rfl rfl rfl .nil) rfl)
 intro _ h
 refine rn 6 rfl ?_
 exact rt h rfl
theorem W101(F:Nat)(a1:q7c)(a2:Int)(a3:(List B8))(a4:(List B8))(r:Int)(h:w3j F a1 a2 a3 a4=some r):q5n Tryz.prog 101 [(V.agg (q3d a1)),(iV a2),(V.lst 1 (a3.map q6f)),(V.lst 1 (a4.map q6f))] (iV r):=by
 refine pin (fun r=>(iV r)) r rfl Tryz.func101 rfl rfl rfl rfl rfl (fun w0 m0 hg=>?_)
 unfold w3j at h
 refine rn 9 rfl ?_
 refine cl h rfl rfl rfl (W18 _ _) rfl (fun y5 hx6 h=>?_)
 refine rn 7 rfl ?_
 refine spC h rfl (fun hb7 h=>?_) (fun hb7 h=>?_)
 ·refine rn 5 rfl ?_
  exact rt h rfl
 refine rn 5 rfl ?_
 refine cl h rfl rfl rfl (W81 _ _) rfl (fun y8 hx9 h=>?_)
 refine rn 7 rfl ?_
 refine spC h rfl (fun hb10 h=>?_) (fun hb10 h=>?_)
 ·refine rn 5 rfl ?_
  exact rt h rfl
 refine rn 7 rfl ?_
 refine spO 27 h rfl (fun hb11 h=>?_) (fun hb11 h=>?_)
 ·refine rn 4 rfl ?_
  refine spC h rfl (fun hb12 h=>?_) (fun hb12 h=>?_)
  ·refine rn 4 rfl ?_
   exact rt h rfl
  refine rn 5 rfl ?_
  refine ln rfl rfl ?_
  refine rn 2 rfl ?_
  refine jK h (fun _:Unit=>(⟨[],[],0⟩:St)) (fun k13 (_:Unit)=>k13=some r) (fun k13 h=>?_) ?_
  ·refine rn 1 rfl ?_
   refine wl (A:=a4) 3 rfl (fun hA22=>?_)
   refine lC (fun(p:Int)=>(⟨[(4,(V.ptr 0 4 0 0)),(31,(V.lst 1 (a4.map q6f))),(32,(iV ((a4.length:Nat):Int))),(33,(iV p))],[(0,(Ob.arr 27 4 [(q3d a1)]))],1⟩:St)) (fun n p=>RG a4 (fun tl nn=>z3v F a1 k13 tl=some r) n p) (fun p h=>RG.zero h) (a4.length+1) 0 (RG.start h) (gr [0] rfl (hB rfl rfl rfl .nil) rfl) (fun n n15 h=>?_)
   refine rn 5 rfl ?_
   refine spL rfl (fun hb16=>?_) (fun hb16=>?_)
   ·obtain⟨x17,tl,hx18,h,hk1⟩:=RG.t hA22 h hb16
    unfold z3v at h
    refine rn 5 rfl ?_
    refine ixh hx18 rfl rfl ?_
    refine rn 7 rfl ?_
    refine cl h rfl rfl rfl (W125 _ _ _) rfl (fun y19 hx20 h=>?_)
    refine rn 12 rfl ?_
    refine spC h rfl (fun hb21 h=>?_) (fun hb21 h=>?_)
    ·refine rn 4 rfl ?_
     exact rt h rfl
    refine rn 6 rfl ?_
    exact jX (w64 (n15+1)) (hk1 _ h) (gr [0] rfl (hB rfl rfl rfl .nil) rfl)
   replace h:=RG.f h hb16
   unfold z3v at h
   refine rn 1 rfl ?_
   exact jX () h (g0 rfl rfl)
  intro _ h
  refine rn 4 rfl ?_
  exact rt h rfl
 refine rn 10 rfl ?_
 refine ln rfl rfl ?_
 refine rn 2 rfl ?_
 refine jK h (fun _:Unit=>(⟨[],[],0⟩:St)) (fun k23 (_:Unit)=>k23=some r) (fun k23 h=>?_) ?_
 ·refine rn 1 rfl ?_
  refine wl (A:=a4) 3 rfl (fun hA32=>?_)
  refine lC (fun(p:Int)=>(⟨[(4,(V.ptr 0 4 0 0)),(31,(V.lst 1 (a4.map q6f))),(32,(iV ((a4.length:Nat):Int))),(33,(iV p))],[(0,(Ob.arr 27 4 [(q3d a1)]))],1⟩:St)) (fun n p=>RG a4 (fun tl nn=>z2v F a1 k23 tl=some r) n p) (fun p h=>RG.zero h) (a4.length+1) 0 (RG.start h) (gr [0] rfl (hB rfl rfl rfl .nil) rfl) (fun n n25 h=>?_)
  refine rn 5 rfl ?_
  refine spL rfl (fun hb26=>?_) (fun hb26=>?_)
  ·obtain⟨x27,tl,hx28,h,hk2⟩:=RG.t hA32 h hb26
   unfold z2v at h
   refine rn 5 rfl ?_
   refine ixh hx28 rfl rfl ?_
   refine rn 7 rfl ?_
   refine cl h rfl rfl rfl (W125 _ _ _) rfl (fun y29 hx30 h=>?_)
   refine rn 12 rfl ?_
   refine spC h rfl (fun hb31 h=>?_) (fun hb31 h=>?_)
   ·refine rn 4 rfl ?_
    exact rt h rfl
   refine rn 6 rfl ?_
   exact jX (w64 (n25+1)) (hk2 _ h) (gr [0] rfl (hB rfl rfl rfl .nil) rfl)
  replace h:=RG.f h hb26
  unfold z2v at h
  refine rn 1 rfl ?_
  exact jX () h (g0 rfl rfl)
 intro _ h
 refine rn 4 rfl ?_
 exact rt h rfl
theorem W190(F:Nat)(a1:q7c)(a2:B8)(r:(q0f×Bool))(h:M190 F a1 a2=some r):q5n Tryz.prog 190 [(V.agg (q3d a1)),(sV a2)] (V.tup [(V.agg (q2d (r.1))),(bV (r.2))]):=by
 refine pin (fun r=>(V.tup [(V.agg (q2d (r.1))),(bV (r.2))])) r rfl Tryz.func190 rfl rfl rfl rfl rfl (fun w0 m0 hg=>?_)
 unfold M190 at h
 refine rn 11 rfl ?_
 refine ln rfl rfl ?_
 refine rn 2 rfl ?_
 refine jK h (fun _:Unit=>(⟨[(4,(V.ptr 0 2 0 0))],[(0,(Ob.arr 98 2 [[(sV ([]:B8)),nV]]))],1⟩:St)) (fun k3 (_:Unit)=>k3=some r) (fun k3 h=>?_) ?_
 ·refine rn 1 rfl ?_
  refine wl (A:=a1.Ifaces) 9 rfl (fun hA10=>?_)
  refine lC (fun(p:Int)=>(⟨[(1,(sV a2)),(4,(V.ptr 0 2 0 0)),(9,(V.lst 2 (a1.Ifaces.map q2d))),(10,(iV ((a1.Ifaces.length:Nat):Int))),(11,(iV p))],[(0,(Ob.arr 98 2 [[(sV ([]:B8)),nV]]))],1⟩:St)) (fun n p=>RG a1.Ifaces (fun tl nn=>z9m F a2 k3 tl=some r) n p) (fun p h=>RG.zero h) (a1.Ifaces.length+1) 0 (RG.start h) (gr [1] rfl (hB rfl rfl rfl .nil) rfl) (fun n n5 h=>?_)
  refine rn 5 rfl ?_
  refine spL rfl (fun hb6=>?_) (fun hb6=>?_)
  ·obtain⟨x7,tl,hx8,h,hk1⟩:=RG.t hA10 h hb6
   unfold z9m at h
   refine rn 5 rfl ?_
   refine ixh hx8 rfl rfl ?_
   refine rn 11 rfl ?_
   refine spC h rfl (fun hb9 h=>?_) (fun hb9 h=>?_)
   ·refine rn 6 rfl ?_
    exact rt h rfl
   refine rn 6 rfl ?_
   exact jX (w64 (n5+1)) (hk1 _ h) (gr [0] rfl (hB rfl rfl rfl .nil) rfl)
  replace h:=RG.f h hb6
  unfold z9m at h
  refine rn 1 rfl ?_
  exact jX () h (gr [0] rfl (hB rfl rfl rfl .nil) rfl)
 intro _ h
 refine rn 6 rfl ?_
 exact rt h rfl
theorem W191(F:Nat)(a1:q7i)(a2:B8)(r:(B8×Bool))(h:M191 F a1 a2=some r):q5n Tryz.prog 191 [(V.agg (q6e a1)),(sV a2)] (V.tup [(sV (r.1)),(bV (r.2))]):=by
 refine pin (fun r=>(V.tup [(sV (r.1)),(bV (r.2))])) r rfl Tryz.func191 rfl rfl rfl rfl rfl (fun w0 m0 hg=>?_)
 unfold M191 at h
 refine rn 11 rfl ?_
 refine ln rfl rfl ?_
 refine rn 2 rfl ?_
 refine jK h (fun _:Unit=>(⟨[],[],0⟩:St)) (fun k3 (_:Unit)=>k3=some r) (fun k3 h=>?_) ?_
 ·refine rn 1 rfl ?_
  refine wl (A:=a1.Methods) 9 rfl (fun hA10=>?_)
  refine lC (fun(p:Int)=>(⟨[(1,(sV a2)),(9,(V.lst 2 (a1.Methods.map q1j))),(10,(iV ((a1.Methods.length:Nat):Int))),(11,(iV p))],[],0⟩:St)) (fun n p=>RG a1.Methods (fun tl nn=>z8m F a2 k3 tl=some r) n p) (fun p h=>RG.zero h) (a1.Methods.length+1) 0 (RG.start h) (g0 rfl rfl) (fun n n5 h=>?_)
  refine rn 5 rfl ?_
  refine spL rfl (fun hb6=>?_) (fun hb6=>?_)
  ·obtain⟨x7,tl,hx8,h,hk1⟩:=RG.t hA10 h hb6
   unfold z8m at h
   refine rn 5 rfl ?_
   refine ixh hx8 rfl rfl ?_
   refine rn 11 rfl ?_
   refine spC h rfl (fun hb9 h=>?_) (fun hb9 h=>?_)
   ·refine rn 7 rfl ?_
    exact rt h rfl
   refine rn 6 rfl ?_
   exact jX (w64 (n5+1)) (hk1 _ h) (g0 rfl rfl)
  replace h:=RG.f h hb6
  unfold z8m at h
  refine rn 1 rfl ?_
  exact jX () h (g0 rfl rfl)
 intro _ h
 refine rn 5 rfl ?_
 exact rt h rfl
theorem W192(F:Nat)(a1:q7i)(a2:q0f)(r:Bool)(h:M192 F a1 a2=some r):q5n Tryz.prog 192 [(V.agg (q6e a1)),(V.agg (q2d a2))] (bV r):=by
 refine pin (fun r=>(bV r)) r rfl Tryz.func192 rfl rfl rfl rfl rfl (fun w0 m0 hg=>?_)
 unfold M192 at h
 refine rn 11 rfl ?_
 refine ln rfl rfl ?_
 refine rn 2 rfl ?_
 refine jK h (fun _:Unit=>(⟨[],[],0⟩:St)) (fun k3 (_:Unit)=>k3=some r) (fun k3 h=>?_) ?_
 ·refine rn 1 rfl ?_
  refine wl (A:=a2.Methods) 10 rfl (fun hA12=>?_)
  refine lC (fun(p:Int)=>(⟨[(2,(V.ptr 0 2 0 0)),(10,(V.lst 1 (a2.Methods.map q6f))),(11,(iV ((a2.Methods.length:Nat):Int))),(12,(iV p))],[(0,(Ob.arr 104 2 [(q6e a1)]))],1⟩:St)) (fun n p=>RG a2.Methods (fun tl nn=>z7m F a1 k3 tl=some r) n p) (fun p h=>RG.zero h) (a2.Methods.length+1) 0 (RG.start h) (gr [0] rfl (hB rfl rfl rfl .nil) rfl) (fun n n5 h=>?_)
  refine rn 5 rfl ?_
  refine spL rfl (fun hb6=>?_) (fun hb6=>?_)
  ·obtain⟨x7,tl,hx8,h,hk1⟩:=RG.t hA12 h hb6
   unfold z7m at h
   refine rn 5 rfl ?_
   refine ixh hx8 rfl rfl ?_
   refine rn 7 rfl ?_
   refine cl h rfl rfl rfl (W191 _ _ _) rfl (fun y9 hx10 h=>?_)
   refine rn 11 rfl ?_
   refine spC h rfl (fun hb11 h=>?_) (fun hb11 h=>?_)
   ·refine rn 4 rfl ?_
    exact rt h rfl
   refine rn 6 rfl ?_
   exact jX (w64 (n5+1)) (hk1 _ h) (gr [0] rfl (hB rfl rfl rfl .nil) rfl)
  replace h:=RG.f h hb6
  unfold z7m at h
  refine rn 1 rfl ?_
  exact jX () h (g0 rfl rfl)
 intro _ h
 refine rn 4 rfl ?_
 exact rt h rfl
theorem W146(F:Nat)(a1:q7c)(a2:q6c)(r:(List q1a))(h:M146 F a1 a2=some r):q5n Tryz.prog 146 [(V.agg (q3d a1)),(V.agg (q6d a2))] (V.lst 2 (r.map q0b)):=by
 refine pin (fun r=>(V.lst 2 (r.map q0b))) r rfl Tryz.func146 rfl rfl rfl rfl rfl (fun w0 m0 hg=>?_)
 unfold M146 at h
 refine rn 13 rfl ?_
 refine spC h rfl (fun hb3 h=>?_) (fun hb3 h=>?_)
 ·refine rn 5 rfl ?_
  refine q9e [(0,(V.agg [(sV ([]:B8)),(sV a2.Target)]))] [[(sV ([]:B8)),(sV a2.Target)]] v3y w5v rfl rfl rfl rfl q7a (q7g rfl q5i) rfl rfl (by simp) rfl ?_
  refine fo (rn 2 rfl ?_)
  refine q0e (q8l 2 [4,18] rfl (q7j (.cons (.cons (Imm.con _) (.cons (Imm.con _) .nil)) .nil)) (List.forall_mem_cons.2 ⟨rfl,(List.forall_mem_cons.2 ⟨rfl,(fun _ hx=>nomatch hx)⟩)⟩) rfl) ?_
  refine fa ?_
  exact rt h rfl
 refine rn 6 rfl ?_
 refine cl h rfl rfl rfl (W190 _ _ _) rfl (fun y4 hx5 h=>?_)
 refine rn 16 rfl ?_
 refine ln rfl rfl ?_
 refine rn 2 rfl ?_
 refine jK h (fun(p:(List q1a))=>(⟨[(7,(V.own 0 p.length))],[(0,(Ob.arr 223 2 (p.map q0b)))],1⟩:St)) (fun k6 p=>k6 p=some r) (fun k6 h=>?_) ?_
 ·refine rn 1 rfl ?_
  refine wl (A:=a1.Types) 27 rfl (fun hA26=>?_)
  refine lC (fun(p:Int×(List q1a))=>(⟨[(3,(V.ptr 0 4 0 0)),(5,(V.ptr 1 2 0 0)),(7,(V.own 2 (p.2).length)),(27,(V.lst 2 (a1.Types.map q6e))),(28,(iV ((a1.Types.length:Nat):Int))),(29,(iV (p.1)))],[(0,(Ob.arr 109 4 [(q6d a2)])),(1,(Ob.arr 98 2 [(q2d (y4.1))])),(2,(Ob.arr 223 2 ((p.2).map q0b)))],3⟩:St)) (fun n p=>RG a1.Types (fun tl nn=>z5f F a2 y4 k6 tl p.2=some r) n p.1) (fun p h=>RG.zero h) (a1.Types.length+1) (0,([]:List q1a)) (RG.start h) (q8h.trans (q7n 7 223 2 rfl) (q9g 3 (fun i=>([1,2,3]:List Nat).getD i 0) _ _ (by decide) (q9k.get (.cons (Sub.ptr rfl rfl) (.cons (Sub.ptr rfl rfl) (.cons (Sub.ownE rfl rfl (by simp)) (.cons (Sub.imm (Imm.lst _ _)) (.cons (Sub.imm (Imm.con _)) (.cons (Sub.imm (Imm.con _)) .nil))))))) (q6i.get (.cons rfl (q4b.box (.cons (Sub.imm (Imm.con _)) (.cons (Sub.imm (Imm.con _)) (.cons (Sub.imm (Imm.con _)) (.cons (Sub.imm (Imm.con _)) .nil))))) (.cons rfl (q4b.box (.cons (Sub.imm (Imm.con _)) (.cons (Sub.imm (Imm.lst _ _)) .nil))) (.cons rfl (q4b.rows (q3b q5m)) .nil)))) rfl)) (fun n p h=>?_)
  obtain⟨n10,l11⟩:=p
  refine rn 5 rfl ?_
  refine spL rfl (fun hb12=>?_) (fun hb12=>?_)
  ·obtain⟨x15,tl,hx16,h,hk1⟩:=RG.t hA26 h hb12
   unfold z5f at h
   refine rn 2 rfl ?_
   refine jK h (fun(p:(List q1a))=>(⟨[(3,(V.ptr 0 4 0 0)),(5,(V.ptr 1 2 0 0)),(7,(V.own 2 p.length)),(27,(V.lst 2 (a1.Types.map q6e))),(28,(iV ((a1.Types.length:Nat):Int))),(29,(iV n10))],[(0,(Ob.arr 109 4 [(q6d a2)])),(1,(Ob.arr 98 2 [(q2d (y4.1))])),(2,(Ob.arr 223 2 (p.map q0b)))],3⟩:St)) (fun k13 p=>k13 p=some r) (fun k13 h=>?_) ?_
   ·refine rn 3 rfl ?_
    refine ixh hx16 rfl rfl ?_
    refine rn 9 rfl ?_
    refine cl h rfl rfl rfl (W191 _ _ _) rfl (fun y17 hx18 h=>?_)
    refine rn 10 rfl ?_
    refine spO 41 h rfl (fun hb19 h=>?_) (fun hb19 h=>?_)
    ·refine rn 2 rfl ?_
     refine cl h rfl rfl rfl (W192 _ _ _) rfl (fun y20 hx21 h=>?_)
     refine rn 2 rfl ?_
     refine jK h (fun(p:(List q1a))=>(⟨[(3,(V.ptr 0 4 0 0)),(5,(V.ptr 1 2 0 0)),(7,(V.own 2 p.length)),(27,(V.lst 2 (a1.Types.map q6e))),(28,(iV ((a1.Types.length:Nat):Int))),(29,(iV n10)),(44,(bV y20))],[(0,(Ob.arr 109 4 [(q6d a2)])),(1,(Ob.arr 98 2 [(q2d (y4.1))])),(2,(Ob.arr 223 2 (p.map q0b)))],3⟩:St)) (fun k22 p=>k22 p=some r) (fun k22 h=>?_) ?_
     ·refine spC h rfl (fun hb24 h=>?_) (fun hb24 h=>?_)
      ·refine rn 6 rfl ?_
       refine q9e [(0,(V.agg [(sV x15.Name),(sV (y17.1))]))] [[(sV x15.Name),(sV (y17.1))]] v3y w5v rfl rfl rfl rfl q7a (q7g rfl q5i) rfl rfl (by simp) rfl ?_
       refine fo ?_
       refine apO q0b h rfl rfl rfl rfl rfl rfl rfl rfl (fun h=>?_)
       refine rn 2 rfl ?_
       exact jX (l11++([(q1a.mk x15.Name (y17.1))]:List q1a)) h (gr [0,1,5] rfl (hB rfl rfl rfl (hB rfl rfl rfl (hR rfl rfl .nil))) rfl)
      refine rn 1 rfl ?_
      exact jX l11 h (gr [0,1,2] rfl (hB rfl rfl rfl (hB rfl rfl rfl (hR rfl rfl .nil))) rfl)
     intro l23 h
     refine rn 1 rfl ?_
     exact jX l23 h (gr [0,1,2] rfl (hB rfl rfl rfl (hB rfl rfl rfl (hR rfl rfl .nil))) rfl)
    refine rn 8 rfl ?_
    exact jX l11 h (gr [0,1,2] rfl (hB rfl rfl rfl (hB rfl rfl rfl (hR rfl rfl .nil))) rfl)
   intro l14 h
   refine rn 4 rfl ?_
   exact jX ((w64 (n10+1)),l14) (hk1 _ h) (gr [0,1,2] rfl (hB rfl rfl rfl (hB rfl rfl rfl (hR rfl rfl .nil))) rfl)
  replace h:=RG.f h hb12
  unfold z5f at h
  refine rn 1 rfl ?_
  exact jX l11 h (gr [2] rfl (hR rfl rfl .nil) rfl)
 intro l7 h
 refine rn 5 rfl ?_
 refine q0e (q8l 0 [4,7,54] rfl (q3b q5m) (List.forall_mem_cons.2 ⟨rfl,(List.forall_mem_cons.2 ⟨rfl,(List.forall_mem_cons.2 ⟨rfl,(fun _ hx=>nomatch hx)⟩)⟩)⟩) (List.length_map ..).symm) ?_
 refine fa ?_
 exact rt h rfl
theorem W83(F:Nat)(a1:q7c)(a2:(List B8))(r:q2b)(h:M83 F a1 a2=some r):q5n Tryz.prog 83 [(V.agg (q3d a1)),(V.lst 1 (a2.map q6f))] (V.agg (q3a r)):=by
 refine pin (fun r=>(V.agg (q3a r))) r rfl Tryz.func83 rfl rfl rfl rfl rfl (fun w0 m0 hg=>?_)
 unfold M83 at h
 refine rn 17 rfl ?_
 refine z2m (es:=([]:List (B8×Bool)).map q5b) ((q0g ([]:List (B8×Bool)) ([]:B8) true).map q5b) q4j q6h q7a rfl rfl (.con rfl) ⟨_,rfl⟩ q7e rfl (q1i ([]:List (B8×Bool)) ([]:B8) true) ?_
 refine fo (rn 7 rfl ?_)
 refine ln rfl rfl ?_
 refine rn 2 rfl ?_
 refine jK h (fun(p:(List (B8×Bool)))=>(⟨[(2,(V.ptr 0 4 0 0)),(4,(V.ptr 1 6 0 0)),(5,(V.ptr 2 6 0 0)),(6,(V.map 3))],[(0,(Ob.arr 27 4 [(q3d a1)])),(1,(Ob.arr 155 6 [[nV,nV,nV,nV,(V.con (.map none)),(V.con (.map none))]])),(2,(Ob.arr 155 6 [[(V.lst 2 (a1.Ifaces.map q2d)),(V.lst 2 (a1.Types.map q6e)),(V.lst 4 (a1.Funcs.map q8c)),(V.lst 1 (a1.Entries.map q6f)),(V.map 4),(V.map 5)]])),(3,(Ob.map (p.map q5b))),(4,(Ob.map (([]:List (B8×(List q0a))).map q2j))),(5,(Ob.map (([]:List (B8×q5e)).map q5l)))],6⟩:St)) (fun k3 p=>k3 p=some r) (fun k3 h=>?_) ?_
 ·refine rn 1 rfl ?_
  refine wl (A:=a2) 1 rfl (fun hA12=>?_)
  refine lC (fun(p:Int×(List (B8×Bool)))=>(⟨[(2,(V.ptr 0 4 0 0)),(4,(V.ptr 1 6 0 0)),(5,(V.ptr 2 6 0 0)),(6,(V.map 3)),(23,(V.lst 1 (a2.map q6f))),(24,(iV ((a2.length:Nat):Int))),(25,(iV (p.1)))],[(0,(Ob.arr 27 4 [(q3d a1)])),(1,(Ob.arr 155 6 [[nV,nV,nV,nV,(V.con (.map none)),(V.con (.map none))]])),(2,(Ob.arr 155 6 [[(V.lst 2 (a1.Ifaces.map q2d)),(V.lst 2 (a1.Types.map q6e)),(V.lst 4 (a1.Funcs.map q8c)),(V.lst 1 (a1.Entries.map q6f)),(V.map 4),(V.map 5)]])),(3,(Ob.map ((p.2).map q5b))),(4,(Ob.map (([]:List (B8×(List q0a))).map q2j))),(5,(Ob.map (([]:List (B8×q5e)).map q5l)))],6⟩:St)) (fun n p=>RG a2 (fun tl nn=>j5h F k3 tl p.2=some r) n p.1) (fun p h=>RG.zero h) (a2.length+1) (0,(q0g ([]:List (B8×Bool)) ([]:B8) true)) (RG.start h) (gr [0,1,4,5,2,3] rfl (hB rfl rfl rfl (hB rfl rfl rfl (hB rfl rfl rfl (hM rfl rfl (hM rfl rfl (hM rfl rfl .nil)))))) rfl) (fun n p h=>?_)
  obtain⟨n7,m8⟩:=p
  refine rn 5 rfl ?_
  refine spL rfl (fun hb9=>?_) (fun hb9=>?_)
  ·obtain⟨x10,tl,hx11,h,hk1⟩:=RG.t hA12 h hb9
   unfold j5h at h
   refine rn 5 rfl ?_
   refine ixh hx11 rfl rfl ?_
   refine rn 6 rfl ?_
   refine q3f (es:=m8.map q5b) ((q0g m8 x10 true).map q5b) q4j q6h q7a rfl rfl (.con rfl) ⟨_,rfl⟩ q7e rfl (q1i m8 x10 true) ?_
   refine fo (rn 6 rfl ?_)
   exact jX ((w64 (n7+1)),(q0g m8 x10 true)) (hk1 _ h) (gr [0,1,2,3,4,5] rfl (hB rfl rfl rfl (hB rfl rfl rfl (hB rfl rfl rfl (hM rfl rfl (hM rfl rfl (hM rfl rfl .nil)))))) rfl)
  replace h:=RG.f h hb9
  unfold j5h at h
  refine rn 1 rfl ?_
  exact jX m8 h (gr [0,1,2,3,4,5] rfl (hB rfl rfl rfl (hB rfl rfl rfl (hB rfl rfl rfl (hM rfl rfl (hM rfl rfl (hM rfl rfl .nil)))))) rfl)
 intro m4 h
 refine rn 10 rfl ?_
 refine ln rfl rfl ?_
 refine rn 2 rfl ?_
 refine jK h (fun(p:(List (B8×(List q0a)))×(List (B8×q5e)))=>(⟨[(4,(V.ptr 0 6 0 0)),(5,(V.ptr 1 6 0 0))],[(0,(Ob.arr 155 6 [[nV,nV,nV,nV,(V.con (.map none)),(V.con (.map none))]])),(1,(Ob.arr 155 6 [[(V.lst 2 (a1.Ifaces.map q2d)),(V.lst 2 (a1.Types.map q6e)),(V.lst 4 (a1.Funcs.map q8c)),(V.lst 1 (a1.Entries.map q6f)),(V.map 2),(V.map 3)]])),(2,(Ob.map ((p.1).map q2j))),(3,(Ob.map ((p.2).map q5l)))],4⟩:St)) (fun k13 p=>k13 p.1 p.2=some r) (fun k13 h=>?_) ?_
 ·refine rn 1 rfl ?_
  refine wl (A:=a1.Funcs) 34 rfl (fun hA55=>?_)
  refine lC (fun(p:Int×(List (q6c×(List q1a)))×(List (B8×(List q0a)))×(List (B8×q5e)))=>(⟨[(2,(V.ptr 0 4 0 0)),(4,(V.ptr 1 6 0 0)),(5,(V.ptr 2 6 0 0)),(6,(V.map 3)),(9,(V.map 4)),(34,(V.lst 4 (a1.Funcs.map q8c))),(35,(iV ((a1.Funcs.length:Nat):Int))),(36,(iV (p.1)))],[(0,(Ob.arr 27 4 [(q3d a1)])),(1,(Ob.arr 155 6 [[nV,nV,nV,nV,(V.con (.map none)),(V.con (.map none))]])),(2,(Ob.arr 155 6 [[(V.lst 2 (a1.Ifaces.map q2d)),(V.lst 2 (a1.Types.map q6e)),(V.lst 4 (a1.Funcs.map q8c)),(V.lst 1 (a1.Entries.map q6f)),(V.map 5),(V.map 6)]])),(3,(Ob.map (m4.map q5b))),(4,(Ob.map ((p.2.1).map q6k))),(5,(Ob.map ((p.2.2.1).map q2j))),(6,(Ob.map ((p.2.2.2).map q5l)))],7⟩:St)) (fun n p=>RG a1.Funcs (fun tl nn=>z0x F a1 m4 k13 tl p.2.1 p.2.2.1 p.2.2.2=some r) n p.1) (fun p h=>RG.zero h) (a1.Funcs.length+1) (0,([]:List (q6c×(List q1a))),([]:List (B8×(List q0a))),([]:List (B8×q5e))) (RG.start h) (gr [0,1,2,3,6,4,5] rfl (hB rfl rfl rfl (hB rfl rfl rfl (hB rfl rfl rfl (hM rfl rfl (hM rfl rfl (hM rfl rfl (hM rfl rfl .nil))))))) rfl) (fun n p h=>?_)
  obtain⟨n20,m21,m22,m23⟩:=p
  refine rn 5 rfl ?_
  refine spL rfl (fun hb24=>?_) (fun hb24=>?_)
  ·obtain⟨x29,tl,hx30,h,hk2⟩:=RG.t hA55 h hb24
   unfold z0x at h
   refine rn 2 rfl ?_
   refine jK h (fun(p:(List (q6c×(List q1a)))×(List (B8×(List q0a)))×(List (B8×q5e)))=>(⟨[(2,(V.ptr 0 4 0 0)),(4,(V.ptr 1 6 0 0)),(5,(V.ptr 2 6 0 0)),(6,(V.map 3)),(9,(V.map 4)),(34,(V.lst 4 (a1.Funcs.map q8c))),(35,(iV ((a1.Funcs.length:Nat):Int))),(36,(iV n20))],[(0,(Ob.arr 27 4 [(q3d a1)])),(1,(Ob.arr 155 6 [[nV,nV,nV,nV,(V.con (.map none)),(V.con (.map none))]])),(2,(Ob.arr 155 6 [[(V.lst 2 (a1.Ifaces.map q2d)),(V.lst 2 (a1.Types.map q6e)),(V.lst 4 (a1.Funcs.map q8c)),(V.lst 1 (a1.Entries.map q6f)),(V.map 5),(V.map 6)]])),(3,(Ob.map (m4.map q5b))),(4,(Ob.map ((p.1).map q6k))),(5,(Ob.map ((p.2.1).map q2j))),(6,(Ob.map ((p.2.2).map q5l)))],7⟩:St)) (fun k25 p=>k25 p.1 p.2.1 p.2.2=some r) (fun k25 h=>?_) ?_
   ·refine rn 3 rfl ?_
    refine ixh hx30 rfl rfl ?_
    refine rn 11 rfl ?_
    refine q3f (es:=m23.map q5l) ((q0g m23 x29.Name x29).map q5l) j4t q6h q7a rfl rfl (.con rfl) ⟨_,rfl⟩ q7u rfl (j0w m23 x29.Name x29) ?_
    refine fo (rn 5 rfl ?_)
    refine ln rfl rfl ?_
    refine rn 2 rfl ?_
    refine jK h (fun(p:(List (q6c×(List q1a)))×(List (B8×(List q0a))))=>(⟨[(2,(V.ptr 0 4 0 0)),(4,(V.ptr 1 6 0 0)),(5,(V.ptr 2 6 0 0)),(6,(V.map 3)),(9,(V.map 4)),(34,(V.lst 4 (a1.Funcs.map q8c))),(35,(iV ((a1.Funcs.length:Nat):Int))),(36,(iV n20))],[(0,(Ob.arr 27 4 [(q3d a1)])),(1,(Ob.arr 155 6 [[nV,nV,nV,nV,(V.con (.map none)),(V.con (.map none))]])),(2,(Ob.arr 155 6 [[(V.lst 2 (a1.Ifaces.map q2d)),(V.lst 2 (a1.Types.map q6e)),(V.lst 4 (a1.Funcs.map q8c)),(V.lst 1 (a1.Entries.map q6f)),(V.map 5),(V.map 6)]])),(3,(Ob.map (m4.map q5b))),(4,(Ob.map ((p.1).map q6k))),(5,(Ob.map ((p.2).map q2j))),(6,(Ob.map ((q0g m23 x29.Name x29).map q5l)))],7⟩:St)) (fun k31 p=>k31 p.1 p.2=some r) (fun k31 h=>?_) ?_
    ·refine rn 1 rfl ?_
     refine wl (A:=x29.Calls) 46 rfl (fun hA54=>?_)
     refine lC (fun(p:Int×(List (q6c×(List q1a)))×(List (B8×(List q0a))))=>(⟨[(2,(V.ptr 0 4 0 0)),(4,(V.ptr 1 6 0 0)),(5,(V.ptr 2 6 0 0)),(6,(V.map 3)),(9,(V.map 4)),(11,(V.ptr 5 4 0 0)),(34,(V.lst 4 (a1.Funcs.map q8c))),(35,(iV ((a1.Funcs.length:Nat):Int))),(36,(iV n20)),(46,(V.lst 4 (x29.Calls.map q6d))),(47,(iV ((x29.Calls.length:Nat):Int))),(48,(iV (p.1)))],[(0,(Ob.arr 27 4 [(q3d a1)])),(1,(Ob.arr 155 6 [[nV,nV,nV,nV,(V.con (.map none)),(V.con (.map none))]])),(2,(Ob.arr 155 6 [[(V.lst 2 (a1.Ifaces.map q2d)),(V.lst 2 (a1.Types.map q6e)),(V.lst 4 (a1.Funcs.map q8c)),(V.lst 1 (a1.Entries.map q6f)),(V.map 6),(V.map 7)]])),(3,(Ob.map (m4.map q5b))),(4,(Ob.map ((p.2.1).map q6k))),(5,(Ob.arr 94 4 [(q8c x29)])),(6,(Ob.map ((p.2.2).map q2j))),(7,(Ob.map ((q0g m23 x29.Name x29).map q5l)))],8⟩:St)) (fun n p=>RG x29.Calls (fun tl nn=>z9w F a1 m4 x29 k31 tl nn p.2.1 p.2.2=some r) n p.1) (fun p h=>RG.zero h) (x29.Calls.length+1) (0,m21,m22) (RG.start h) (gr [0,1,2,3,4,7,5,6] rfl (hB rfl rfl rfl (hB rfl rfl rfl (hB rfl rfl rfl (hM rfl rfl (hM rfl rfl (hB rfl rfl rfl (hM rfl rfl (hM rfl rfl .nil)))))))) rfl) (fun n p h=>?_)
     obtain⟨n37,m38,m39⟩:=p
     refine rn 5 rfl ?_
     refine spL rfl (fun hb40=>?_) (fun hb40=>?_)
     ·obtain⟨x44,tl,hx45,h,hk3⟩:=RG.t hA54 h hb40
      unfold z9w at h
      refine rn 2 rfl ?_
      refine jK h (fun(p:(List (q6c×(List q1a)))×(List (B8×(List q0a))))=>(⟨[(2,(V.ptr 0 4 0 0)),(4,(V.ptr 1 6 0 0)),(5,(V.ptr 2 6 0 0)),(6,(V.map 3)),(9,(V.map 4)),(11,(V.ptr 5 4 0 0)),(34,(V.lst 4 (a1.Funcs.map q8c))),(35,(iV ((a1.Funcs.length:Nat):Int))),(36,(iV n20)),(46,(V.lst 4 (x29.Calls.map q6d))),(47,(iV ((x29.Calls.length:Nat):Int))),(48,(iV n37))],[(0,(Ob.arr 27 4 [(q3d a1)])),(1,(Ob.arr 155 6 [[nV,nV,nV,nV,(V.con (.map none)),(V.con (.map none))]])),(2,(Ob.arr 155 6 [[(V.lst 2 (a1.Ifaces.map q2d)),(V.lst 2 (a1.Types.map q6e)),(V.lst 4 (a1.Funcs.map q8c)),(V.lst 1 (a1.Entries.map q6f)),(V.map 6),(V.map 7)]])),(3,(Ob.map (m4.map q5b))),(4,(Ob.map ((p.1).map q6k))),(5,(Ob.arr 94 4 [(q8c x29)])),(6,(Ob.map ((p.2).map q2j))),(7,(Ob.map ((q0g m23 x29.Name x29).map q5l)))],8⟩:St)) (fun k41 p=>k41 p.1 p.2=some r) (fun k41 h=>?_) ?_
      ·refine rn 4 rfl ?_
       refine ixh hx45 rfl rfl ?_
       refine rn 11 rfl ?_
       refine q7d _ (bV false) (bV ((q6b m4 x44.Feature).getD false)) q4j q6h j4m (q9f _) q7a rfl (.own rfl) (.con rfl) ⟨_,rfl⟩ q7e (q3h m4 x44.Feature) (q1f (q5g) (q6b m4 x44.Feature) false) rfl ?_
       refine fo (rn 2 rfl ?_)
       refine spC h rfl (fun hb46 h=>?_) (fun hb46 h=>?_)
       ·refine rn 1 rfl ?_
        exact jX (m38,m39) h (gr [0,1,2,3,4,5,6,7] rfl (hB rfl rfl rfl (hB rfl rfl rfl (hB rfl rfl rfl (hM rfl rfl (hM rfl rfl (hB rfl rfl rfl (hM rfl rfl (hM rfl rfl .nil)))))))) rfl)
       refine rn 17 rfl ?_
       refine q5h _ (V.lst 2 (([]:(List q1a)).map q0b)) (V.lst 2 (((q6b m38 (q6c.mk x44.Kind x44.Target x44.Method ([]:B8))).getD ([]:(List q1a))).map q0b)) v4x v9x tZo217 (fun _=>.nil _ _ _) q7a rfl (.own rfl) (.agg (z4q (q6c.mk x44.Kind x44.Target x44.Method ([]:B8))) rfl) ⟨_,rfl⟩ z6c (z6y m38 (q6c.mk x44.Kind x44.Target x44.Method ([]:B8))) (q1f (q8o) (q6b m38 (q6c.mk x44.Kind x44.Target x44.Method ([]:B8))) ([]:(List q1a))) (q6m ..) rfl ?_
       refine fo (rn 12 rfl ?_)
       refine jK h (fun(p:(List q1a)×(List (q6c×(List q1a))))=>(⟨[(2,(V.ptr 0 4 0 0)),(4,(V.ptr 1 6 0 0)),(5,(V.ptr 2 6 0 0)),(6,(V.map 3)),(9,(V.map 4)),(11,(V.ptr 5 4 0 0)),(12,(iV n37)),(15,(V.lst 2 ((p.1).map q0b))),(34,(V.lst 4 (a1.Funcs.map q8c))),(35,(iV ((a1.Funcs.length:Nat):Int))),(36,(iV n20)),(46,(V.lst 4 (x29.Calls.map q6d))),(47,(iV ((x29.Calls.length:Nat):Int))),(48,(iV n37))],[(0,(Ob.arr 27 4 [(q3d a1)])),(1,(Ob.arr 155 6 [[nV,nV,nV,nV,(V.con (.map none)),(V.con (.map none))]])),(2,(Ob.arr 155 6 [[(V.lst 2 (a1.Ifaces.map q2d)),(V.lst 2 (a1.Types.map q6e)),(V.lst 4 (a1.Funcs.map q8c)),(V.lst 1 (a1.Entries.map q6f)),(V.map 6),(V.map 7)]])),(3,(Ob.map (m4.map q5b))),(4,(Ob.map ((p.2).map q6k))),(5,(Ob.arr 94 4 [(q8c x29)])),(6,(Ob.map (m39.map q2j))),(7,(Ob.map ((q0g m23 x29.Name x29).map q5l)))],8⟩:St)) (fun k47 p=>k47 p.1 p.2=some r) (fun k47 h=>?_) ?_
       ·refine spC h rfl (fun hb50 h=>?_) (fun hb50 h=>?_)
        ·refine rn 4 rfl ?_
         refine cl h rfl rfl rfl (W146 _ _ _) rfl (fun y51 hx52 h=>?_)
         refine rn 6 rfl ?_
         refine q3f (es:=m38.map q6k) ((q0g m38 (q6c.mk x44.Kind x44.Target x44.Method ([]:B8)) y51).map q6k) v4x v9x q7a rfl rfl (.agg (z4q (q6c.mk x44.Kind x44.Target x44.Method ([]:B8))) rfl) ⟨_,rfl⟩ z6c rfl (z5y m38 (q6c.mk x44.Kind x44.Target x44.Method ([]:B8)) y51) ?_
         refine fo (rn 1 rfl ?_)
         exact jX (y51,(q0g m38 (q6c.mk x44.Kind x44.Target x44.Method ([]:B8)) y51)) h (gr [0,1,2,3,4,5,6,7] rfl (hB rfl rfl rfl (hB rfl rfl rfl (hB rfl rfl rfl (hM rfl rfl (hM rfl rfl (hB rfl rfl rfl (hM rfl rfl (hM rfl rfl .nil)))))))) rfl)
        refine rn 1 rfl ?_
        exact jX (((q6b m38 (q6c.mk x44.Kind x44.Target x44.Method ([]:B8))).getD ([]:(List q1a))),m38) h (gr [0,1,2,3,4,5,6,7] rfl (hB rfl rfl rfl (hB rfl rfl rfl (hB rfl rfl rfl (hM rfl rfl (hM rfl rfl (hB rfl rfl rfl (hM rfl rfl (hM rfl rfl .nil)))))))) rfl)
       rintro⟨l48,m49⟩ h
       refine ck h (fun hc53 h=>?_)
       refine q0e q8j ?_
       refine q0e q8j ?_
       refine fa ?_
       refine dr mixed (vs 8 rfl (xD (OD.mk [(84,(V.map 6)),(86,(sV x29.Name))] [(6,(Ob.map (m39.map q2j))),(8,Ob.res)] [(87,(V.own 8 ((q6b m39 x29.Name).getD []).length))] [(6,(Ob.map (z7s q2j 8 x29.Name m39))),(8,(Ob.arr 219 3 (((q6b m39 x29.Name).getD []).map q6a)))]) ⟨⟨rfl,rfl,trivial⟩,⟨rfl,rfl,trivial⟩⟩ (by exact fun S hn h hh=>q6z 8 rfl hn hh.2.1 (n:=((q6b m39 x29.Name).getD []).length) z5l q6h j6m q7a h.1 hh.1 (.con h.2.1) ⟨_,rfl⟩ j0l (j9c q2j (fun k=>str k) q6a 219 3 8 (fun _=>rfl) q4l x29.Name m39) (by simp) rfl (q8d ⟨rfl,rfl⟩)) rfl (vs 6 rfl (xD (OD.mk [(93,(V.agg [(sV x29.Name),(iV n37),(V.lst 2 (l48.map q0b))]))] [] [(94,(V.lst 3 (([(q0a.mk (q2n.mk x29.Name n37) l48)]:List q0a).map q6a)))] []) ⟨⟨rfl,trivial⟩,trivial⟩ (by exact fun S hn h hh=>q6g [(0,(V.agg [(sV x29.Name),(iV n37),(V.lst 2 (l48.map q0b))]))] [[(sV x29.Name),(iV n37),(V.lst 2 (l48.map q0b))]] w3r tZ219 q7a rfl rfl rfl rfl (q7g h.1 q5i) rfl rfl (by simp) (q7j (.cons (.cons (Imm.con _) (.cons (Imm.con _) (.cons (Imm.lst _ _) .nil))) .nil)) rfl (q8d ⟨rfl,rfl⟩)) rfl (xD (OD.mk [(87,(V.own 8 ((q6b m39 x29.Name).getD []).length)),(94,(V.lst 3 (([(q0a.mk (q2n.mk x29.Name n37) l48)]:List q0a).map q6a)))] [(8,(Ob.arr 219 3 (((q6b m39 x29.Name).getD []).map q6a))),(9,Ob.res)] [(95,(V.own 9 (((q6b m39 x29.Name).getD [])++([(q0a.mk (q2n.mk x29.Name n37) l48)]:List q0a)).length))] [(9,(Ob.arr 219 3 ((((q6b m39 x29.Name).getD [])++([(q0a.mk (q2n.mk x29.Name n37) l48)]:List q0a)).map q6a))),(8,Ob.dead)]) ⟨⟨rfl,rfl,trivial⟩,⟨rfl,rfl,trivial⟩⟩ (by exact fun S hn h hh=>q7k 9 rfl hn hh.2.1 (([(q0a.mk (q2n.mk x29.Name n37) l48)]:List q0a).map q6a) ((((q6b m39 x29.Name).getD [])++([(q0a.mk (q2n.mk x29.Name n37) l48)]:List q0a)).map q6a) w3r v6l rfl rfl q7a h.1 hh.1 (by simp) h.2.1 (.lst (q0s q1p)) (q1s q6a ((q6b m39 x29.Name).getD []) ([(q0a.mk (q2n.mk x29.Name n37) l48)]:List q0a)) (List.length_map ..) hc53 rfl (q8d ⟨rfl,rfl⟩)) rfl (xD (OD.mk [(80,(V.map 6)),(82,(sV x29.Name)),(95,(V.own 9 (((q6b m39 x29.Name).getD [])++([(q0a.mk (q2n.mk x29.Name n37) l48)]:List q0a)).length))] [(6,(Ob.map (z7s q2j 8 x29.Name m39))),(9,(Ob.arr 219 3 ((((q6b m39 x29.Name).getD [])++([(q0a.mk (q2n.mk x29.Name n37) l48)]:List q0a)).map q6a)))] [] [(6,(Ob.map ((q0g m39 x29.Name (((q6b m39 x29.Name).getD [])++([(q0a.mk (q2n.mk x29.Name n37) l48)]:List q0a))).map q2j))),(9,Ob.dead)]) ⟨⟨rfl,rfl,rfl,trivial⟩,⟨rfl,rfl,trivial⟩⟩ (by exact fun S hn h hh=>q2p (id2:=9) (o:=(V.own 9 (((q6b m39 x29.Name).getD [])++([(q0a.mk (q2n.mk x29.Name n37) l48)]:List q0a)).length)) (dv:=(.dsl 219 3 ((((q6b m39 x29.Name).getD [])++([(q0a.mk (q2n.mk x29.Name n37) l48)]:List q0a)).map q6a))) (ob:=(.arr 219 3 ((((q6b m39 x29.Name).getD [])++([(q0a.mk (q2n.mk x29.Name n37) l48)]:List q0a)).map q6a))) ((q0g m39 x29.Name (((q6b m39 x29.Name).getD [])++([(q0a.mk (q2n.mk x29.Name n37) l48)]:List q0a))).map q2j) z5l q6h q7a h.1 hh.1 (.con h.2.1) ⟨_,rfl⟩ (z8s (fun _=>⟨_,rfl⟩)) h.2.2.1 (by simp[ovl]) hh.2.1 rfl (j8n q7l (((q6b m39 x29.Name).getD [])++([(q0a.mk (q2n.mk x29.Name n37) l48)]:List q0a))) (j3b q2j (fun k=>str k) q6a 219 3 8 (fun _=>rfl) q4l x29.Name (((q6b m39 x29.Name).getD [])++([(q0a.mk (q2n.mk x29.Name n37) l48)]:List q0a)) m39) (q8d ⟨rfl,rfl⟩)) rfl .nil)))))) (by kernel_rfl) ?_
       refine rn 1 rfl ?_
       exact jX (m49,(q0g m39 x29.Name (((q6b m39 x29.Name).getD [])++([(q0a.mk (q2n.mk x29.Name n37) l48)]:List q0a)))) h (gr [0,1,2,3,4,5,6,7] rfl (hB rfl rfl rfl (hB rfl rfl rfl (hB rfl rfl rfl (hM rfl rfl (hM rfl rfl (hB rfl rfl rfl (hM rfl rfl (hM rfl rfl .nil)))))))) rfl)
      rintro⟨m42,m43⟩ h
      refine rn 4 rfl ?_
      exact jX ((w64 (n37+1)),m42,m43) (hk3 _ h) (gr [0,1,2,3,4,5,6,7] rfl (hB rfl rfl rfl (hB rfl rfl rfl (hB rfl rfl rfl (hM rfl rfl (hM rfl rfl (hB rfl rfl rfl (hM rfl rfl (hM rfl rfl .nil)))))))) rfl)
     replace h:=RG.f h hb40
     unfold z9w at h
     refine rn 1 rfl ?_
     exact jX (m38,m39) h (gr [0,1,2,3,4,6,7] rfl (hB rfl rfl rfl (hB rfl rfl rfl (hB rfl rfl rfl (hM rfl rfl (hM rfl rfl (hM rfl rfl (hM rfl rfl .nil))))))) rfl)
    rintro⟨m32,m33⟩ h
    refine rn 1 rfl ?_
    exact jX (m32,m33,(q0g m23 x29.Name x29)) h (gr [0,1,2,3,4,5,6] rfl (hB rfl rfl rfl (hB rfl rfl rfl (hB rfl rfl rfl (hM rfl rfl (hM rfl rfl (hM rfl rfl (hM rfl rfl .nil))))))) rfl)
   rintro⟨m26,m27,m28⟩ h
   refine rn 4 rfl ?_
   exact jX ((w64 (n20+1)),m26,m27,m28) (hk2 _ h) (gr [0,1,2,3,4,5,6] rfl (hB rfl rfl rfl (hB rfl rfl rfl (hB rfl rfl rfl (hM rfl rfl (hM rfl rfl (hM rfl rfl (hM rfl rfl .nil))))))) rfl)
  replace h:=RG.f h hb24
  unfold z0x at h
  refine rn 1 rfl ?_
  exact jX (m22,m23) h (gr [1,2,5,6] rfl (hB rfl rfl rfl (hB rfl rfl rfl (hM rfl rfl (hM rfl rfl .nil)))) rfl)
 rintro⟨m14,m15⟩ h
 refine rn 5 rfl ?_
 refine q0e (z9d 2 0 (m14.map q7q) (Ob.arr 155 6 [[(V.lst 2 (a1.Ifaces.map q2d)),(V.lst 2 (a1.Types.map q6e)),(V.lst 4 (a1.Funcs.map q8c)),(V.lst 1 (a1.Entries.map q6f)),(V.imap (m14.map q7q)),(V.map 3)]]) rfl (by simp) (v9g z0q _) (q4b.box (.cons Sub.keepM (.cons Sub.keepM (.cons Sub.keepM (.cons Sub.keepM (.cons Sub.frzM (.cons Sub.keepM .nil)))))))) ?_
 refine q0e (q1l 3 0 (Ob.arr 155 6 [[(V.lst 2 (a1.Ifaces.map q2d)),(V.lst 2 (a1.Types.map q6e)),(V.lst 4 (a1.Funcs.map q8c)),(V.lst 1 (a1.Entries.map q6f)),(V.imap (m14.map q7q)),(V.imap (m15.map q5l))]]) rfl v8b (q4b.box (.cons Sub.keepM (.cons Sub.keepM (.cons Sub.keepM (.cons Sub.keepM (.cons Sub.keepM (.cons Sub.frzM .nil)))))))) ?_
 refine fa ?_
 exact rt h rfl
theorem W159(F:Nat)(a1:q2b)(a2:Int)(a3:q5a)(r:q5a)(h:M159 F a1 a2 a3=some r):q5n Tryz.prog 159 [(V.agg (q3a a1)),(iV a2),(V.agg (q8a a3))] (V.agg (q8a r)):=by
 refine pin (fun r=>(V.agg (q8a r))) r rfl Tryz.func159 rfl rfl rfl rfl rfl (fun w0 m0 hg=>?_)
 unfold M159 at h
 refine rn 20 rfl ?_
 refine ln rfl rfl ?_
 refine rn 2 rfl ?_
 refine jK h (fun(p:(List (B8×Bool)))=>(⟨[(1,(iV a2)),(3,(V.ptr 0 6 0 0)),(5,(V.ptr 1 2 0 0)),(6,(V.ptr 2 2 0 0)),(7,(V.ptr 3 2 0 0))],[(0,(Ob.arr 155 6 [(q3a a1)])),(1,(Ob.arr 193 2 [(q8a a3)])),(2,(Ob.arr 193 2 [[(V.con (.map none)),(V.con (.map none))]])),(3,(Ob.arr 193 2 [[(V.map 4),(V.map 5)]])),(4,(Ob.map (p.map q5b))),(5,(Ob.map (([]:List (B8×Bool)).map q5b)))],6⟩:St)) (fun k4 p=>k4 p=some r) (fun k4 h=>?_) ?_
 ·refine rn 1 rfl ?_
  refine wl (A:=a1.g.Entries) 22 rfl (fun hA13=>?_)
  refine lC (fun(p:Int×(List (B8×Bool)))=>(⟨[(1,(iV a2)),(3,(V.ptr 0 6 0 0)),(5,(V.ptr 1 2 0 0)),(6,(V.ptr 2 2 0 0)),(7,(V.ptr 3 2 0 0)),(22,(V.lst 1 (a1.g.Entries.map q6f))),(23,(iV ((a1.g.Entries.length:Nat):Int))),(24,(iV (p.1)))],[(0,(Ob.arr 155 6 [(q3a a1)])),(1,(Ob.arr 193 2 [(q8a a3)])),(2,(Ob.arr 193 2 [[(V.con (.map none)),(V.con (.map none))]])),(3,(Ob.arr 193 2 [[(V.map 4),(V.map 5)]])),(4,(Ob.map ((p.2).map q5b))),(5,(Ob.map (([]:List (B8×Bool)).map q5b)))],6⟩:St)) (fun n p=>RG a1.g.Entries (fun tl nn=>z3n F k4 tl p.2=some r) n p.1) (fun p h=>RG.zero h) (a1.g.Entries.length+1) (0,([]:List (B8×Bool))) (RG.start h) (gr [0,1,2,5,3,4] rfl (hB rfl rfl rfl (hB rfl rfl rfl (hB rfl rfl rfl (hB rfl rfl rfl (hM rfl rfl (hM rfl rfl .nil)))))) rfl) (fun n p h=>?_)
  obtain⟨n8,m9⟩:=p
  refine rn 5 rfl ?_
  refine spL rfl (fun hb10=>?_) (fun hb10=>?_)
  ·obtain⟨x11,tl,hx12,h,hk1⟩:=RG.t hA13 h hb10
   unfold z3n at h
   refine rn 5 rfl ?_
   refine ixh hx12 rfl rfl ?_
   refine rn 7 rfl ?_
   refine q3f (es:=m9.map q5b) ((q0g m9 x11 true).map q5b) q4j q6h q7a rfl rfl (.con rfl) ⟨_,rfl⟩ q7e rfl (q1i m9 x11 true) ?_
   refine q8f (q8p 4 rfl (q8r q5b (q0g m9 x11 true))) ?_
   refine fo (rn 6 rfl ?_)
   exact jX ((w64 (n8+1)),(q4m (q0g m9 x11 true))) (hk1 _ h) (gr [0,1,2,3,4,5] rfl (hB rfl rfl rfl (hB rfl rfl rfl (hB rfl rfl rfl (hB rfl rfl rfl (hM rfl rfl (hM rfl rfl .nil)))))) rfl)
  replace h:=RG.f h hb10
  unfold z3n at h
  refine rn 1 rfl ?_
  exact jX m9 h (gr [0,1,2,3,4,5] rfl (hB rfl rfl rfl (hB rfl rfl rfl (hB rfl rfl rfl (hB rfl rfl rfl (hM rfl rfl (hM rfl rfl .nil)))))) rfl)
 intro m5 h
 refine rn 5 rfl ?_
 refine z9i q4j q7a rfl rfl ?_
 refine fo (rn 2 rfl ?_)
 refine lC (fun(p:(List (B8×Bool))×(List (B8×Bool))×(List (B8×Bool)))=>(⟨[(1,(iV a2)),(3,(V.ptr 0 6 0 0)),(5,(V.ptr 1 2 0 0)),(6,(V.ptr 2 2 0 0)),(7,(V.ptr 3 2 0 0)),(34,(V.ptr 4 1 0 0))],[(0,(Ob.arr 155 6 [(q3a a1)])),(1,(Ob.arr 193 2 [(q8a a3)])),(2,(Ob.arr 193 2 [[(V.con (.map none)),(V.con (.map none))]])),(3,(Ob.arr 193 2 [[(V.map 5),(V.map 6)]])),(4,(Ob.iter [] ((p.1).map q5b))),(5,(Ob.map ((p.2.1).map q5b))),(6,(Ob.map ((p.2.2).map q5b)))],7⟩:St)) (fun n p=>RM n p.1 (z9b F a1 a2 a3 p.1 p.2.1 p.2.2=some r)) (fun p h=>RM.zero h) (a3.reached.length+1) (a3.reached,m5,([]:List (B8×Bool))) (RM.start h) (gr [0,1,2,3,6,4,5] rfl (hB rfl rfl rfl (hB rfl rfl rfl (hB rfl rfl rfl (hB rfl rfl rfl (hI rfl rfl (hM rfl rfl (hM rfl rfl .nil))))))) rfl) (fun n p h=>?_)
 obtain⟨l17,m18,m19⟩:=p
 refine rn 2 rfl ?_
 refine nxt rfl rfl q7a rfl (fun hl2=>?_) (fun e20 l21 hq2 hp2=>?_)
 ·replace h:=h.2
  subst hl2
  unfold z9b at h
  refine rn 10 rfl ?_
  refine q0e (q1l 5 2 (Ob.arr 193 2 [[(V.imap (m18.map q5b)),(V.map 6)]]) rfl q0m (q4b.box (.cons Sub.frzM (.cons Sub.keepM .nil)))) ?_
  refine q0e (q1l 6 2 (Ob.arr 193 2 [[(V.imap (m18.map q5b)),(V.imap (m19.map q5b))]]) rfl q0m (q4b.box (.cons Sub.keepM (.cons Sub.frzM .nil)))) ?_
  refine fa ?_
  exact rt h rfl
 have hm2:=h
 replace h:=v7h hp2 h.2
 unfold z9b at h
 refine rn 5 rfl ?_
 refine jK h (fun(p:(List (B8×Bool))×(List (B8×Bool)))=>(⟨[(1,(iV a2)),(3,(V.ptr 0 6 0 0)),(5,(V.ptr 1 2 0 0)),(6,(V.ptr 2 2 0 0)),(7,(V.ptr 3 2 0 0)),(34,(V.ptr 4 1 0 0))],[(0,(Ob.arr 155 6 [(q3a a1)])),(1,(Ob.arr 193 2 [(q8a a3)])),(2,(Ob.arr 193 2 [[(V.con (.map none)),(V.con (.map none))]])),(3,(Ob.arr 193 2 [[(V.map 5),(V.map 6)]])),(4,(Ob.iter [] (l21.map q5b))),(5,(Ob.map ((p.1).map q5b))),(6,(Ob.map ((p.2).map q5b)))],7⟩:St)) (fun k22 p=>k22 p.1 p.2=some r) (fun k22 h=>?_) ?_
 ·refine rn 3 rfl ?_
  refine z0j q7a rfl rfl rfl ?_
  refine fo (rn 8 rfl ?_)
  refine q3f (es:=m18.map q5b) ((q0g m18 e20.1 true).map q5b) q4j q6h q7a rfl rfl (.con rfl) ⟨_,rfl⟩ q7e rfl (q1i m18 e20.1 true) ?_
  refine q8f (q8p 5 rfl (q8r q5b (q0g m18 e20.1 true))) ?_
  refine fo (rn 7 rfl ?_)
  refine q7d _ (V.agg [(sV ([]:B8)),(sV ([]:B8)),(V.lst 4 (([]:List q6c).map q6d)),(V.lst 1 (([]:List B8).map q6f))]) (V.agg (q8c ((q6b a1.funcs e20.1).getD (q5e.mk ([]:B8) ([]:B8) ([]:(List q6c)) ([]:(List B8)))))) j4t q6h w4v (z3p (.con (.con (.sl (.sl .nil))))) q7a rfl .imm (.con rfl) ⟨_,rfl⟩ q7u (z0b a1.funcs e20.1) (q1f (q7o) (q6b a1.funcs e20.1) (q5e.mk ([]:B8) ([]:B8) ([]:(List q6c)) ([]:(List B8)))) rfl ?_
  refine fo (rn 1 rfl ?_)
  refine ln rfl rfl ?_
  refine rn 2 rfl ?_
  refine jK h (fun(p:(List (B8×Bool)))=>(⟨[(1,(iV a2)),(3,(V.ptr 0 6 0 0)),(5,(V.ptr 1 2 0 0)),(6,(V.ptr 2 2 0 0)),(7,(V.ptr 3 2 0 0)),(10,(sV e20.1)),(34,(V.ptr 4 1 0 0))],[(0,(Ob.arr 155 6 [(q3a a1)])),(1,(Ob.arr 193 2 [(q8a a3)])),(2,(Ob.arr 193 2 [[(V.con (.map none)),(V.con (.map none))]])),(3,(Ob.arr 193 2 [[(V.map 5),(V.map 6)]])),(4,(Ob.iter [] (l21.map q5b))),(5,(Ob.map ((q4m (q0g m18 e20.1 true)).map q5b))),(6,(Ob.map (p.map q5b)))],7⟩:St)) (fun k25 p=>k25 p=some r) (fun k25 h=>?_) ?_
  ·refine rn 1 rfl ?_
   refine wl (A:=((q6b a1.funcs e20.1).getD (q5e.mk ([]:B8) ([]:B8) ([]:(List q6c)) ([]:(List B8)))).Makes) 46 rfl (fun hA34=>?_)
   refine lC (fun(p:Int×(List (B8×Bool)))=>(⟨[(1,(iV a2)),(3,(V.ptr 0 6 0 0)),(5,(V.ptr 1 2 0 0)),(6,(V.ptr 2 2 0 0)),(7,(V.ptr 3 2 0 0)),(10,(sV e20.1)),(34,(V.ptr 4 1 0 0)),(46,(V.lst 1 (((q6b a1.funcs e20.1).getD (q5e.mk ([]:B8) ([]:B8) ([]:(List q6c)) ([]:(List B8)))).Makes.map q6f))),(47,(iV ((((q6b a1.funcs e20.1).getD (q5e.mk ([]:B8) ([]:B8) ([]:(List q6c)) ([]:(List B8)))).Makes.length:Nat):Int))),(48,(iV (p.1)))],[(0,(Ob.arr 155 6 [(q3a a1)])),(1,(Ob.arr 193 2 [(q8a a3)])),(2,(Ob.arr 193 2 [[(V.con (.map none)),(V.con (.map none))]])),(3,(Ob.arr 193 2 [[(V.map 5),(V.map 6)]])),(4,(Ob.iter [] (l21.map q5b))),(5,(Ob.map ((q4m (q0g m18 e20.1 true)).map q5b))),(6,(Ob.map ((p.2).map q5b)))],7⟩:St)) (fun n p=>RG (((q6b a1.funcs e20.1).getD (q5e.mk ([]:B8) ([]:B8) ([]:(List q6c)) ([]:(List B8)))).Makes) (fun tl nn=>z2n F k25 tl p.2=some r) n p.1) (fun p h=>RG.zero h) ((((q6b a1.funcs e20.1).getD (q5e.mk ([]:B8) ([]:B8) ([]:(List q6c)) ([]:(List B8)))).Makes).length+1) (0,m19) (RG.start h) (gr [0,1,2,3,4,5,6] rfl (hB rfl rfl rfl (hB rfl rfl rfl (hB rfl rfl rfl (hB rfl rfl rfl (hI rfl rfl (hM rfl rfl (hM rfl rfl .nil))))))) rfl) (fun n p h=>?_)
   obtain⟨n29,m30⟩:=p
   refine rn 5 rfl ?_
   refine spL rfl (fun hb31=>?_) (fun hb31=>?_)
   ·obtain⟨x32,tl,hx33,h,hk3⟩:=RG.t hA34 h hb31
    unfold z2n at h
    refine rn 5 rfl ?_
    refine ixh hx33 rfl rfl ?_
    refine rn 7 rfl ?_
    refine q3f (es:=m30.map q5b) ((q0g m30 x32 true).map q5b) q4j q6h q7a rfl rfl (.con rfl) ⟨_,rfl⟩ q7e rfl (q1i m30 x32 true) ?_
    refine q8f (q8p 6 rfl (q8r q5b (q0g m30 x32 true))) ?_
    refine fo (rn 6 rfl ?_)
    exact jX ((w64 (n29+1)),(q4m (q0g m30 x32 true))) (hk3 _ h) (gr [0,1,2,3,4,5,6] rfl (hB rfl rfl rfl (hB rfl rfl rfl (hB rfl rfl rfl (hB rfl rfl rfl (hI rfl rfl (hM rfl rfl (hM rfl rfl .nil))))))) rfl)
   replace h:=RG.f h hb31
   unfold z2n at h
   refine rn 1 rfl ?_
   exact jX m30 h (gr [0,1,2,3,4,5,6] rfl (hB rfl rfl rfl (hB rfl rfl rfl (hB rfl rfl rfl (hB rfl rfl rfl (hI rfl rfl (hM rfl rfl (hM rfl rfl .nil))))))) rfl)
  intro m26 h
  refine rn 5 rfl ?_
  refine q7d _ (V.lst 3 (([]:(List q0a)).map q6a)) (V.lst 3 (((q6b a1.links e20.1).getD ([]:(List q0a))).map q6a)) z5l q6h j6m (fun _=>.nil _ _ _) q7a rfl .imm (.con rfl) ⟨_,rfl⟩ q5p (q4p a1.links e20.1) (q1f (q3n) (q6b a1.links e20.1) ([]:(List q0a))) rfl ?_
  refine fo ?_
  refine ln rfl rfl ?_
  refine rn 2 rfl ?_
  refine jK h (fun(p:(List (B8×Bool)))=>(⟨[(1,(iV a2)),(3,(V.ptr 0 6 0 0)),(5,(V.ptr 1 2 0 0)),(6,(V.ptr 2 2 0 0)),(7,(V.ptr 3 2 0 0)),(34,(V.ptr 4 1 0 0))],[(0,(Ob.arr 155 6 [(q3a a1)])),(1,(Ob.arr 193 2 [(q8a a3)])),(2,(Ob.arr 193 2 [[(V.con (.map none)),(V.con (.map none))]])),(3,(Ob.arr 193 2 [[(V.map 5),(V.map 6)]])),(4,(Ob.iter [] (l21.map q5b))),(5,(Ob.map (p.map q5b))),(6,(Ob.map (m26.map q5b)))],7⟩:St)) (fun k35 p=>k35 p=some r) (fun k35 h=>?_) ?_
  ·refine rn 1 rfl ?_
   refine wl (A:=((q6b a1.links e20.1).getD ([]:(List q0a)))) 59 rfl (fun hA63=>?_)
   refine lC (fun(p:Int×(List (B8×Bool)))=>(⟨[(1,(iV a2)),(3,(V.ptr 0 6 0 0)),(5,(V.ptr 1 2 0 0)),(6,(V.ptr 2 2 0 0)),(7,(V.ptr 3 2 0 0)),(34,(V.ptr 4 1 0 0)),(59,(V.lst 3 (((q6b a1.links e20.1).getD ([]:(List q0a))).map q6a))),(60,(iV ((((q6b a1.links e20.1).getD ([]:(List q0a))).length:Nat):Int))),(61,(iV (p.1)))],[(0,(Ob.arr 155 6 [(q3a a1)])),(1,(Ob.arr 193 2 [(q8a a3)])),(2,(Ob.arr 193 2 [[(V.con (.map none)),(V.con (.map none))]])),(3,(Ob.arr 193 2 [[(V.map 5),(V.map 6)]])),(4,(Ob.iter [] (l21.map q5b))),(5,(Ob.map ((p.2).map q5b))),(6,(Ob.map (m26.map q5b)))],7⟩:St)) (fun n p=>RG ((q6b a1.links e20.1).getD ([]:(List q0a))) (fun tl nn=>z1n F a2 a3 k35 tl p.2=some r) n p.1) (fun p h=>RG.zero h) (((q6b a1.links e20.1).getD ([]:(List q0a))).length+1) (0,(q4m (q0g m18 e20.1 true))) (RG.start h) (gr [0,1,2,3,4,5,6] rfl (hB rfl rfl rfl (hB rfl rfl rfl (hB rfl rfl rfl (hB rfl rfl rfl (hI rfl rfl (hM rfl rfl (hM rfl rfl .nil))))))) rfl) (fun n p h=>?_)
   obtain⟨n39,m40⟩:=p
   refine rn 5 rfl ?_
   refine spL rfl (fun hb41=>?_) (fun hb41=>?_)
   ·obtain⟨x44,tl,hx45,h,hk4⟩:=RG.t hA63 h hb41
    unfold z1n at h
    refine rn 2 rfl ?_
    refine jK h (fun(p:(List (B8×Bool)))=>(⟨[(1,(iV a2)),(3,(V.ptr 0 6 0 0)),(5,(V.ptr 1 2 0 0)),(6,(V.ptr 2 2 0 0)),(7,(V.ptr 3 2 0 0)),(34,(V.ptr 4 1 0 0)),(59,(V.lst 3 (((q6b a1.links e20.1).getD ([]:(List q0a))).map q6a))),(60,(iV ((((q6b a1.links e20.1).getD ([]:(List q0a))).length:Nat):Int))),(61,(iV n39))],[(0,(Ob.arr 155 6 [(q3a a1)])),(1,(Ob.arr 193 2 [(q8a a3)])),(2,(Ob.arr 193 2 [[(V.con (.map none)),(V.con (.map none))]])),(3,(Ob.arr 193 2 [[(V.map 5),(V.map 6)]])),(4,(Ob.iter [] (l21.map q5b))),(5,(Ob.map (p.map q5b))),(6,(Ob.map (m26.map q5b)))],7⟩:St)) (fun k42 p=>k42 p=some r) (fun k42 h=>?_) ?_
    ·refine rn 3 rfl ?_
     refine ixh hx45 rfl rfl ?_
     refine rn 8 rfl ?_
     refine ln rfl rfl ?_
     refine rn 2 rfl ?_
     refine jK h (fun(p:(List (B8×Bool)))=>(⟨[(1,(iV a2)),(3,(V.ptr 0 6 0 0)),(5,(V.ptr 1 2 0 0)),(6,(V.ptr 2 2 0 0)),(7,(V.ptr 3 2 0 0)),(34,(V.ptr 4 1 0 0)),(59,(V.lst 3 (((q6b a1.links e20.1).getD ([]:(List q0a))).map q6a))),(60,(iV ((((q6b a1.links e20.1).getD ([]:(List q0a))).length:Nat):Int))),(61,(iV n39))],[(0,(Ob.arr 155 6 [(q3a a1)])),(1,(Ob.arr 193 2 [(q8a a3)])),(2,(Ob.arr 193 2 [[(V.con (.map none)),(V.con (.map none))]])),(3,(Ob.arr 193 2 [[(V.map 5),(V.map 6)]])),(4,(Ob.iter [] (l21.map q5b))),(5,(Ob.map (p.map q5b))),(6,(Ob.map (m26.map q5b)))],7⟩:St)) (fun k46 p=>k46 p=some r) (fun k46 h=>?_) ?_
     ·refine rn 1 rfl ?_
      refine wl (A:=x44.aims) 66 rfl (fun hA62=>?_)
      refine lC (fun(p:Int×(List (B8×Bool)))=>(⟨[(1,(iV a2)),(3,(V.ptr 0 6 0 0)),(5,(V.ptr 1 2 0 0)),(6,(V.ptr 2 2 0 0)),(7,(V.ptr 3 2 0 0)),(34,(V.ptr 4 1 0 0)),(59,(V.lst 3 (((q6b a1.links e20.1).getD ([]:(List q0a))).map q6a))),(60,(iV ((((q6b a1.links e20.1).getD ([]:(List q0a))).length:Nat):Int))),(61,(iV n39)),(66,(V.lst 2 (x44.aims.map q0b))),(67,(iV ((x44.aims.length:Nat):Int))),(68,(iV (p.1)))],[(0,(Ob.arr 155 6 [(q3a a1)])),(1,(Ob.arr 193 2 [(q8a a3)])),(2,(Ob.arr 193 2 [[(V.con (.map none)),(V.con (.map none))]])),(3,(Ob.arr 193 2 [[(V.map 5),(V.map 6)]])),(4,(Ob.iter [] (l21.map q5b))),(5,(Ob.map ((p.2).map q5b))),(6,(Ob.map (m26.map q5b)))],7⟩:St)) (fun n p=>RG x44.aims (fun tl nn=>z0n F a2 a3 k46 tl p.2=some r) n p.1) (fun p h=>RG.zero h) (x44.aims.length+1) (0,m40) (RG.start h) (gr [0,1,2,3,4,5,6] rfl (hB rfl rfl rfl (hB rfl rfl rfl (hB rfl rfl rfl (hB rfl rfl rfl (hI rfl rfl (hM rfl rfl (hM rfl rfl .nil))))))) rfl) (fun n p h=>?_)
      obtain⟨n50,m51⟩:=p
      refine rn 5 rfl ?_
      refine spL rfl (fun hb52=>?_) (fun hb52=>?_)
      ·obtain⟨x55,tl,hx56,h,hk5⟩:=RG.t hA62 h hb52
       unfold z0n at h
       refine rn 2 rfl ?_
       refine jK h (fun(p:(List (B8×Bool)))=>(⟨[(1,(iV a2)),(3,(V.ptr 0 6 0 0)),(5,(V.ptr 1 2 0 0)),(6,(V.ptr 2 2 0 0)),(7,(V.ptr 3 2 0 0)),(34,(V.ptr 4 1 0 0)),(59,(V.lst 3 (((q6b a1.links e20.1).getD ([]:(List q0a))).map q6a))),(60,(iV ((((q6b a1.links e20.1).getD ([]:(List q0a))).length:Nat):Int))),(61,(iV n39)),(66,(V.lst 2 (x44.aims.map q0b))),(67,(iV ((x44.aims.length:Nat):Int))),(68,(iV n50))],[(0,(Ob.arr 155 6 [(q3a a1)])),(1,(Ob.arr 193 2 [(q8a a3)])),(2,(Ob.arr 193 2 [[(V.con (.map none)),(V.con (.map none))]])),(3,(Ob.arr 193 2 [[(V.map 5),(V.map 6)]])),(4,(Ob.iter [] (l21.map q5b))),(5,(Ob.map (p.map q5b))),(6,(Ob.map (m26.map q5b)))],7⟩:St)) (fun k53 p=>k53 p=some r) (fun k53 h=>?_) ?_
       ·refine rn 3 rfl ?_
        refine ixh hx56 rfl rfl ?_
        refine rn 9 rfl ?_
        refine spO 74 h rfl (fun hb57 h=>?_) (fun hb57 h=>?_)
        ·refine rn 18 rfl ?_
         refine q3f (es:=m51.map q5b) ((q0g m51 x55.to true).map q5b) q4j q6h q7a rfl rfl (.con rfl) ⟨_,rfl⟩ q7e rfl (q1i m51 x55.to true) ?_
         refine q8f (q8p 5 rfl (q8r q5b (q0g m51 x55.to true))) ?_
         refine fo (rn 2 rfl ?_)
         exact jX (q4m (q0g m51 x55.to true)) h (gr [0,1,2,3,4,5,6] rfl (hB rfl rfl rfl (hB rfl rfl rfl (hB rfl rfl rfl (hB rfl rfl rfl (hI rfl rfl (hM rfl rfl (hM rfl rfl .nil))))))) rfl)
        refine rn 5 rfl ?_
        refine spO 79 h rfl (fun hb58 h=>?_) (fun hb58 h=>?_)
        ·refine rn 13 rfl ?_
         refine q3f (es:=m51.map q5b) ((q0g m51 x55.to true).map q5b) q4j q6h q7a rfl rfl (.con rfl) ⟨_,rfl⟩ q7e rfl (q1i m51 x55.to true) ?_
         refine q8f (q8p 5 rfl (q8r q5b (q0g m51 x55.to true))) ?_
         refine fo (rn 2 rfl ?_)
         exact jX (q4m (q0g m51 x55.to true)) h (gr [0,1,2,3,4,5,6] rfl (hB rfl rfl rfl (hB rfl rfl rfl (hB rfl rfl rfl (hB rfl rfl rfl (hI rfl rfl (hM rfl rfl (hM rfl rfl .nil))))))) rfl)
        refine rn 4 rfl ?_
        refine q7d _ (bV false) (bV ((q6b a3.made x55.typ).getD false)) q4j q6h j4m (q9f _) (q4i (c:=false) (b:=false) 79 rfl rfl rfl) rfl .imm (.con rfl) ⟨_,rfl⟩ q7e (q3h a3.made x55.typ) (q1f (q5g) (q6b a3.made x55.typ) false) rfl ?_
        refine fo (rn 2 rfl ?_)
        refine jK h (fun(p:(List (B8×Bool)))=>(⟨[(1,(iV a2)),(3,(V.ptr 0 6 0 0)),(5,(V.ptr 1 2 0 0)),(6,(V.ptr 2 2 0 0)),(7,(V.ptr 3 2 0 0)),(34,(V.ptr 4 1 0 0)),(59,(V.lst 3 (((q6b a1.links e20.1).getD ([]:(List q0a))).map q6a))),(60,(iV ((((q6b a1.links e20.1).getD ([]:(List q0a))).length:Nat):Int))),(61,(iV n39)),(66,(V.lst 2 (x44.aims.map q0b))),(67,(iV ((x44.aims.length:Nat):Int))),(68,(iV n50)),(77,(bV (x55.typ==([]:B8)))),(84,(bV ((q6b a3.made x55.typ).getD false)))],[(0,(Ob.arr 155 6 [(q3a a1)])),(1,(Ob.arr 193 2 [(q8a a3)])),(2,(Ob.arr 193 2 [[(V.con (.map none)),(V.con (.map none))]])),(3,(Ob.arr 193 2 [[(V.map 5),(V.map 6)]])),(4,(Ob.iter [] (l21.map q5b))),(5,(Ob.map (p.map q5b))),(6,(Ob.map (m26.map q5b)))],7⟩:St)) (fun k59 p=>k59 p=some r) (fun k59 h=>?_) ?_
        ·refine spC h rfl (fun hb61 h=>?_) (fun hb61 h=>?_)
         ·refine rn 5 rfl ?_
          refine q3f (es:=m51.map q5b) ((q0g m51 x55.to true).map q5b) q4j q6h q7a rfl rfl (.con rfl) ⟨_,rfl⟩ q7e rfl (q1i m51 x55.to true) ?_
          refine q8f (q8p 5 rfl (q8r q5b (q0g m51 x55.to true))) ?_
          refine fo (rn 1 rfl ?_)
          exact jX (q4m (q0g m51 x55.to true)) h (gr [0,1,2,3,4,5,6] rfl (hB rfl rfl rfl (hB rfl rfl rfl (hB rfl rfl rfl (hB rfl rfl rfl (hI rfl rfl (hM rfl rfl (hM rfl rfl .nil))))))) rfl)
         refine rn 1 rfl ?_
         exact jX m51 h (gr [0,1,2,3,4,5,6] rfl (hB rfl rfl rfl (hB rfl rfl rfl (hB rfl rfl rfl (hB rfl rfl rfl (hI rfl rfl (hM rfl rfl (hM rfl rfl .nil))))))) rfl)
        intro m60 h
        refine rn 1 rfl ?_
        exact jX m60 h (gr [0,1,2,3,4,5,6] rfl (hB rfl rfl rfl (hB rfl rfl rfl (hB rfl rfl rfl (hB rfl rfl rfl (hI rfl rfl (hM rfl rfl (hM rfl rfl .nil))))))) rfl)
       intro m54 h
       refine rn 4 rfl ?_
       exact jX ((w64 (n50+1)),m54) (hk5 _ h) (gr [0,1,2,3,4,5,6] rfl (hB rfl rfl rfl (hB rfl rfl rfl (hB rfl rfl rfl (hB rfl rfl rfl (hI rfl rfl (hM rfl rfl (hM rfl rfl .nil))))))) rfl)
      replace h:=RG.f h hb52
      unfold z0n at h
      refine rn 1 rfl ?_
      exact jX m51 h (gr [0,1,2,3,4,5,6] rfl (hB rfl rfl rfl (hB rfl rfl rfl (hB rfl rfl rfl (hB rfl rfl rfl (hI rfl rfl (hM rfl rfl (hM rfl rfl .nil))))))) rfl)
     intro m47 h
     refine rn 1 rfl ?_
     exact jX m47 h (gr [0,1,2,3,4,5,6] rfl (hB rfl rfl rfl (hB rfl rfl rfl (hB rfl rfl rfl (hB rfl rfl rfl (hI rfl rfl (hM rfl rfl (hM rfl rfl .nil))))))) rfl)
    intro m43 h
    refine rn 4 rfl ?_
    exact jX ((w64 (n39+1)),m43) (hk4 _ h) (gr [0,1,2,3,4,5,6] rfl (hB rfl rfl rfl (hB rfl rfl rfl (hB rfl rfl rfl (hB rfl rfl rfl (hI rfl rfl (hM rfl rfl (hM rfl rfl .nil))))))) rfl)
   replace h:=RG.f h hb41
   unfold z1n at h
   refine rn 1 rfl ?_
   exact jX m40 h (gr [0,1,2,3,4,5,6] rfl (hB rfl rfl rfl (hB rfl rfl rfl (hB rfl rfl rfl (hB rfl rfl rfl (hI rfl rfl (hM rfl rfl (hM rfl rfl .nil))))))) rfl)
  intro m36 h
  refine rn 1 rfl ?_
  exact jX (m36,m26) h (gr [0,1,2,3,4,5,6] rfl (hB rfl rfl rfl (hB rfl rfl rfl (hB rfl rfl rfl (hB rfl rfl rfl (hI rfl rfl (hM rfl rfl (hM rfl rfl .nil))))))) rfl)
 rintro⟨m23,m24⟩ h
 exact jX (l21,m23,m24) (RM.step hm2 hq2 h) (gr [0,1,2,3,4,5,6] rfl (hB rfl rfl rfl (hB rfl rfl rfl (hB rfl rfl rfl (hB rfl rfl rfl (hI rfl rfl (hM rfl rfl (hM rfl rfl .nil))))))) rfl)
theorem W102(F:Nat)(a1:q2b)(a2:Int)(r:q5a)(h:M102 F a1 a2=some r):q5n Tryz.prog 102 [(V.agg (q3a a1)),(iV a2)] (V.agg (q8a r)):=by
 refine pin (fun r=>(V.agg (q8a r))) r rfl Tryz.func102 rfl rfl rfl rfl rfl (fun w0 m0 hg=>?_)
 unfold M102 at h
 refine rn 14 rfl ?_
 refine lC (fun(p:(List (B8×Bool))×(List (B8×Bool)))=>(⟨[(1,(iV a2)),(2,(V.ptr 0 6 0 0)),(4,(V.ptr 1 2 0 0)),(5,(V.ptr 2 2 0 0))],[(0,(Ob.arr 155 6 [(q3a a1)])),(1,(Ob.arr 193 2 [[(V.con (.map none)),(V.con (.map none))]])),(2,(Ob.arr 193 2 [[(V.imap ((p.1).map q5b)),(V.imap ((p.2).map q5b))]]))],3⟩:St)) (fun n p=>z6h F a1 a2 n p.1 p.2=some r) (fun p h=>by simp[z6h] at h) F (([]:List (B8×Bool)),([]:List (B8×Bool))) h (q8h.trans (q0w (es:=([]:List (B8×Bool)).map q5b) 2 rfl q0m (.put (t:=9) rfl (Sub.agg (.cons Sub.frzM (.cons Sub.keepM .nil))) (.put (t:=7) rfl Sub.frzM .refl)) (.put (t:=4) (v:=(Ob.arr 193 2 [[(V.imap (([]:List (B8×Bool)).map q5b)),(V.map 3)]])) rfl (q4b.box (.cons Sub.frzM (.cons Sub.keepM .nil))) .refl)) (q8h.trans (q0w (es:=([]:List (B8×Bool)).map q5b) 3 rfl q0m (.put (t:=9) rfl (Sub.agg (.cons Sub.keepM (.cons Sub.frzM .nil))) (.put (t:=8) rfl Sub.frzM .refl)) (.put (t:=4) (v:=(Ob.arr 193 2 [[(V.imap (([]:List (B8×Bool)).map q5b)),(V.imap (([]:List (B8×Bool)).map q5b))]])) rfl (q4b.box (.cons Sub.keepM (.cons Sub.frzM .nil))) .refl)) (gr [0,1,4] rfl (hB rfl rfl rfl (hB rfl rfl rfl (hB rfl rfl rfl .nil))) rfl))) (fun n p h=>?_)
 obtain⟨m5,m6⟩:=p
 unfold z6h at h
 refine rn 6 rfl ?_
 refine cl h rfl rfl rfl (W159 _ _ _ _) rfl (fun y7 hx8 h=>?_)
 refine rn 8 rfl ?_
 refine z8q (n:=y7.reached.length) (es:=y7.reached.map q5b) q4j q7a rfl .imm (List.length_map ..) rfl ?_
 refine fo (rn 2 rfl ?_)
 refine z8q (n:=m5.length) (es:=m5.map q5b) q4j q7a rfl .imm (List.length_map ..) rfl ?_
 refine fo (rn 2 rfl ?_)
 refine spO 21 h rfl (fun hb9 h=>?_) (fun hb9 h=>?_)
 ·refine rn 2 rfl ?_
  refine z8q (n:=y7.made.length) (es:=y7.made.map q5b) q4j (q4i (c:=true) (b:=true) 21 rfl rfl rfl) rfl .imm (List.length_map ..) rfl ?_
  refine fo (rn 2 rfl ?_)
  refine z8q (n:=m6.length) (es:=m6.map q5b) q4j (q4i (c:=true) (b:=true) 21 rfl rfl rfl) rfl .imm (List.length_map ..) rfl ?_
  refine fo (rn 3 rfl ?_)
  refine spC h rfl (fun hb10 h=>?_) (fun hb10 h=>?_)
  ·refine rn 5 rfl ?_
   exact rt h rfl
  refine rn 6 rfl ?_
  exact jX (y7.reached,y7.made) h (gr [0,1,2] rfl (hB rfl rfl rfl (hB rfl rfl rfl (hB rfl rfl rfl .nil))) rfl)
 refine rn 16 rfl ?_
 exact jX (y7.reached,y7.made) h (gr [0,1,2] rfl (hB rfl rfl rfl (hB rfl rfl rfl (hB rfl rfl rfl .nil))) rfl)
theorem W160(F:Nat)(a1:Int)(a2:q5a)(a3:q1a)(r:Bool)(h:M160 F a1 a2 a3=some r):q5n Tryz.prog 160 [(iV a1),(V.agg (q8a a2)),(V.agg (q0b a3))] (bV r):=by
 refine pin (fun r=>(bV r)) r rfl Tryz.func160 rfl rfl rfl rfl rfl (fun w0 m0 hg=>?_)
 unfold M160 at h
 refine rn 11 rfl ?_
 refine spO 9 h rfl (fun hb4 h=>?_) (fun hb4 h=>?_)
 ·refine rn 13 rfl ?_
  exact rt h rfl
 refine rn 5 rfl ?_
 refine spO 14 h rfl (fun hb5 h=>?_) (fun hb5 h=>?_)
 ·refine rn 8 rfl ?_
  exact rt h rfl
 refine rn 4 rfl ?_
 refine q7d _ (bV false) (bV ((q6b a2.made a3.typ).getD false)) q4j q6h j4m (q9f _) (q4i (c:=false) (b:=false) 14 rfl rfl rfl) rfl .imm (.con rfl) ⟨_,rfl⟩ q7e (q3h a2.made a3.typ) (q1f (q5g) (q6b a2.made a3.typ) false) rfl ?_
 refine fo (rn 3 rfl ?_)
 exact rt h rfl
theorem W103(F:Nat)(a1:q2b)(a2:Int)(a3:q5a)(a4:B8)(r:(List (B8×Int)))(h:M103 F a1 a2 a3 a4=some r):q5n Tryz.prog 103 [(V.agg (q3a a1)),(iV a2),(V.agg (q8a a3)),(sV a4)] (V.imap (r.map q9d)):=by
 refine pin (fun r=>(V.imap (r.map q9d))) r rfl Tryz.func103 rfl rfl rfl rfl rfl (fun w0 m0 hg=>?_)
 unfold M103 at h
 refine rn 10 rfl ?_
 refine z2m (es:=([]:List (B8×Int)).map q9d) ((q0g ([]:List (B8×Int)) a4 0).map q9d) q1o q6h q7a rfl rfl (.con rfl) ⟨_,rfl⟩ q7f rfl (q6x ([]:List (B8×Int)) a4 0) ?_
 refine fo (rn 8 rfl ?_)
 refine lC (fun(p:Int×(List (B8×Int)))=>(⟨[(1,(iV a2)),(4,(V.ptr 0 6 0 0)),(6,(V.ptr 1 2 0 0)),(9,(V.map 2)),(10,(iV (p.1)))],[(0,(Ob.arr 155 6 [(q3a a1)])),(1,(Ob.arr 193 2 [(q8a a3)])),(2,(Ob.map ((p.2).map q9d)))],3⟩:St)) (fun n p=>z9n F a1 a2 a3 n p.1 p.2=some r) (fun p h=>by simp[z9n] at h) F (1,(q0g ([]:List (B8×Int)) a4 0)) h (gr [0,1,2] rfl (hB rfl rfl rfl (hB rfl rfl rfl (hM rfl rfl .nil))) rfl) (fun n p h=>?_)
 obtain⟨n7,m8⟩:=p
 unfold z9n at h
 refine rn 1 rfl ?_
 refine jK h (fun(p:(List (B8×Int)))=>(⟨[(1,(iV a2)),(4,(V.ptr 0 6 0 0)),(6,(V.ptr 1 2 0 0)),(9,(V.map 2)),(10,(iV n7))],[(0,(Ob.arr 155 6 [(q3a a1)])),(1,(Ob.arr 193 2 [(q8a a3)])),(2,(Ob.map (p.map q9d)))],3⟩:St)) (fun k9 p=>k9 p=some r) (fun k9 h=>?_) ?_
 ·refine rn 10 rfl ?_
  refine z9i q4j q7a rfl rfl ?_
  refine fo (rn 2 rfl ?_)
  refine lC (fun(p:(List B8)×(List (B8×Bool)))=>(⟨[(1,(iV a2)),(4,(V.ptr 0 6 0 0)),(6,(V.ptr 1 2 0 0)),(9,(V.map 2)),(10,(iV n7)),(11,(V.own 3 (p.1).length)),(31,(V.ptr 4 1 0 0))],[(0,(Ob.arr 155 6 [(q3a a1)])),(1,(Ob.arr 193 2 [(q8a a3)])),(2,(Ob.map (m8.map q9d))),(3,(Ob.arr 9 1 ((p.1).map q6f))),(4,(Ob.iter [] ((p.2).map q5b)))],5⟩:St)) (fun n p=>RM n p.2 (q5y F a1 a2 a3 n7 m8 k9 p.2 p.1=some r)) (fun p h=>RM.zero h) (a3.reached.length+1) (([]:List B8),a3.reached) (RM.start h) (q8h.trans (q7n 11 9 1 rfl) (q9g 5 (fun i=>([0,1,2,4,3]:List Nat).getD i 0) _ _ (by decide) (q9k.get (.cons (Sub.imm (Imm.con _)) (.cons (Sub.ptr rfl rfl) (.cons (Sub.ptr rfl rfl) (.cons (Sub.map rfl rfl) (.cons (Sub.imm (Imm.con _)) (.cons (Sub.ownE rfl rfl (by simp)) (.cons (Sub.ptr rfl rfl) .nil)))))))) (q6i.get (.cons rfl (q4b.box (.cons (Sub.imm (Imm.lst _ _)) (.cons (Sub.imm (Imm.lst _ _)) (.cons (Sub.imm (Imm.lst _ _)) (.cons (Sub.imm (Imm.lst _ _)) (.cons (Sub.imm (Imm.imap _)) (.cons (Sub.imm (Imm.imap _)) .nil))))))) (.cons rfl (q4b.box (.cons (Sub.imm (Imm.imap _)) (.cons (Sub.imm (Imm.imap _)) .nil))) (.cons rfl (q4b.maps z1b) (.cons rfl (q4b.rows (q3b q8s)) (.cons rfl q4b.itr .nil)))))) rfl)) (fun n p h=>?_)
  obtain⟨l13,l14⟩:=p
  refine rn 2 rfl ?_
  refine nxt rfl rfl q7a rfl (fun hl2=>?_) (fun e15 l16 hq2 hp2=>?_)
  ·replace h:=h.2
   subst hl2
   unfold q5y at h
   refine rn 12 rfl ?_
   refine spC h rfl (fun hb53 h=>?_) (fun hb53 h=>?_)
   ·refine rn 5 rfl ?_
    refine q0e (q0w (es:=m8.map q9d) 2 rfl z1b (.put (t:=8) rfl Sub.frzM (.put (t:=92) rfl Sub.frzM (.put (t:=9) rfl Sub.frzM .refl))) .refl) ?_
    refine fa ?_
    exact rt h rfl
   refine rn 7 rfl ?_
   refine jK h (fun(p:(List (B8×Int)))=>(⟨[(1,(iV a2)),(4,(V.ptr 0 6 0 0)),(6,(V.ptr 1 2 0 0)),(9,(V.map 2)),(10,(iV n7))],[(0,(Ob.arr 155 6 [(q3a a1)])),(1,(Ob.arr 193 2 [(q8a a3)])),(2,(Ob.map (p.map q9d)))],3⟩:St)) (fun k54 p=>k54 p=some r) (fun k54 h=>?_) ?_
   ·refine rn 1 rfl ?_
    refine wlO (A:=l13) 3 rfl (fun hA63=>?_)
    refine lC (fun(p:Int×(List (B8×Int)))=>(⟨[(1,(iV a2)),(4,(V.ptr 0 6 0 0)),(6,(V.ptr 1 2 0 0)),(9,(V.map 2)),(10,(iV n7)),(93,(V.own 3 l13.length)),(94,(iV ((l13.length:Nat):Int))),(95,(iV (p.1)))],[(0,(Ob.arr 155 6 [(q3a a1)])),(1,(Ob.arr 193 2 [(q8a a3)])),(2,(Ob.map ((p.2).map q9d))),(3,(Ob.arr 9 1 (l13.map q6f)))],4⟩:St)) (fun n p=>RG l13 (fun tl nn=>z8n F n7 k54 tl p.2=some r) n p.1) (fun p h=>RG.zero h) (l13.length+1) (0,m8) (RG.start h) (gr [0,1,2,3] rfl (hB rfl rfl rfl (hB rfl rfl rfl (hM rfl rfl (hR rfl rfl .nil)))) rfl) (fun n p h=>?_)
    obtain⟨n58,m59⟩:=p
    refine rn 5 rfl ?_
    refine spL rfl (fun hb60=>?_) (fun hb60=>?_)
    ·obtain⟨x61,tl,hx62,h,hk5⟩:=RG.t hA63 h hb60
     unfold z8n at h
     refine rn 5 rfl ?_
     refine ixoh (a:=l13) hx62 rfl rfl rfl ?_
     refine ldp hx62 rfl rfl rfl rfl ?_
     refine rn 6 rfl ?_
     refine q3f (es:=m59.map q9d) ((q0g m59 x61 n7).map q9d) q1o q6h q7a rfl rfl (.con rfl) ⟨_,rfl⟩ q7f rfl (q6x m59 x61 n7) ?_
     refine q8f (q8p 2 rfl (q8r q9d (q0g m59 x61 n7))) ?_
     refine fo (rn 6 rfl ?_)
     exact jX ((w64 (n58+1)),(q4m (q0g m59 x61 n7))) (hk5 _ h) (gr [0,1,2,3] rfl (hB rfl rfl rfl (hB rfl rfl rfl (hM rfl rfl (hR rfl rfl .nil)))) rfl)
    replace h:=RG.f h hb60
    unfold z8n at h
    refine rn 1 rfl ?_
    exact jX m59 h (gr [0,1,2] rfl (hB rfl rfl rfl (hB rfl rfl rfl (hM rfl rfl .nil))) rfl)
   intro m55 h
   refine rn 1 rfl ?_
   exact jX m55 h (gr [0,1,2] rfl (hB rfl rfl rfl (hB rfl rfl rfl (hM rfl rfl .nil))) rfl)
  have hm2:=h
  replace h:=v9h hp2 h.2
  unfold q5y at h
  refine rn 5 rfl ?_
  refine jK h (fun(p:(List B8))=>(⟨[(1,(iV a2)),(4,(V.ptr 0 6 0 0)),(6,(V.ptr 1 2 0 0)),(9,(V.map 2)),(10,(iV n7)),(11,(V.own 3 p.length)),(31,(V.ptr 4 1 0 0))],[(0,(Ob.arr 155 6 [(q3a a1)])),(1,(Ob.arr 193 2 [(q8a a3)])),(2,(Ob.map (m8.map q9d))),(3,(Ob.arr 9 1 (p.map q6f))),(4,(Ob.iter [] (l16.map q5b)))],5⟩:St)) (fun k17 p=>k17 p=some r) (fun k17 h=>?_) ?_
  ·refine rn 3 rfl ?_
   refine z0j q7a rfl rfl rfl ?_
   refine fo (rn 8 rfl ?_)
   refine q5h _ (iV 0) (iV ((q6b m8 e15.1).getD 0)) q1o q6h j5m (q9f _) q7a rfl (.own rfl) (.con rfl) ⟨_,rfl⟩ q7f (q8g m8 e15.1) (q1f (q1g) (q6b m8 e15.1) 0) (q6m ..) rfl ?_
   refine fo (rn 10 rfl ?_)
   refine spC h rfl (fun hb19 h=>?_) (fun hb19 h=>?_)
   ·refine rn 1 rfl ?_
    exact jX l13 h (gr [0,1,2,3,4] rfl (hB rfl rfl rfl (hB rfl rfl rfl (hM rfl rfl (hR rfl rfl (hI rfl rfl .nil))))) rfl)
   refine rn 11 rfl ?_
   refine q7d _ (V.lst 3 (([]:(List q0a)).map q6a)) (V.lst 3 (((q6b a1.links e15.1).getD ([]:(List q0a))).map q6a)) z5l q6h j6m (fun _=>.nil _ _ _) q7a rfl .imm (.con rfl) ⟨_,rfl⟩ q5p (q4p a1.links e15.1) (q1f (q3n) (q6b a1.links e15.1) ([]:(List q0a))) rfl ?_
   refine fo ?_
   refine ln rfl rfl ?_
   refine rn 2 rfl ?_
   refine jK h (fun(p:Bool)=>(⟨[(1,(iV a2)),(4,(V.ptr 0 6 0 0)),(6,(V.ptr 1 2 0 0)),(9,(V.map 2)),(10,(iV n7)),(11,(V.own 3 l13.length)),(12,(sV e15.1)),(15,(bV p)),(31,(V.ptr 4 1 0 0))],[(0,(Ob.arr 155 6 [(q3a a1)])),(1,(Ob.arr 193 2 [(q8a a3)])),(2,(Ob.map (m8.map q9d))),(3,(Ob.arr 9 1 (l13.map q6f))),(4,(Ob.iter [] (l16.map q5b)))],5⟩:St)) (fun k20 p=>k20 p=some r) (fun k20 h=>?_) ?_
   ·refine rn 1 rfl ?_
    refine wl (A:=((q6b a1.links e15.1).getD ([]:(List q0a)))) 46 rfl (fun hA48=>?_)
    refine lC (fun(p:Bool×Int)=>(⟨[(1,(iV a2)),(4,(V.ptr 0 6 0 0)),(6,(V.ptr 1 2 0 0)),(9,(V.map 2)),(10,(iV n7)),(11,(V.own 3 l13.length)),(12,(sV e15.1)),(15,(bV (p.1))),(31,(V.ptr 4 1 0 0)),(46,(V.lst 3 (((q6b a1.links e15.1).getD ([]:(List q0a))).map q6a))),(47,(iV ((((q6b a1.links e15.1).getD ([]:(List q0a))).length:Nat):Int))),(48,(iV (p.2)))],[(0,(Ob.arr 155 6 [(q3a a1)])),(1,(Ob.arr 193 2 [(q8a a3)])),(2,(Ob.map (m8.map q9d))),(3,(Ob.arr 9 1 (l13.map q6f))),(4,(Ob.iter [] (l16.map q5b)))],5⟩:St)) (fun n p=>RG ((q6b a1.links e15.1).getD ([]:(List q0a))) (fun tl nn=>z5h F a2 a3 n7 m8 k20 tl p.1=some r) n p.2) (fun p h=>RG.zero h) (((q6b a1.links e15.1).getD ([]:(List q0a))).length+1) (false,0) (RG.start h) (gr [0,1,2,3,4] rfl (hB rfl rfl rfl (hB rfl rfl rfl (hM rfl rfl (hR rfl rfl (hI rfl rfl .nil))))) rfl) (fun n p h=>?_)
    obtain⟨b24,n25⟩:=p
    refine rn 5 rfl ?_
    refine spL rfl (fun hb26=>?_) (fun hb26=>?_)
    ·obtain⟨x29,tl,hx30,h,hk3⟩:=RG.t hA48 h hb26
     unfold z5h at h
     refine rn 2 rfl ?_
     refine jK h (fun(p:Bool)=>(⟨[(1,(iV a2)),(4,(V.ptr 0 6 0 0)),(6,(V.ptr 1 2 0 0)),(9,(V.map 2)),(10,(iV n7)),(11,(V.own 3 l13.length)),(12,(sV e15.1)),(15,(bV p)),(31,(V.ptr 4 1 0 0)),(46,(V.lst 3 (((q6b a1.links e15.1).getD ([]:(List q0a))).map q6a))),(47,(iV ((((q6b a1.links e15.1).getD ([]:(List q0a))).length:Nat):Int))),(48,(iV n25))],[(0,(Ob.arr 155 6 [(q3a a1)])),(1,(Ob.arr 193 2 [(q8a a3)])),(2,(Ob.map (m8.map q9d))),(3,(Ob.arr 9 1 (l13.map q6f))),(4,(Ob.iter [] (l16.map q5b)))],5⟩:St)) (fun k27 p=>k27 p=some r) (fun k27 h=>?_) ?_
     ·refine rn 3 rfl ?_
      refine ixh hx30 rfl rfl ?_
      refine rn 8 rfl ?_
      refine ln rfl rfl ?_
      refine rn 2 rfl ?_
      refine jK h (fun(p:Bool)=>(⟨[(1,(iV a2)),(4,(V.ptr 0 6 0 0)),(6,(V.ptr 1 2 0 0)),(9,(V.map 2)),(10,(iV n7)),(11,(V.own 3 l13.length)),(12,(sV e15.1)),(15,(bV p)),(31,(V.ptr 4 1 0 0)),(46,(V.lst 3 (((q6b a1.links e15.1).getD ([]:(List q0a))).map q6a))),(47,(iV ((((q6b a1.links e15.1).getD ([]:(List q0a))).length:Nat):Int))),(48,(iV n25))],[(0,(Ob.arr 155 6 [(q3a a1)])),(1,(Ob.arr 193 2 [(q8a a3)])),(2,(Ob.map (m8.map q9d))),(3,(Ob.arr 9 1 (l13.map q6f))),(4,(Ob.iter [] (l16.map q5b)))],5⟩:St)) (fun k31 p=>k31 p=some r) (fun k31 h=>?_) ?_
      ·refine rn 1 rfl ?_
       refine wl (A:=x29.aims) 53 rfl (fun hA47=>?_)
       refine lC (fun(p:Bool×Int)=>(⟨[(1,(iV a2)),(4,(V.ptr 0 6 0 0)),(6,(V.ptr 1 2 0 0)),(9,(V.map 2)),(10,(iV n7)),(11,(V.own 3 l13.length)),(12,(sV e15.1)),(15,(bV (p.1))),(31,(V.ptr 4 1 0 0)),(46,(V.lst 3 (((q6b a1.links e15.1).getD ([]:(List q0a))).map q6a))),(47,(iV ((((q6b a1.links e15.1).getD ([]:(List q0a))).length:Nat):Int))),(48,(iV n25)),(53,(V.lst 2 (x29.aims.map q0b))),(54,(iV ((x29.aims.length:Nat):Int))),(55,(iV (p.2)))],[(0,(Ob.arr 155 6 [(q3a a1)])),(1,(Ob.arr 193 2 [(q8a a3)])),(2,(Ob.map (m8.map q9d))),(3,(Ob.arr 9 1 (l13.map q6f))),(4,(Ob.iter [] (l16.map q5b)))],5⟩:St)) (fun n p=>RG x29.aims (fun tl nn=>z4h F a2 a3 n7 m8 k31 tl p.1=some r) n p.2) (fun p h=>RG.zero h) (x29.aims.length+1) (b24,0) (RG.start h) (gr [0,1,2,3,4] rfl (hB rfl rfl rfl (hB rfl rfl rfl (hM rfl rfl (hR rfl rfl (hI rfl rfl .nil))))) rfl) (fun n p h=>?_)
       obtain⟨b35,n36⟩:=p
       refine rn 5 rfl ?_
       refine spL rfl (fun hb37=>?_) (fun hb37=>?_)
       ·obtain⟨x40,tl,hx41,h,hk4⟩:=RG.t hA47 h hb37
        unfold z4h at h
        refine rn 2 rfl ?_
        refine jK h (fun(p:Bool)=>(⟨[(1,(iV a2)),(4,(V.ptr 0 6 0 0)),(6,(V.ptr 1 2 0 0)),(9,(V.map 2)),(10,(iV n7)),(11,(V.own 3 l13.length)),(12,(sV e15.1)),(15,(bV p)),(31,(V.ptr 4 1 0 0)),(46,(V.lst 3 (((q6b a1.links e15.1).getD ([]:(List q0a))).map q6a))),(47,(iV ((((q6b a1.links e15.1).getD ([]:(List q0a))).length:Nat):Int))),(48,(iV n25)),(53,(V.lst 2 (x29.aims.map q0b))),(54,(iV ((x29.aims.length:Nat):Int))),(55,(iV n36))],[(0,(Ob.arr 155 6 [(q3a a1)])),(1,(Ob.arr 193 2 [(q8a a3)])),(2,(Ob.map (m8.map q9d))),(3,(Ob.arr 9 1 (l13.map q6f))),(4,(Ob.iter [] (l16.map q5b)))],5⟩:St)) (fun k38 p=>k38 p=some r) (fun k38 h=>?_) ?_
        ·refine rn 3 rfl ?_
         refine ixh hx41 rfl rfl ?_
         refine rn 9 rfl ?_
         refine q5h _ (iV 0) (iV ((q6b m8 x40.to).getD 0)) q1o q6h j5m (q9f _) q7a rfl (.own rfl) (.con rfl) ⟨_,rfl⟩ q7f (q8g m8 x40.to) (q1f (q1g) (q6b m8 x40.to) 0) (q6m ..) rfl ?_
         refine fo (rn 9 rfl ?_)
         refine spO 67 h rfl (fun hb42 h=>?_) (fun hb42 h=>?_)
         ·refine rn 17 rfl ?_
          exact jX true h (gr [0,1,2,3,4] rfl (hB rfl rfl rfl (hB rfl rfl rfl (hM rfl rfl (hR rfl rfl (hI rfl rfl .nil))))) rfl)
         refine rn 2 rfl ?_
         refine spO 69 h rfl (fun hb43 h=>?_) (fun hb43 h=>?_)
         ·refine rn 6 rfl ?_
          refine spO 75 h rfl (fun hb44 h=>?_) (fun hb44 h=>?_)
          ·refine rn 3 rfl ?_
           refine cl h rfl rfl rfl (W160 _ _ _ _) rfl (fun y45 hx46 h=>?_)
           refine rn 5 rfl ?_
           exact jX y45 h (gr [0,1,2,3,4] rfl (hB rfl rfl rfl (hB rfl rfl rfl (hM rfl rfl (hR rfl rfl (hI rfl rfl .nil))))) rfl)
          refine rn 9 rfl ?_
          exact jX false h (gr [0,1,2,3,4] rfl (hB rfl rfl rfl (hB rfl rfl rfl (hM rfl rfl (hR rfl rfl (hI rfl rfl .nil))))) rfl)
         refine rn 15 rfl ?_
         exact jX false h (gr [0,1,2,3,4] rfl (hB rfl rfl rfl (hB rfl rfl rfl (hM rfl rfl (hR rfl rfl (hI rfl rfl .nil))))) rfl)
        intro b39 h
        refine rn 4 rfl ?_
        exact jX (b39,(w64 (n36+1))) (hk4 _ h) (gr [0,1,2,3,4] rfl (hB rfl rfl rfl (hB rfl rfl rfl (hM rfl rfl (hR rfl rfl (hI rfl rfl .nil))))) rfl)
       replace h:=RG.f h hb37
       unfold z4h at h
       refine rn 1 rfl ?_
       exact jX b35 h (gr [0,1,2,3,4] rfl (hB rfl rfl rfl (hB rfl rfl rfl (hM rfl rfl (hR rfl rfl (hI rfl rfl .nil))))) rfl)
      intro b32 h
      refine rn 1 rfl ?_
      exact jX b32 h (gr [0,1,2,3,4] rfl (hB rfl rfl rfl (hB rfl rfl rfl (hM rfl rfl (hR rfl rfl (hI rfl rfl .nil))))) rfl)
     intro b28 h
     refine rn 4 rfl ?_
     exact jX (b28,(w64 (n25+1))) (hk3 _ h) (gr [0,1,2,3,4] rfl (hB rfl rfl rfl (hB rfl rfl rfl (hM rfl rfl (hR rfl rfl (hI rfl rfl .nil))))) rfl)
    replace h:=RG.f h hb26
    unfold z5h at h
    refine rn 1 rfl ?_
    exact jX b24 h (gr [0,1,2,3,4] rfl (hB rfl rfl rfl (hB rfl rfl rfl (hM rfl rfl (hR rfl rfl (hI rfl rfl .nil))))) rfl)
   intro b21 h
   refine rn 4 rfl ?_
   refine jK h (fun(p:(List B8))=>(⟨[(1,(iV a2)),(4,(V.ptr 0 6 0 0)),(6,(V.ptr 1 2 0 0)),(9,(V.map 2)),(10,(iV n7)),(11,(V.own 3 p.length)),(31,(V.ptr 4 1 0 0))],[(0,(Ob.arr 155 6 [(q3a a1)])),(1,(Ob.arr 193 2 [(q8a a3)])),(2,(Ob.map (m8.map q9d))),(3,(Ob.arr 9 1 (p.map q6f))),(4,(Ob.iter [] (l16.map q5b)))],5⟩:St)) (fun k49 p=>k49 p=some r) (fun k49 h=>?_) ?_
   ·refine spC h rfl (fun hb51 h=>?_) (fun hb51 h=>?_)
    ·refine rn 3 rfl ?_
     refine q9e [(0,(sV e15.1))] [[(sV e15.1)]] z7c tZ9 rfl rfl rfl rfl q7a (q7g rfl q5i) rfl rfl (by simp) rfl ?_
     refine fo ?_
     refine apO q6f h rfl rfl rfl rfl rfl rfl rfl rfl (fun h=>?_)
     refine rn 2 rfl ?_
     exact jX (l13++([e15.1]:List B8)) h (gr [0,1,2,6,4] rfl (hB rfl rfl rfl (hB rfl rfl rfl (hM rfl rfl (hR rfl rfl (hI rfl rfl .nil))))) rfl)
    refine rn 1 rfl ?_
    exact jX l13 h (gr [0,1,2,3,4] rfl (hB rfl rfl rfl (hB rfl rfl rfl (hM rfl rfl (hR rfl rfl (hI rfl rfl .nil))))) rfl)
   intro l50 h
   refine rn 1 rfl ?_
   exact jX l50 h (gr [0,1,2,3,4] rfl (hB rfl rfl rfl (hB rfl rfl rfl (hM rfl rfl (hR rfl rfl (hI rfl rfl .nil))))) rfl)
  intro l18 h
  exact jX (l18,l16) (RM.step hm2 hq2 h) (gr [0,1,2,3,4] rfl (hB rfl rfl rfl (hB rfl rfl rfl (hM rfl rfl (hR rfl rfl (hI rfl rfl .nil))))) rfl)
 intro m10 h
 refine rn 5 rfl ?_
 exact jX ((w64 (n7+1)),m10) h (gr [0,1,2] rfl (hB rfl rfl rfl (hB rfl rfl rfl (hM rfl rfl .nil))) rfl)
theorem W104(F:Nat)(a1:q2b)(a2:Int)(a3:q5a)(a4:(List (B8×Int)))(a5:B8)(r:(q5j×B8))(h:M104 F a1 a2 a3 a4 a5=some r):q5n Tryz.prog 104 [(V.agg (q3a a1)),(iV a2),(V.agg (q8a a3)),(V.imap (a4.map q9d)),(sV a5)] (V.tup [(V.agg (q3c (r.1))),(sV (r.2))]):=by
 refine pin (fun r=>(V.tup [(V.agg (q3c (r.1))),(sV (r.2))])) r rfl Tryz.func104 rfl rfl rfl rfl rfl (fun w0 m0 hg=>?_)
 unfold M104 at h
 refine rn 13 rfl ?_
 refine q7d _ (V.lst 3 (([]:(List q0a)).map q6a)) (V.lst 3 (((q6b a1.links a5).getD ([]:(List q0a))).map q6a)) z5l q6h j6m (fun _=>.nil _ _ _) q7a rfl .imm (.con rfl) ⟨_,rfl⟩ q5p (q4p a1.links a5) (q1f (q3n) (q6b a1.links a5) ([]:(List q0a))) rfl ?_
 refine fo ?_
 refine ln rfl rfl ?_
 refine rn 2 rfl ?_
 refine jK h (fun _:Unit=>(⟨[(10,(V.ptr 0 3 0 0))],[(0,(Ob.arr 80 3 [[(sV ([]:B8)),(iV 0),(sV ([]:B8))]]))],1⟩:St)) (fun k6 (_:Unit)=>k6=some r) (fun k6 h=>?_) ?_
 ·refine rn 1 rfl ?_
  refine wl (A:=((q6b a1.links a5).getD ([]:(List q0a)))) 23 rfl (fun hA40=>?_)
  refine lC (fun(p:Int)=>(⟨[(1,(iV a2)),(3,(V.imap (a4.map q9d))),(4,(sV a5)),(7,(V.ptr 0 2 0 0)),(10,(V.ptr 1 3 0 0)),(23,(V.lst 3 (((q6b a1.links a5).getD ([]:(List q0a))).map q6a))),(24,(iV ((((q6b a1.links a5).getD ([]:(List q0a))).length:Nat):Int))),(25,(iV p))],[(0,(Ob.arr 193 2 [(q8a a3)])),(1,(Ob.arr 80 3 [[(sV ([]:B8)),(iV 0),(sV ([]:B8))]]))],2⟩:St)) (fun n p=>RG ((q6b a1.links a5).getD ([]:(List q0a))) (fun tl nn=>z4c F a2 a3 a4 a5 k6 tl=some r) n p) (fun p h=>RG.zero h) (((q6b a1.links a5).getD ([]:(List q0a))).length+1) 0 (RG.start h) (gr [1,2] rfl (hB rfl rfl rfl (hB rfl rfl rfl .nil)) rfl) (fun n n8 h=>?_)
  refine rn 5 rfl ?_
  refine spL rfl (fun hb9=>?_) (fun hb9=>?_)
  ·obtain⟨x11,tl,hx12,h,hk1⟩:=RG.t hA40 h hb9
   unfold z4c at h
   refine rn 2 rfl ?_
   refine jK h (fun _:Unit=>(⟨[(1,(iV a2)),(3,(V.imap (a4.map q9d))),(4,(sV a5)),(7,(V.ptr 0 2 0 0)),(10,(V.ptr 1 3 0 0)),(23,(V.lst 3 (((q6b a1.links a5).getD ([]:(List q0a))).map q6a))),(24,(iV ((((q6b a1.links a5).getD ([]:(List q0a))).length:Nat):Int))),(25,(iV n8))],[(0,(Ob.arr 193 2 [(q8a a3)])),(1,(Ob.arr 80 3 [[(sV ([]:B8)),(iV 0),(sV ([]:B8))]]))],2⟩:St)) (fun k10 (_:Unit)=>k10=some r) (fun k10 h=>?_) ?_
   ·refine rn 3 rfl ?_
    refine ixh hx12 rfl rfl ?_
    refine rn 14 rfl ?_
    refine ln rfl rfl ?_
    refine rn 2 rfl ?_
    refine jK h (fun(p:B8×B8)=>(⟨[(1,(iV a2)),(3,(V.imap (a4.map q9d))),(4,(sV a5)),(7,(V.ptr 0 2 0 0)),(10,(V.ptr 1 3 0 0)),(13,(V.ptr 2 3 0 0)),(14,(sV (p.1))),(15,(sV (p.2))),(23,(V.lst 3 (((q6b a1.links a5).getD ([]:(List q0a))).map q6a))),(24,(iV ((((q6b a1.links a5).getD ([]:(List q0a))).length:Nat):Int))),(25,(iV n8))],[(0,(Ob.arr 193 2 [(q8a a3)])),(1,(Ob.arr 80 3 [[(sV ([]:B8)),(iV 0),(sV ([]:B8))]])),(2,(Ob.arr 219 3 [(q6a x11)]))],3⟩:St)) (fun k13 p=>k13 p.1 p.2=some r) (fun k13 h=>?_) ?_
    ·refine rn 1 rfl ?_
     refine wl (A:=x11.aims) 30 rfl (fun hA38=>?_)
     refine lC (fun(p:B8×B8×Int)=>(⟨[(1,(iV a2)),(3,(V.imap (a4.map q9d))),(4,(sV a5)),(7,(V.ptr 0 2 0 0)),(10,(V.ptr 1 3 0 0)),(13,(V.ptr 2 3 0 0)),(14,(sV (p.1))),(15,(sV (p.2.1))),(23,(V.lst 3 (((q6b a1.links a5).getD ([]:(List q0a))).map q6a))),(24,(iV ((((q6b a1.links a5).getD ([]:(List q0a))).length:Nat):Int))),(25,(iV n8)),(30,(V.lst 2 (x11.aims.map q0b))),(31,(iV ((x11.aims.length:Nat):Int))),(32,(iV (p.2.2)))],[(0,(Ob.arr 193 2 [(q8a a3)])),(1,(Ob.arr 80 3 [[(sV ([]:B8)),(iV 0),(sV ([]:B8))]])),(2,(Ob.arr 219 3 [(q6a x11)]))],3⟩:St)) (fun n p=>RG x11.aims (fun tl nn=>z3h F a2 a3 a4 a5 k13 tl p.1 p.2.1=some r) n p.2.2) (fun p h=>RG.zero h) (x11.aims.length+1) (([]:B8),([]:B8),0) (RG.start h) (gr [0,1,2] rfl (hB rfl rfl rfl (hB rfl rfl rfl (hB rfl rfl rfl .nil))) rfl) (fun n p h=>?_)
     obtain⟨s19,s20,n21⟩:=p
     refine rn 5 rfl ?_
     refine spL rfl (fun hb22=>?_) (fun hb22=>?_)
     ·obtain⟨x26,tl,hx27,h,hk2⟩:=RG.t hA38 h hb22
      unfold z3h at h
      refine rn 2 rfl ?_
      refine jK h (fun(p:B8×B8)=>(⟨[(1,(iV a2)),(3,(V.imap (a4.map q9d))),(4,(sV a5)),(7,(V.ptr 0 2 0 0)),(10,(V.ptr 1 3 0 0)),(13,(V.ptr 2 3 0 0)),(14,(sV (p.1))),(15,(sV (p.2))),(23,(V.lst 3 (((q6b a1.links a5).getD ([]:(List q0a))).map q6a))),(24,(iV ((((q6b a1.links a5).getD ([]:(List q0a))).length:Nat):Int))),(25,(iV n8)),(30,(V.lst 2 (x11.aims.map q0b))),(31,(iV ((x11.aims.length:Nat):Int))),(32,(iV n21))],[(0,(Ob.arr 193 2 [(q8a a3)])),(1,(Ob.arr 80 3 [[(sV ([]:B8)),(iV 0),(sV ([]:B8))]])),(2,(Ob.arr 219 3 [(q6a x11)]))],3⟩:St)) (fun k23 p=>k23 p.1 p.2=some r) (fun k23 h=>?_) ?_
      ·refine rn 3 rfl ?_
       refine ixh hx27 rfl rfl ?_
       refine rn 9 rfl ?_
       refine q5h _ (iV 0) (iV ((q6b a4 x26.to).getD 0)) q1o q6h j5m (q9f _) q7a rfl .imm (.con rfl) ⟨_,rfl⟩ q7f (q8g a4 x26.to) (q1f (q1g) (q6b a4 x26.to) 0) (q6m ..) rfl ?_
       refine fo (rn 10 rfl ?_)
       refine spO 44 h rfl (fun hb28 h=>?_) (fun hb28 h=>?_)
       ·refine rn 3 rfl ?_
        refine q7d _ (iV 0) (iV ((q6b a4 a5).getD 0)) q1o q6h j5m (q9f _) (q4i (c:=true) (b:=true) 44 rfl rfl rfl) rfl .imm (.con rfl) ⟨_,rfl⟩ q7f (q8g a4 a5) (q1f (q1g) (q6b a4 a5) 0) rfl ?_
        refine fo (rn 4 rfl ?_)
        refine spO 52 h rfl (fun hb29 h=>?_) (fun hb29 h=>?_)
        ·refine rn 3 rfl ?_
         refine cl h rfl rfl rfl (W160 _ _ _ _) rfl (fun y30 hx31 h=>?_)
         refine rn 2 rfl ?_
         refine spO 58 h rfl (fun hb32 h=>?_) (fun hb32 h=>?_)
         ·refine rn 3 rfl ?_
          refine spO 61 h rfl (fun hb33 h=>?_) (fun hb33 h=>?_)
          ·refine rn 8 rfl ?_
           refine dr mixed (vs 6 rfl .nil) (by kernel_rfl) ?_
           refine rn 1 rfl ?_
           exact jX (x26.to,x26.typ) h (gr [0,1,2] rfl (hB rfl rfl rfl (hB rfl rfl rfl (hB rfl rfl rfl .nil))) rfl)
          refine rn 7 rfl ?_
          refine jK h (fun(p:B8×B8)=>(⟨[(1,(iV a2)),(3,(V.imap (a4.map q9d))),(4,(sV a5)),(7,(V.ptr 0 2 0 0)),(10,(V.ptr 1 3 0 0)),(13,(V.ptr 2 3 0 0)),(14,(sV (p.1))),(15,(sV (p.2))),(23,(V.lst 3 (((q6b a1.links a5).getD ([]:(List q0a))).map q6a))),(24,(iV ((((q6b a1.links a5).getD ([]:(List q0a))).length:Nat):Int))),(25,(iV n8)),(30,(V.lst 2 (x11.aims.map q0b))),(31,(iV ((x11.aims.length:Nat):Int))),(32,(iV n21)),(50,(bV (((q6b a4 x26.to).getD 0)==(w64 (((q6b a4 a5).getD 0) - 1))))),(56,(bV y30)),(65,(bV (Op.bytesLess x26.to s19))),(66,(bV (Op.bytesLess x26.to s19)))],[(0,(Ob.arr 193 2 [(q8a a3)])),(1,(Ob.arr 80 3 [[(sV ([]:B8)),(iV 0),(sV ([]:B8))]])),(2,(Ob.arr 219 3 [(q6a x11)]))],3⟩:St)) (fun k34 p=>k34 p.1 p.2=some r) (fun k34 h=>?_) ?_
          ·refine spC h rfl (fun hb37 h=>?_) (fun hb37 h=>?_)
           ·refine dr mixed (vs 6 rfl .nil) (by kernel_rfl) ?_
            exact jX (x26.to,x26.typ) h (gr [0,1,2] rfl (hB rfl rfl rfl (hB rfl rfl rfl (hB rfl rfl rfl .nil))) rfl)
           refine rn 1 rfl ?_
           exact jX (s19,s20) h (gr [0,1,2] rfl (hB rfl rfl rfl (hB rfl rfl rfl (hB rfl rfl rfl .nil))) rfl)
          rintro⟨s35,s36⟩ h
          refine rn 1 rfl ?_
          exact jX (s35,s36) h (gr [0,1,2] rfl (hB rfl rfl rfl (hB rfl rfl rfl (hB rfl rfl rfl .nil))) rfl)
         refine rn 13 rfl ?_
         exact jX (s19,s20) h (gr [0,1,2] rfl (hB rfl rfl rfl (hB rfl rfl rfl (hB rfl rfl rfl .nil))) rfl)
        refine rn 19 rfl ?_
        exact jX (s19,s20) h (gr [0,1,2] rfl (hB rfl rfl rfl (hB rfl rfl rfl (hB rfl rfl rfl .nil))) rfl)
       refine rn 27 rfl ?_
       exact jX (s19,s20) h (gr [0,1,2] rfl (hB rfl rfl rfl (hB rfl rfl rfl (hB rfl rfl rfl .nil))) rfl)
      rintro⟨s24,s25⟩ h
      refine rn 4 rfl ?_
      exact jX (s24,s25,(w64 (n21+1))) (hk2 _ h) (gr [0,1,2] rfl (hB rfl rfl rfl (hB rfl rfl rfl (hB rfl rfl rfl .nil))) rfl)
     replace h:=RG.f h hb22
     unfold z3h at h
     refine rn 1 rfl ?_
     exact jX (s19,s20) h (gr [0,1,2] rfl (hB rfl rfl rfl (hB rfl rfl rfl (hB rfl rfl rfl .nil))) rfl)
    rintro⟨s14,s15⟩ h
    refine rn 5 rfl ?_
    refine spC h rfl (fun hb39 h=>?_) (fun hb39 h=>?_)
    ·refine rn 10 rfl ?_
     exact rt h rfl
    refine rn 2 rfl ?_
    exact jX () h (gr [0,1] rfl (hB rfl rfl rfl (hB rfl rfl rfl .nil)) rfl)
   intro _ h
   refine rn 4 rfl ?_
   exact jX (w64 (n8+1)) (hk1 _ h) (gr [0,1] rfl (hB rfl rfl rfl (hB rfl rfl rfl .nil)) rfl)
  replace h:=RG.f h hb9
  unfold z4c at h
  refine rn 1 rfl ?_
  exact jX () h (gr [1] rfl (hB rfl rfl rfl .nil) rfl)
 intro _ h
 refine rn 6 rfl ?_
 exact rt h rfl
theorem W161_B(R161:(List B8)->Option (List B8))(hR161:∀(a1:(List B8)) (r:(List B8)),R161 a1=some r->q5n Tryz.prog 161 [(V.lst 1 (a1.map q6f))] (V.lst 1 (r.map q6f)))(F:Nat)(a1:(List B8))(r:(List B8))(h:v8r R161 F a1=some r):q5n Tryz.prog 161 [(V.lst 1 (a1.map q6f))] (V.lst 1 (r.map q6f)):=by
 refine pin (fun r=>(V.lst 1 (r.map q6f))) r rfl Tryz.func161 rfl rfl rfl rfl rfl (fun w0 m0 hg=>?_)
 unfold v8r at h
 refine rn 8 rfl ?_
 refine ln rfl rfl ?_
 refine rn 2 rfl ?_
 refine spC h rfl (fun hb2 h=>?_) (fun hb2 h=>?_)
 ·refine rn 5 rfl ?_
  exact rt h rfl
 refine rn 2 rfl ?_
 refine ck h (fun hc3 h=>?_)
 obtain⟨y4,hx5,h⟩:=bind_some h
 refine ck h (fun hc6 h=>?_)
 obtain⟨y7,hx8,h⟩:=bind_some h
 refine dr mixed (vs 2 rfl (nD rfl rfl rfl (vs 1 rfl (xD (OD.mk [(10,(V.lst 1 (a1.map q6f))),(13,(iV (w64 (Int.tdiv ((a1.length:Nat):Int) 2))))] [] [(14,(V.lst 1 ((a1.take (w64 (Int.tdiv ((a1.length:Nat):Int) 2)).toNat).map q6f)))] []) ⟨⟨rfl,rfl,trivial⟩,trivial⟩ (by exact fun S hn h hh=>q1n (0) ((w64 (Int.tdiv ((a1.length:Nat):Int) 2)).toNat) ((a1.take (w64 (Int.tdiv ((a1.length:Nat):Int) 2)).toNat).map q6f) j2y q7a h.1 rfl ⟨_,(by rw[Int.toNat_of_nonneg hc3.1];exact h.2.1)⟩ (Nat.zero_le _) (by simpa using hc3.2) slL_lo rfl (q8d ⟨rfl,rfl⟩)) rfl (cD rfl rfl rfl rfl (hR161 _ _ hx5) rfl (vs 2 rfl (nD rfl rfl rfl (vs 1 rfl (xD (OD.mk [(16,(V.lst 1 (a1.map q6f))),(19,(iV (w64 (Int.tdiv ((a1.length:Nat):Int) 2))))] [] [(20,(V.lst 1 ((a1.drop (w64 (Int.tdiv ((a1.length:Nat):Int) 2)).toNat).map q6f)))] []) ⟨⟨rfl,rfl,trivial⟩,trivial⟩ (by exact fun S hn h hh=>q1n ((w64 (Int.tdiv ((a1.length:Nat):Int) 2)).toNat) (a1.length) ((a1.drop (w64 (Int.tdiv ((a1.length:Nat):Int) 2)).toNat).map q6f) j2y q7a h.1 ⟨_,(by rw[Int.toNat_of_nonneg hc6.1];exact h.2.1)⟩ (List.length_map ..).symm hc6.2 (Nat.le_of_eq (List.length_map ..).symm) j0n rfl (q8d ⟨rfl,rfl⟩)) rfl (cD rfl rfl rfl rfl (hR161 _ _ hx8) rfl (vs 2 rfl .nil))))))))))) (by kernel_rfl) ?_
 refine rn 5 rfl ?_
 refine jK h (fun(p:(List B8))=>(⟨[(5,(V.own 0 p.length))],[(0,(Ob.arr 9 1 (p.map q6f)))],1⟩:St)) (fun k9 p=>k9 p=some r) (fun k9 h=>?_) ?_
 ·refine rn 1 rfl ?_
  refine lC (fun(p:(List B8)×(List B8)×(List B8))=>(⟨[(3,(V.lst 1 ((p.1).map q6f))),(4,(V.lst 1 ((p.2.1).map q6f))),(5,(V.own 0 (p.2.2).length))],[(0,(Ob.arr 9 1 ((p.2.2).map q6f)))],1⟩:St)) (fun n p=>q9n F k9 n p.1 p.2.1 p.2.2=some r) (fun p h=>by simp[q9n] at h) F (y4,y7,([]:List B8)) h (q8h.trans (q7n 5 9 1 rfl) (q9g 1 (fun i=>([0]:List Nat).getD i 0) _ _ (by decide) (q9k.get (.cons (Sub.imm (Imm.lst _ _)) (.cons (Sub.imm (Imm.lst _ _)) (.cons (Sub.ownE rfl rfl (by simp)) .nil)))) (q6i.get (.cons rfl (q4b.rows (q3b q8s)) .nil)) rfl)) (fun n p h=>?_)
  obtain⟨l14,l15,l16⟩:=p
  unfold q9n at h
  refine rn 4 rfl ?_
  refine ln rfl rfl ?_
  refine rn 2 rfl ?_
  refine spO 25 h rfl (fun hb17 h=>?_) (fun hb17 h=>?_)
  ·refine rn 9 rfl ?_
   refine bs h (fun hb18 h=>?_) (fun hb18 h=>?_)
   ·refine dr mixed (vs 1 rfl (nD rfl rfl rfl (vs 1 rfl (vb hb18 rfl (vs 13 rfl .nil))))) (by kernel_rfl) ?_
    obtain⟨x19,hx20,h⟩:=bind_some h
    refine rn 1 rfl ?_
    refine ck h (fun hc21 h=>?_)
    refine ck h (fun hc22 h=>?_)
    refine q0e q8j ?_
    refine fa ?_
    refine dr mixed (vs 2 rfl (iD hx20 rfl rfl rfl (vs 1 rfl (xD (OD.mk [(50,(sV x19))] [] [(51,(V.lst 1 (([x19]:List B8).map q6f)))] []) ⟨⟨rfl,trivial⟩,trivial⟩ (by exact fun S hn h hh=>q6g [(0,(sV x19))] [[(sV x19)]] z7c tZ9 q7a rfl rfl rfl rfl (q7g h.1 q5i) rfl rfl (by simp) (q7j (.cons (.cons (Imm.con _) .nil) .nil)) rfl (q8d ⟨rfl,rfl⟩)) rfl (xD (OD.mk [(47,(V.own 0 l16.length)),(51,(V.lst 1 (([x19]:List B8).map q6f)))] [(0,(Ob.arr 9 1 (l16.map q6f))),(1,Ob.res)] [(52,(V.own 1 (l16++([x19]:List B8)).length))] [(1,(Ob.arr 9 1 ((l16++([x19]:List B8)).map q6f))),(0,Ob.dead)]) ⟨⟨rfl,rfl,trivial⟩,⟨rfl,rfl,trivial⟩⟩ (by exact fun S hn h hh=>q7k 1 rfl hn hh.2.1 (([x19]:List B8).map q6f) ((l16++([x19]:List B8)).map q6f) z7c z1s rfl rfl q7a h.1 hh.1 (by simp) h.2.1 (.lst (q0s z5i)) (q1s q6f l16 ([x19]:List B8)) (List.length_map ..) hc21 rfl (q8d ⟨rfl,rfl⟩)) rfl (vs 1 rfl (xD (OD.mk [(53,(V.lst 1 (l14.map q6f)))] [] [(54,(V.lst 1 ((l14.drop 1).map q6f)))] []) ⟨⟨rfl,trivial⟩,trivial⟩ (by exact fun S hn h hh=>q1n (1) (l14.length) ((l14.drop 1).map q6f) j2y q7a h.1 ⟨_,rfl⟩ (List.length_map ..).symm hc22 (Nat.le_of_eq (List.length_map ..).symm) j0n rfl (q8d ⟨rfl,rfl⟩)) rfl (vs 2 rfl .nil)))))))) (by kernel_rfl) ?_
    refine rn 1 rfl ?_
    exact jX ((l14.drop 1),l15,(l16++([x19]:List B8))) h (gr [1] rfl (hR rfl rfl .nil) rfl)
   obtain⟨x23,hx24,h⟩:=bind_some h
   obtain⟨x25,hx26,h⟩:=bind_some h
   refine dr mixed (vs 1 rfl (nD rfl rfl rfl (vs 1 rfl (vb hb18 rfl (vs 1 rfl (nD rfl rfl rfl (vs 1 rfl (vb hb17 rfl (vs 1 rfl (iD hx24 rfl rfl rfl (vs 2 rfl (iD hx26 rfl rfl rfl (vs 4 rfl .nil))))))))))))) (by kernel_rfl) ?_
   refine jK h (fun(p:(List B8)×(List B8)×(List B8))=>(⟨[(3,(V.lst 1 ((p.1).map q6f))),(4,(V.lst 1 ((p.2.1).map q6f))),(5,(V.own 0 (p.2.2).length)),(28,(V.con undef)),(44,(bV (Op.bytesLess x23 x25||x23==x25))),(45,(bV (Op.bytesLess x23 x25||x23==x25)))],[(0,(Ob.arr 9 1 ((p.2.2).map q6f)))],1⟩:St)) (fun k27 p=>k27 p.1 p.2.1 p.2.2=some r) (fun k27 h=>?_) ?_
   ·refine spC h rfl (fun hb31 h=>?_) (fun hb31 h=>?_)
    ·obtain⟨x32,hx33,h⟩:=bind_some h
     refine ck h (fun hc34 h=>?_)
     refine ck h (fun hc35 h=>?_)
     refine q0e q8j ?_
     refine fa ?_
     refine dr mixed (vs 2 rfl (iD hx33 rfl rfl rfl (vs 1 rfl (xD (OD.mk [(50,(sV x32))] [] [(51,(V.lst 1 (([x32]:List B8).map q6f)))] []) ⟨⟨rfl,trivial⟩,trivial⟩ (by exact fun S hn h hh=>q6g [(0,(sV x32))] [[(sV x32)]] z7c tZ9 q7a rfl rfl rfl rfl (q7g h.1 q5i) rfl rfl (by simp) (q7j (.cons (.cons (Imm.con _) .nil) .nil)) rfl (q8d ⟨rfl,rfl⟩)) rfl (xD (OD.mk [(47,(V.own 0 l16.length)),(51,(V.lst 1 (([x32]:List B8).map q6f)))] [(0,(Ob.arr 9 1 (l16.map q6f))),(1,Ob.res)] [(52,(V.own 1 (l16++([x32]:List B8)).length))] [(1,(Ob.arr 9 1 ((l16++([x32]:List B8)).map q6f))),(0,Ob.dead)]) ⟨⟨rfl,rfl,trivial⟩,⟨rfl,rfl,trivial⟩⟩ (by exact fun S hn h hh=>q7k 1 rfl hn hh.2.1 (([x32]:List B8).map q6f) ((l16++([x32]:List B8)).map q6f) z7c z1s rfl rfl q7a h.1 hh.1 (by simp) h.2.1 (.lst (q0s z5i)) (q1s q6f l16 ([x32]:List B8)) (List.length_map ..) hc34 rfl (q8d ⟨rfl,rfl⟩)) rfl (vs 1 rfl (xD (OD.mk [(53,(V.lst 1 (l14.map q6f)))] [] [(54,(V.lst 1 ((l14.drop 1).map q6f)))] []) ⟨⟨rfl,trivial⟩,trivial⟩ (by exact fun S hn h hh=>q1n (1) (l14.length) ((l14.drop 1).map q6f) j2y q7a h.1 ⟨_,rfl⟩ (List.length_map ..).symm hc35 (Nat.le_of_eq (List.length_map ..).symm) j0n rfl (q8d ⟨rfl,rfl⟩)) rfl (vs 2 rfl .nil)))))))) (by kernel_rfl) ?_
     exact jX ((l14.drop 1),l15,(l16++([x32]:List B8))) h (gr [1] rfl (hR rfl rfl .nil) rfl)
    obtain⟨x36,hx37,h⟩:=bind_some h
    refine ck h (fun hc38 h=>?_)
    refine ck h (fun hc39 h=>?_)
    refine q0e q8j ?_
    refine fa ?_
    refine dr mixed (vs 2 rfl (iD hx37 rfl rfl rfl (vs 1 rfl (xD (OD.mk [(58,(sV x36))] [] [(59,(V.lst 1 (([x36]:List B8).map q6f)))] []) ⟨⟨rfl,trivial⟩,trivial⟩ (by exact fun S hn h hh=>q6g [(0,(sV x36))] [[(sV x36)]] z7c tZ9 q7a rfl rfl rfl rfl (q7g h.1 q5i) rfl rfl (by simp) (q7j (.cons (.cons (Imm.con _) .nil) .nil)) rfl (q8d ⟨rfl,rfl⟩)) rfl (xD (OD.mk [(55,(V.own 0 l16.length)),(59,(V.lst 1 (([x36]:List B8).map q6f)))] [(0,(Ob.arr 9 1 (l16.map q6f))),(1,Ob.res)] [(60,(V.own 1 (l16++([x36]:List B8)).length))] [(1,(Ob.arr 9 1 ((l16++([x36]:List B8)).map q6f))),(0,Ob.dead)]) ⟨⟨rfl,rfl,trivial⟩,⟨rfl,rfl,trivial⟩⟩ (by exact fun S hn h hh=>q7k 1 rfl hn hh.2.1 (([x36]:List B8).map q6f) ((l16++([x36]:List B8)).map q6f) z7c z1s rfl rfl q7a h.1 hh.1 (by simp) h.2.1 (.lst (q0s z5i)) (q1s q6f l16 ([x36]:List B8)) (List.length_map ..) hc38 rfl (q8d ⟨rfl,rfl⟩)) rfl (vs 1 rfl (xD (OD.mk [(61,(V.lst 1 (l15.map q6f)))] [] [(62,(V.lst 1 ((l15.drop 1).map q6f)))] []) ⟨⟨rfl,trivial⟩,trivial⟩ (by exact fun S hn h hh=>q1n (1) (l15.length) ((l15.drop 1).map q6f) j2y q7a h.1 ⟨_,rfl⟩ (List.length_map ..).symm hc39 (Nat.le_of_eq (List.length_map ..).symm) j0n rfl (q8d ⟨rfl,rfl⟩)) rfl (vs 2 rfl .nil)))))))) (by kernel_rfl) ?_
    exact jX (l14,(l15.drop 1),(l16++([x36]:List B8))) h (gr [1] rfl (hR rfl rfl .nil) rfl)
   rintro⟨l28,l29,l30⟩ h
   refine rn 1 rfl ?_
   exact jX (l28,l29,l30) h (gr [0] rfl (hR rfl rfl .nil) rfl)
  refine rn 1 rfl ?_
  refine ln rfl rfl ?_
  refine rn 3 rfl ?_
  refine spC h rfl (fun hb40 h=>?_) (fun hb40 h=>?_)
  ·refine rn 3 rfl ?_
   refine bs h (fun hb41 h=>?_) (fun hb41 h=>?_)
   ·refine dr mixed (vs 1 rfl (nD rfl rfl rfl (vs 1 rfl (vb hb41 rfl (vs 13 rfl .nil))))) (by kernel_rfl) ?_
    obtain⟨x42,hx43,h⟩:=bind_some h
    refine rn 1 rfl ?_
    refine ck h (fun hc44 h=>?_)
    refine ck h (fun hc45 h=>?_)
    refine q0e q8j ?_
    refine fa ?_
    refine dr mixed (vs 2 rfl (iD hx43 rfl rfl rfl (vs 1 rfl (xD (OD.mk [(50,(sV x42))] [] [(51,(V.lst 1 (([x42]:List B8).map q6f)))] []) ⟨⟨rfl,trivial⟩,trivial⟩ (by exact fun S hn h hh=>q6g [(0,(sV x42))] [[(sV x42)]] z7c tZ9 q7a rfl rfl rfl rfl (q7g h.1 q5i) rfl rfl (by simp) (q7j (.cons (.cons (Imm.con _) .nil) .nil)) rfl (q8d ⟨rfl,rfl⟩)) rfl (xD (OD.mk [(47,(V.own 0 l16.length)),(51,(V.lst 1 (([x42]:List B8).map q6f)))] [(0,(Ob.arr 9 1 (l16.map q6f))),(1,Ob.res)] [(52,(V.own 1 (l16++([x42]:List B8)).length))] [(1,(Ob.arr 9 1 ((l16++([x42]:List B8)).map q6f))),(0,Ob.dead)]) ⟨⟨rfl,rfl,trivial⟩,⟨rfl,rfl,trivial⟩⟩ (by exact fun S hn h hh=>q7k 1 rfl hn hh.2.1 (([x42]:List B8).map q6f) ((l16++([x42]:List B8)).map q6f) z7c z1s rfl rfl q7a h.1 hh.1 (by simp) h.2.1 (.lst (q0s z5i)) (q1s q6f l16 ([x42]:List B8)) (List.length_map ..) hc44 rfl (q8d ⟨rfl,rfl⟩)) rfl (vs 1 rfl (xD (OD.mk [(53,(V.lst 1 (l14.map q6f)))] [] [(54,(V.lst 1 ((l14.drop 1).map q6f)))] []) ⟨⟨rfl,trivial⟩,trivial⟩ (by exact fun S hn h hh=>q1n (1) (l14.length) ((l14.drop 1).map q6f) j2y q7a h.1 ⟨_,rfl⟩ (List.length_map ..).symm hc45 (Nat.le_of_eq (List.length_map ..).symm) j0n rfl (q8d ⟨rfl,rfl⟩)) rfl (vs 2 rfl .nil)))))))) (by kernel_rfl) ?_
    refine rn 1 rfl ?_
    exact jX ((l14.drop 1),l15,(l16++([x42]:List B8))) h (gr [1] rfl (hR rfl rfl .nil) rfl)
   refine dr mixed (vs 1 rfl (nD rfl rfl rfl (vs 1 rfl (vb hb41 rfl (vs 1 rfl (nD rfl rfl rfl (vs 1 rfl (vb hb17 rfl (vs 9 rfl .nil))))))))) (by kernel_rfl) ?_
   obtain⟨x46,hx47,h⟩:=bind_some h
   refine rn 1 rfl ?_
   refine ck h (fun hc48 h=>?_)
   refine ck h (fun hc49 h=>?_)
   refine q0e q8j ?_
   refine fa ?_
   refine dr mixed (vs 2 rfl (iD hx47 rfl rfl rfl (vs 1 rfl (xD (OD.mk [(58,(sV x46))] [] [(59,(V.lst 1 (([x46]:List B8).map q6f)))] []) ⟨⟨rfl,trivial⟩,trivial⟩ (by exact fun S hn h hh=>q6g [(0,(sV x46))] [[(sV x46)]] z7c tZ9 q7a rfl rfl rfl rfl (q7g h.1 q5i) rfl rfl (by simp) (q7j (.cons (.cons (Imm.con _) .nil) .nil)) rfl (q8d ⟨rfl,rfl⟩)) rfl (xD (OD.mk [(55,(V.own 0 l16.length)),(59,(V.lst 1 (([x46]:List B8).map q6f)))] [(0,(Ob.arr 9 1 (l16.map q6f))),(1,Ob.res)] [(60,(V.own 1 (l16++([x46]:List B8)).length))] [(1,(Ob.arr 9 1 ((l16++([x46]:List B8)).map q6f))),(0,Ob.dead)]) ⟨⟨rfl,rfl,trivial⟩,⟨rfl,rfl,trivial⟩⟩ (by exact fun S hn h hh=>q7k 1 rfl hn hh.2.1 (([x46]:List B8).map q6f) ((l16++([x46]:List B8)).map q6f) z7c z1s rfl rfl q7a h.1 hh.1 (by simp) h.2.1 (.lst (q0s z5i)) (q1s q6f l16 ([x46]:List B8)) (List.length_map ..) hc48 rfl (q8d ⟨rfl,rfl⟩)) rfl (vs 1 rfl (xD (OD.mk [(61,(V.lst 1 (l15.map q6f)))] [] [(62,(V.lst 1 ((l15.drop 1).map q6f)))] []) ⟨⟨rfl,trivial⟩,trivial⟩ (by exact fun S hn h hh=>q1n (1) (l15.length) ((l15.drop 1).map q6f) j2y q7a h.1 ⟨_,rfl⟩ (List.length_map ..).symm hc49 (Nat.le_of_eq (List.length_map ..).symm) j0n rfl (q8d ⟨rfl,rfl⟩)) rfl (vs 2 rfl .nil)))))))) (by kernel_rfl) ?_
   refine rn 1 rfl ?_
   exact jX (l14,(l15.drop 1),(l16++([x46]:List B8))) h (gr [1] rfl (hR rfl rfl .nil) rfl)
  refine rn 1 rfl ?_
  exact jX l16 h (gr [0] rfl (hR rfl rfl .nil) rfl)
 intro l10 h
 refine rn 5 rfl ?_
 refine q0e (q8l 0 [2,5,63] rfl (q3b q8s) (List.forall_mem_cons.2 ⟨rfl,(List.forall_mem_cons.2 ⟨rfl,(List.forall_mem_cons.2 ⟨rfl,(fun _ hx=>nomatch hx)⟩)⟩)⟩) (List.length_map ..).symm) ?_
 refine fa ?_
 exact rt h rfl
theorem W161:∀(F:Nat) (a1:(List B8)) (r:(List B8)) (h:w1j F a1=some r),q5n Tryz.prog 161 [(V.lst 1 (a1.map q6f))] (V.lst 1 (r.map q6f)):=by
 intro F
 induction F with
 |zero=>intros;simp[w1j] at *
 |succ F ih=>exact fun a1 r h=>W161_B (w1j F) ih F a1 r h
theorem W105(F:Nat)(a1:(List (B8×Bool)))(r:(List B8))(h:y6d F a1=some r):q5n Tryz.prog 105 [(V.imap (a1.map q5b))] (V.lst 1 (r.map q6f)):=by
 refine pin (fun r=>(V.lst 1 (r.map q6f))) r rfl Tryz.func105 rfl rfl rfl rfl rfl (fun w0 m0 hg=>?_)
 unfold y6d at h
 refine rn 12 rfl ?_
 refine z9i q4j q7a rfl rfl ?_
 refine fo (rn 2 rfl ?_)
 refine lC (fun(p:(List B8)×(List (B8×Bool)))=>(⟨[(3,(V.own 0 (p.1).length)),(6,(V.ptr 1 1 0 0))],[(0,(Ob.arr 9 1 ((p.1).map q6f))),(1,(Ob.iter [] ((p.2).map q5b)))],2⟩:St)) (fun n p=>RM n p.2 (q4y F p.2 p.1=some r)) (fun p h=>RM.zero h) (a1.length+1) (([]:List B8),a1) (RM.start h) (q8h.trans (q7n 3 9 1 rfl) (q9g 2 (fun i=>([1,0]:List Nat).getD i 0) _ _ (by decide) (q9k.get (.cons (Sub.ownE rfl rfl (by simp)) (.cons (Sub.ptr rfl rfl) .nil))) (q6i.get (.cons rfl (q4b.rows (q3b q8s)) (.cons rfl q4b.itr .nil))) rfl)) (fun n p h=>?_)
 obtain⟨l4,l5⟩:=p
 refine rn 2 rfl ?_
 refine nxt rfl rfl q7a rfl (fun hl1=>?_) (fun e6 l7 hq1 hp1=>?_)
 ·replace h:=h.2
  subst hl1
  unfold q4y at h
  obtain⟨y9,hx10,h⟩:=bind_some h
  refine rn 8 rfl ?_
  refine q8f (q8l 0 [15,3] rfl (q3b q8s) (List.forall_mem_cons.2 ⟨rfl,(List.forall_mem_cons.2 ⟨rfl,(fun _ hx=>nomatch hx)⟩)⟩) (List.length_map ..).symm) ?_
  refine j6f (V.lst 1 (y9.map q6f)) [(V.lst 1 (l4.map q6f))] w0t q7a (q4f rfl q8k) (.cons (Imm.lst _ _) .nil) (W161 F l4 y9 hx10) rfl ?_
  refine fo (rn 2 rfl ?_)
  exact rt h rfl
 have hm1:=h
 replace h:=v8h hp1 h.2
 unfold q4y at h
 refine rn 8 rfl ?_
 refine z0j q7a rfl rfl rfl ?_
 refine fo (rn 6 rfl ?_)
 refine q9e [(0,(sV e6.1))] [[(sV e6.1)]] z7c tZ9 rfl rfl rfl rfl q7a (q7g rfl q5i) rfl rfl (by simp) rfl ?_
 refine fo ?_
 refine apO q6f h rfl rfl rfl rfl rfl rfl rfl rfl (fun h=>?_)
 refine rn 3 rfl ?_
 exact jX ((l4++([e6.1]:List B8)),l7) (RM.step hm1 hq1 h) (gr [3,1] rfl (hR rfl rfl (hI rfl rfl .nil)) rfl)
theorem W106(F:Nat)(a1:q2b)(a2:q5a)(a3:B8)(r:B8)(h:M106 F a1 a2 a3=some r):q5n Tryz.prog 106 [(V.agg (q3a a1)),(V.agg (q8a a2)),(sV a3)] (sV r):=by
 refine pin (fun r=>(sV r)) r rfl Tryz.func106 rfl rfl rfl rfl rfl (fun w0 m0 hg=>?_)
 unfold M106 at h
 refine rn 12 rfl ?_
 refine ln rfl rfl ?_
 refine rn 2 rfl ?_
 refine jK h (fun _:Unit=>(⟨[],[],0⟩:St)) (fun k4 (_:Unit)=>k4=some r) (fun k4 h=>?_) ?_
 ·refine rn 1 rfl ?_
  refine wl (A:=a1.g.Funcs) 13 rfl (fun hA20=>?_)
  refine lC (fun(p:Int)=>(⟨[(2,(sV a3)),(4,(V.ptr 0 2 0 0)),(13,(V.lst 4 (a1.g.Funcs.map q8c))),(14,(iV ((a1.g.Funcs.length:Nat):Int))),(15,(iV p))],[(0,(Ob.arr 193 2 [(q8a a2)]))],1⟩:St)) (fun n p=>RG a1.g.Funcs (fun tl nn=>z7n F a2 a3 k4 tl=some r) n p) (fun p h=>RG.zero h) (a1.g.Funcs.length+1) 0 (RG.start h) (gr [1] rfl (hB rfl rfl rfl .nil) rfl) (fun n n6 h=>?_)
  refine rn 5 rfl ?_
  refine spL rfl (fun hb7=>?_) (fun hb7=>?_)
  ·obtain⟨x9,tl,hx10,h,hk1⟩:=RG.t hA20 h hb7
   unfold z7n at h
   refine rn 2 rfl ?_
   refine jK h (fun _:Unit=>(⟨[(2,(sV a3)),(4,(V.ptr 0 2 0 0)),(13,(V.lst 4 (a1.g.Funcs.map q8c))),(14,(iV ((a1.g.Funcs.length:Nat):Int))),(15,(iV n6))],[(0,(Ob.arr 193 2 [(q8a a2)]))],1⟩:St)) (fun k8 (_:Unit)=>k8=some r) (fun k8 h=>?_) ?_
   ·refine rn 3 rfl ?_
    refine ixh hx10 rfl rfl ?_
    refine rn 11 rfl ?_
    refine q7d _ (bV false) (bV ((q6b a2.reached x9.Name).getD false)) q4j q6h j4m (q9f _) q7a rfl .imm (.con rfl) ⟨_,rfl⟩ q7e (q3h a2.reached x9.Name) (q1f (q5g) (q6b a2.reached x9.Name) false) rfl ?_
    refine fo (rn 2 rfl ?_)
    refine spC h rfl (fun hb11 h=>?_) (fun hb11 h=>?_)
    ·refine rn 1 rfl ?_
     exact jX () h (gr [0] rfl (hB rfl rfl rfl .nil) rfl)
    refine rn 5 rfl ?_
    refine ln rfl rfl ?_
    refine rn 2 rfl ?_
    refine jK h (fun _:Unit=>(⟨[(2,(sV a3)),(4,(V.ptr 0 2 0 0)),(13,(V.lst 4 (a1.g.Funcs.map q8c))),(14,(iV ((a1.g.Funcs.length:Nat):Int))),(15,(iV n6))],[(0,(Ob.arr 193 2 [(q8a a2)]))],1⟩:St)) (fun k12 (_:Unit)=>k12=some r) (fun k12 h=>?_) ?_
    ·refine rn 1 rfl ?_
     refine wl (A:=x9.Makes) 26 rfl (fun hA19=>?_)
     refine lC (fun(p:Int)=>(⟨[(2,(sV a3)),(4,(V.ptr 0 2 0 0)),(8,(V.ptr 1 4 0 0)),(13,(V.lst 4 (a1.g.Funcs.map q8c))),(14,(iV ((a1.g.Funcs.length:Nat):Int))),(15,(iV n6)),(26,(V.lst 1 (x9.Makes.map q6f))),(27,(iV ((x9.Makes.length:Nat):Int))),(28,(iV p))],[(0,(Ob.arr 193 2 [(q8a a2)])),(1,(Ob.arr 94 4 [(q8c x9)]))],2⟩:St)) (fun n p=>RG x9.Makes (fun tl nn=>z2h F a3 x9 k12 tl=some r) n p) (fun p h=>RG.zero h) (x9.Makes.length+1) 0 (RG.start h) (gr [0,1] rfl (hB rfl rfl rfl (hB rfl rfl rfl .nil)) rfl) (fun n n14 h=>?_)
     refine rn 5 rfl ?_
     refine spL rfl (fun hb15=>?_) (fun hb15=>?_)
     ·obtain⟨x16,tl,hx17,h,hk2⟩:=RG.t hA19 h hb15
      unfold z2h at h
      refine rn 5 rfl ?_
      refine ixh hx17 rfl rfl ?_
      refine rn 9 rfl ?_
      refine spC h rfl (fun hb18 h=>?_) (fun hb18 h=>?_)
      ·refine rn 6 rfl ?_
       exact rt h rfl
      refine rn 6 rfl ?_
      exact jX (w64 (n14+1)) (hk2 _ h) (gr [0,1] rfl (hB rfl rfl rfl (hB rfl rfl rfl .nil)) rfl)
     replace h:=RG.f h hb15
     unfold z2h at h
     refine rn 1 rfl ?_
     exact jX () h (gr [0] rfl (hB rfl rfl rfl .nil) rfl)
    intro _ h
    refine rn 1 rfl ?_
    exact jX () h (gr [0] rfl (hB rfl rfl rfl .nil) rfl)
   intro _ h
   refine rn 4 rfl ?_
   exact jX (w64 (n6+1)) (hk1 _ h) (gr [0] rfl (hB rfl rfl rfl .nil) rfl)
  replace h:=RG.f h hb7
  unfold z7n at h
  refine rn 1 rfl ?_
  exact jX () h (g0 rfl rfl)
 intro _ h
 refine rn 4 rfl ?_
 exact rt h rfl
theorem W29(F:Nat)(a1:q7c)(a2:Int)(a3:(List B8))(a4:B8)(r:(q3e×Bool×Int))(h:M29 F a1 a2 a3 a4=some r):q5n Tryz.prog 29 [(V.agg (q3d a1)),(iV a2),(V.lst 1 (a3.map q6f)),(sV a4)] (V.tup [(V.agg (q0d (r.1))),(bV (r.2.1)),(iV (r.2.2))]):=by
 refine pin (fun r=>(V.tup [(V.agg (q0d (r.1))),(bV (r.2.1)),(iV (r.2.2))])) r rfl Tryz.func29 rfl rfl rfl rfl rfl (fun w0 m0 hg=>?_)
 unfold M29 at h
 refine rn 14 rfl ?_
 refine q9e [(0,(sV a4))] [[(sV a4)]] z7c tZ9 rfl rfl rfl rfl q7a (q7g rfl q5i) rfl rfl (by simp) rfl ?_
 obtain⟨y5,hx6,h⟩:=bind_some h
 refine q6p (iV y5) [(V.agg (q3d a1)),(iV a2),(V.lst 1 (a3.map q6f)),(V.lst 1 (([a4]:List B8).map q6f))] w3t (z0t 2 30 rfl (q7j (.cons (.cons (Imm.con _) .nil) .nil)) rfl rfl) (v9v.con _) q7a (q4f rfl (q4f rfl (q4f rfl (q4f rfl q8k)))) (.cons (Imm.agg (q1y _)) (.cons (Imm.con _) (.cons (Imm.lst _ _) (.cons (Imm.lst _ _) .nil)))) (W101 F a1 a2 a3 ([a4]:List B8) y5 hx6) rfl ?_
 refine fo (rn 7 rfl ?_)
 refine spC h rfl (fun hb7 h=>?_) (fun hb7 h=>?_)
 ·refine rn 8 rfl ?_
  exact rt h rfl
 refine rn 5 rfl ?_
 refine cl h rfl rfl rfl (W83 _ _ _) rfl (fun y8 hx9 h=>?_)
 refine rn 7 rfl ?_
 refine cl h rfl rfl rfl (W102 _ _ _) rfl (fun y10 hx11 h=>?_)
 refine rn 9 rfl ?_
 refine q7d _ (bV false) (bV ((q6b y10.reached a4).getD false)) q4j q6h j4m (q9f _) q7a rfl .imm (.con rfl) ⟨_,rfl⟩ q7e (q3h y10.reached a4) (q1f (q5g) (q6b y10.reached a4) false) rfl ?_
 refine fo (rn 2 rfl ?_)
 refine spC h rfl (fun hb12 h=>?_) (fun hb12 h=>?_)
 ·refine rn 7 rfl ?_
  exact rt h rfl
 refine rn 7 rfl ?_
 refine cl h rfl rfl rfl (W103 _ _ _ _ _) rfl (fun y13 hx14 h=>?_)
 refine rn 13 rfl ?_
 refine ln rfl rfl ?_
 refine rn 2 rfl ?_
 refine jK h (fun(p:B8)=>(⟨[(1,(iV a2)),(3,(sV a4)),(8,(V.ptr 0 3 0 0)),(12,(V.ptr 1 6 0 0)),(13,(V.ptr 2 2 0 0)),(14,(V.imap (y13.map q9d))),(15,(V.ptr 3 3 0 0))],[(0,(Ob.arr 61 3 [[(sV ([]:B8)),nV,nV]])),(1,(Ob.arr 155 6 [(q3a y8)])),(2,(Ob.arr 193 2 [(q8a y10)])),(3,(Ob.arr 61 3 [[(sV p),nV,nV]]))],4⟩:St)) (fun k15 p=>k15 p=some r) (fun k15 h=>?_) ?_
 ·refine rn 1 rfl ?_
  refine wl (A:=a1.Entries) 55 rfl (fun hA31=>?_)
  refine lC (fun(p:Int×B8)=>(⟨[(1,(iV a2)),(3,(sV a4)),(8,(V.ptr 0 3 0 0)),(12,(V.ptr 1 6 0 0)),(13,(V.ptr 2 2 0 0)),(14,(V.imap (y13.map q9d))),(15,(V.ptr 3 3 0 0)),(55,(V.lst 1 (a1.Entries.map q6f))),(56,(iV ((a1.Entries.length:Nat):Int))),(57,(iV (p.1)))],[(0,(Ob.arr 61 3 [[(sV ([]:B8)),nV,nV]])),(1,(Ob.arr 155 6 [(q3a y8)])),(2,(Ob.arr 193 2 [(q8a y10)])),(3,(Ob.arr 61 3 [[(sV (p.2)),nV,nV]]))],4⟩:St)) (fun n p=>RG a1.Entries (fun tl nn=>z6r F y13 k15 tl p.2=some r) n p.1) (fun p h=>RG.zero h) (a1.Entries.length+1) (0,([]:B8)) (RG.start h) (gr [1,3,4,5] rfl (hB rfl rfl rfl (hB rfl rfl rfl (hB rfl rfl rfl (hB rfl rfl rfl .nil)))) rfl) (fun n p h=>?_)
  obtain⟨n19,s20⟩:=p
  refine rn 5 rfl ?_
  refine spL rfl (fun hb21=>?_) (fun hb21=>?_)
  ·obtain⟨x24,tl,hx25,h,hk1⟩:=RG.t hA31 h hb21
   unfold z6r at h
   refine rn 2 rfl ?_
   refine jK h (fun(p:B8)=>(⟨[(1,(iV a2)),(3,(sV a4)),(8,(V.ptr 0 3 0 0)),(12,(V.ptr 1 6 0 0)),(13,(V.ptr 2 2 0 0)),(14,(V.imap (y13.map q9d))),(15,(V.ptr 3 3 0 0)),(55,(V.lst 1 (a1.Entries.map q6f))),(56,(iV ((a1.Entries.length:Nat):Int))),(57,(iV n19))],[(0,(Ob.arr 61 3 [[(sV ([]:B8)),nV,nV]])),(1,(Ob.arr 155 6 [(q3a y8)])),(2,(Ob.arr 193 2 [(q8a y10)])),(3,(Ob.arr 61 3 [[(sV p),nV,nV]]))],4⟩:St)) (fun k22 p=>k22 p=some r) (fun k22 h=>?_) ?_
   ·refine rn 3 rfl ?_
    refine ixh hx25 rfl rfl ?_
    refine rn 7 rfl ?_
    refine q5h _ (iV 0) (iV ((q6b y13 x24).getD 0)) q1o q6h j5m (q9f _) q7a rfl .imm (.con rfl) ⟨_,rfl⟩ q7f (q8g y13 x24) (q1f (q1g) (q6b y13 x24) 0) (q6m ..) rfl ?_
    refine fo (rn 10 rfl ?_)
    refine spO 68 h rfl (fun hb26 h=>?_) (fun hb26 h=>?_)
    ·refine rn 4 rfl ?_
     refine spO 72 h rfl (fun hb27 h=>?_) (fun hb27 h=>?_)
     ·refine rn 16 rfl ?_
      exact jX x24 h (gr [0,1,2,3] rfl (hB rfl rfl rfl (hB rfl rfl rfl (hB rfl rfl rfl (hB rfl rfl rfl .nil)))) rfl)
     refine rn 4 rfl ?_
     refine q7d _ (iV 0) (iV ((q6b y13 s20).getD 0)) q1o q6h j5m (q9f _) (q4i (c:=false) (b:=false) 72 rfl rfl rfl) rfl .imm (.con rfl) ⟨_,rfl⟩ q7f (q8g y13 s20) (q1f (q1g) (q6b y13 s20) 0) rfl ?_
     refine fo (rn 4 rfl ?_)
     refine jK h (fun(p:B8)=>(⟨[(1,(iV a2)),(3,(sV a4)),(8,(V.ptr 0 3 0 0)),(12,(V.ptr 1 6 0 0)),(13,(V.ptr 2 2 0 0)),(14,(V.imap (y13.map q9d))),(15,(V.ptr 3 3 0 0)),(55,(V.lst 1 (a1.Entries.map q6f))),(56,(iV ((a1.Entries.length:Nat):Int))),(57,(iV n19)),(78,(bV (decide (((q6b y13 x24).getD 0)<((q6b y13 s20).getD 0))))),(79,(bV (decide (((q6b y13 x24).getD 0)<((q6b y13 s20).getD 0)))))],[(0,(Ob.arr 61 3 [[(sV ([]:B8)),nV,nV]])),(1,(Ob.arr 155 6 [(q3a y8)])),(2,(Ob.arr 193 2 [(q8a y10)])),(3,(Ob.arr 61 3 [[(sV p),nV,nV]]))],4⟩:St)) (fun k28 p=>k28 p=some r) (fun k28 h=>?_) ?_
     ·refine spC h rfl (fun hb30 h=>?_) (fun hb30 h=>?_)
      ·refine rn 5 rfl ?_
       exact jX x24 h (gr [0,1,2,3] rfl (hB rfl rfl rfl (hB rfl rfl rfl (hB rfl rfl rfl (hB rfl rfl rfl .nil)))) rfl)
      refine rn 1 rfl ?_
      exact jX s20 h (gr [0,1,2,3] rfl (hB rfl rfl rfl (hB rfl rfl rfl (hB rfl rfl rfl (hB rfl rfl rfl .nil)))) rfl)
     intro s29 h
     refine rn 1 rfl ?_
     exact jX s29 h (gr [0,1,2,3] rfl (hB rfl rfl rfl (hB rfl rfl rfl (hB rfl rfl rfl (hB rfl rfl rfl .nil)))) rfl)
    refine rn 16 rfl ?_
    exact jX s20 h (gr [0,1,2,3] rfl (hB rfl rfl rfl (hB rfl rfl rfl (hB rfl rfl rfl (hB rfl rfl rfl .nil)))) rfl)
   intro s23 h
   refine rn 4 rfl ?_
   exact jX ((w64 (n19+1)),s23) (hk1 _ h) (gr [0,1,2,3] rfl (hB rfl rfl rfl (hB rfl rfl rfl (hB rfl rfl rfl (hB rfl rfl rfl .nil)))) rfl)
  replace h:=RG.f h hb21
  unfold z6r at h
  refine rn 1 rfl ?_
  exact jX s20 h (gr [0,1,2,3] rfl (hB rfl rfl rfl (hB rfl rfl rfl (hB rfl rfl rfl (hB rfl rfl rfl .nil)))) rfl)
 intro s16 h
 refine rn 12 rfl ?_
 refine jK h (fun(p:(List (B8×Bool))×(List q5j))=>(⟨[(8,(V.ptr 0 3 0 0)),(12,(V.ptr 1 6 0 0)),(13,(V.ptr 2 2 0 0)),(15,(V.ptr 3 3 0 0)),(20,(V.map 4))],[(0,(Ob.arr 61 3 [[(sV ([]:B8)),nV,nV]])),(1,(Ob.arr 155 6 [(q3a y8)])),(2,(Ob.arr 193 2 [(q8a y10)])),(3,(Ob.arr 61 3 [[(sV s16),(V.own 5 (p.2).length),nV]])),(4,(Ob.map ((p.1).map q5b))),(5,(Ob.arr 80 3 ((p.2).map q3c)))],6⟩:St)) (fun k32 p=>k32 p.1 p.2=some r) (fun k32 h=>?_) ?_
 ·refine rn 1 rfl ?_
  refine lC (fun(p:B8×(List (B8×Bool))×(List q5j))=>(⟨[(1,(iV a2)),(3,(sV a4)),(8,(V.ptr 0 3 0 0)),(12,(V.ptr 1 6 0 0)),(13,(V.ptr 2 2 0 0)),(14,(V.imap (y13.map q9d))),(15,(V.ptr 3 3 0 0)),(20,(V.map 4)),(21,(sV (p.1)))],[(0,(Ob.arr 61 3 [[(sV ([]:B8)),nV,nV]])),(1,(Ob.arr 155 6 [(q3a y8)])),(2,(Ob.arr 193 2 [(q8a y10)])),(3,(Ob.arr 61 3 [[(sV s16),(V.own 5 (p.2.2).length),nV]])),(4,(Ob.map ((p.2.1).map q5b))),(5,(Ob.arr 80 3 ((p.2.2).map q3c)))],6⟩:St)) (fun n p=>z3l F a2 a4 y8 y10 y13 k32 n p.1 p.2.1 p.2.2=some r) (fun p h=>by simp[z3l] at h) F (s16,([]:List (B8×Bool)),([]:List q5j)) h (q8h.trans (q7r 3 80 3 (Ob.arr 61 3 [[(sV s16),(V.own 5 0),nV]]) (q4b.box (.cons Sub.keepNil (.cons Sub.mkNil (.cons Sub.keepNil .nil))))) (q9g 6 (fun i=>([0,1,2,3,4,5]:List Nat).getD i 0) _ _ (by decide) (q9k.get (.cons (Sub.imm (Imm.con _)) (.cons (Sub.imm (Imm.con _)) (.cons (Sub.ptr rfl rfl) (.cons (Sub.ptr rfl rfl) (.cons (Sub.ptr rfl rfl) (.cons (Sub.imm (Imm.imap _)) (.cons (Sub.ptr rfl rfl) (.cons (Sub.map rfl rfl) (.cons (Sub.imm (Imm.con _)) .nil)))))))))) (q6i.get (.cons rfl (q4b.box (.cons (Sub.imm (Imm.con _)) (.cons (Sub.imm (Imm.con _)) (.cons (Sub.imm (Imm.con _)) .nil)))) (.cons rfl (q4b.box (.cons (Sub.imm (Imm.lst _ _)) (.cons (Sub.imm (Imm.lst _ _)) (.cons (Sub.imm (Imm.lst _ _)) (.cons (Sub.imm (Imm.lst _ _)) (.cons (Sub.imm (Imm.imap _)) (.cons (Sub.imm (Imm.imap _)) .nil))))))) (.cons rfl (q4b.box (.cons (Sub.imm (Imm.imap _)) (.cons (Sub.imm (Imm.imap _)) .nil))) (.cons rfl (q4b.box (.cons (Sub.imm (Imm.con _)) (.cons (Sub.ownE rfl rfl (by simp)) (.cons (Sub.imm (Imm.con _)) .nil)))) (.cons rfl (q4b.maps q0m) (.cons rfl (q4b.rows (q3b q7h)) .nil))))))) rfl)) (fun n p h=>?_)
  obtain⟨s38,m39,l40⟩:=p
  unfold z3l at h
  refine rn 7 rfl ?_
  refine spC h rfl (fun hb41 h=>?_) (fun hb41 h=>?_)
  ·refine rn 9 rfl ?_
   refine cl h rfl rfl rfl (W104 _ _ _ _ _ _) rfl (fun y42 hx43 h=>?_)
   refine rn 12 rfl ?_
   refine q9e [(0,(V.agg (q3c (y42.1))))] [(q3c (y42.1))] v2y tZ80 rfl rfl rfl rfl q7a (q7g rfl q5i) rfl rfl (by simp) rfl ?_
   refine fo ?_
   refine apO q3c h rfl rfl rfl rfl rfl rfl rfl rfl (fun h=>?_)
   refine rn 9 rfl ?_
   refine spO 107 h rfl (fun hb45 h=>?_) (fun hb45 h=>?_)
   ·refine rn 4 rfl ?_
    refine jK h (fun(p:(List (B8×Bool)))=>(⟨[(1,(iV a2)),(3,(sV a4)),(8,(V.ptr 0 3 0 0)),(12,(V.ptr 1 6 0 0)),(13,(V.ptr 2 2 0 0)),(14,(V.imap (y13.map q9d))),(15,(V.ptr 3 3 0 0)),(20,(V.map 4)),(22,(V.ptr 5 3 0 0)),(109,(bV (!((y42.2)==([]:B8)))))],[(0,(Ob.arr 61 3 [[(sV ([]:B8)),nV,nV]])),(1,(Ob.arr 155 6 [(q3a y8)])),(2,(Ob.arr 193 2 [(q8a y10)])),(3,(Ob.arr 61 3 [[(sV s16),(V.own 6 (l40++([(y42.1)]:List q5j)).length),nV]])),(4,(Ob.map (p.map q5b))),(5,(Ob.arr 80 3 [(q3c (y42.1))])),(6,(Ob.arr 80 3 ((l40++([(y42.1)]:List q5j)).map q3c)))],7⟩:St)) (fun k46 p=>k46 p=some r) (fun k46 h=>?_) ?_
    ·refine spC h rfl (fun hb48 h=>?_) (fun hb48 h=>?_)
     ·refine rn 3 rfl ?_
      refine q3f (es:=m39.map q5b) ((q0g m39 (y42.2) true).map q5b) q4j q6h q7a rfl rfl (.con rfl) ⟨_,rfl⟩ q7e rfl (q1i m39 (y42.2) true) ?_
      refine fo (rn 1 rfl ?_)
      exact jX (q0g m39 (y42.2) true) h (gr [0,1,2,3,4,6,8] rfl (hB rfl rfl rfl (hB rfl rfl rfl (hB rfl rfl rfl (hB rfl rfl rfl (hM rfl rfl (hB rfl rfl rfl (hR rfl rfl .nil))))))) rfl)
     refine rn 1 rfl ?_
     exact jX m39 h (gr [0,1,2,3,4,6,8] rfl (hB rfl rfl rfl (hB rfl rfl rfl (hB rfl rfl rfl (hB rfl rfl rfl (hM rfl rfl (hB rfl rfl rfl (hR rfl rfl .nil))))))) rfl)
    intro m47 h
    refine rn 6 rfl ?_
    exact jX ((y42.1).To,m47,(l40++([(y42.1)]:List q5j))) h (gr [0,1,2,3,4,6] rfl (hB rfl rfl rfl (hB rfl rfl rfl (hB rfl rfl rfl (hB rfl rfl rfl (hM rfl rfl (hR rfl rfl .nil)))))) rfl)
   refine rn 12 rfl ?_
   exact jX ((y42.1).To,m39,(l40++([(y42.1)]:List q5j))) h (gr [0,1,2,3,4,8] rfl (hB rfl rfl rfl (hB rfl rfl rfl (hB rfl rfl rfl (hB rfl rfl rfl (hM rfl rfl (hR rfl rfl .nil)))))) rfl)
  refine rn 1 rfl ?_
  exact jX (m39,l40) h (gr [0,1,2,3,4,5] rfl (hB rfl rfl rfl (hB rfl rfl rfl (hB rfl rfl rfl (hB rfl rfl rfl (hM rfl rfl (hR rfl rfl .nil)))))) rfl)
 rintro⟨m33,l34⟩ h
 obtain⟨y49,hx50,h⟩:=bind_some h
 refine rn 4 rfl ?_
 refine q8f (q0w (es:=m33.map q5b) 4 rfl q0m (.put (t:=115) rfl Sub.frzM (.put (t:=20) rfl Sub.frzM .refl)) .refl) ?_
 refine j6f (V.lst 1 (y49.map q6f)) [(V.imap (m33.map q5b))] fOk105 q7a (q4f rfl q8k) (.cons (Imm.imap _) .nil) (W105 F m33 y49 hx50) rfl ?_
 refine fo ?_
 refine ln rfl rfl ?_
 refine rn 2 rfl ?_
 refine jK h (fun(p:(List q0c))=>(⟨[(8,(V.ptr 0 3 0 0)),(15,(V.ptr 1 3 0 0))],[(0,(Ob.arr 61 3 [[(sV ([]:B8)),nV,nV]])),(1,(Ob.arr 61 3 [[(sV s16),(V.own 2 l34.length),(V.own 3 p.length)]])),(2,(Ob.arr 80 3 (l34.map q3c))),(3,(Ob.arr 76 2 (p.map q9b)))],4⟩:St)) (fun k51 p=>k51 p=some r) (fun k51 h=>?_) ?_
 ·refine rn 1 rfl ?_
  refine wl (A:=y49) 116 rfl (fun hA63=>?_)
  refine lC (fun(p:Int×(List q0c))=>(⟨[(8,(V.ptr 0 3 0 0)),(12,(V.ptr 1 6 0 0)),(13,(V.ptr 2 2 0 0)),(15,(V.ptr 3 3 0 0)),(116,(V.lst 1 (y49.map q6f))),(117,(iV ((y49.length:Nat):Int))),(118,(iV (p.1)))],[(0,(Ob.arr 61 3 [[(sV ([]:B8)),nV,nV]])),(1,(Ob.arr 155 6 [(q3a y8)])),(2,(Ob.arr 193 2 [(q8a y10)])),(3,(Ob.arr 61 3 [[(sV s16),(V.own 4 l34.length),(V.own 5 (p.2).length)]])),(4,(Ob.arr 80 3 (l34.map q3c))),(5,(Ob.arr 76 2 ((p.2).map q9b)))],6⟩:St)) (fun n p=>RG y49 (fun tl nn=>z2l F y8 y10 k51 tl p.2=some r) n p.1) (fun p h=>RG.zero h) (y49.length+1) (0,([]:List q0c)) (RG.start h) (q8h.trans (q7r 3 76 2 (Ob.arr 61 3 [[(sV s16),(V.own 5 l34.length),(V.own 6 0)]]) (q4b.box (.cons Sub.keepNil (.cons Sub.keepNil (.cons Sub.mkNil .nil))))) (q9g 6 (fun i=>([0,1,2,3,5,6]:List Nat).getD i 0) _ _ (by decide) (q9k.get (.cons (Sub.ptr rfl rfl) (.cons (Sub.ptr rfl rfl) (.cons (Sub.ptr rfl rfl) (.cons (Sub.ptr rfl rfl) (.cons (Sub.imm (Imm.lst _ _)) (.cons (Sub.imm (Imm.con _)) (.cons (Sub.imm (Imm.con _)) .nil)))))))) (q6i.get (.cons rfl (q4b.box (.cons (Sub.imm (Imm.con _)) (.cons (Sub.imm (Imm.con _)) (.cons (Sub.imm (Imm.con _)) .nil)))) (.cons rfl (q4b.box (.cons (Sub.imm (Imm.lst _ _)) (.cons (Sub.imm (Imm.lst _ _)) (.cons (Sub.imm (Imm.lst _ _)) (.cons (Sub.imm (Imm.lst _ _)) (.cons (Sub.imm (Imm.imap _)) (.cons (Sub.imm (Imm.imap _)) .nil))))))) (.cons rfl (q4b.box (.cons (Sub.imm (Imm.imap _)) (.cons (Sub.imm (Imm.imap _)) .nil))) (.cons rfl (q4b.box (.cons (Sub.imm (Imm.con _)) (.cons (Sub.own rfl rfl) (.cons (Sub.ownE rfl rfl (by simp)) .nil)))) (.cons rfl (q4b.rows (q3b q7h)) (.cons rfl (q4b.rows (q3b q1h)) .nil))))))) rfl)) (fun n p h=>?_)
  obtain⟨n55,l56⟩:=p
  refine rn 5 rfl ?_
  refine spL rfl (fun hb57=>?_) (fun hb57=>?_)
  ·obtain⟨x58,tl,hx59,h,hk3⟩:=RG.t hA63 h hb57
   unfold z2l at h
   refine rn 5 rfl ?_
   refine ixh hx59 rfl rfl ?_
   obtain⟨y60,hx61,h⟩:=bind_some h
   refine rn 3 rfl ?_
   refine ck h (fun hc62 h=>?_)
   refine q0e q8j ?_
   refine fa ?_
   refine dr mixed (vs 6 rfl (cD rfl rfl rfl rfl (W106 _ _ _ _ _ hx61) rfl (vs 1 rfl (xD (OD.mk [(129,(V.agg [(sV x58),(sV y60)]))] [] [(130,(V.lst 2 (([(q0c.mk x58 y60)]:List q0c).map q9b)))] []) ⟨⟨rfl,trivial⟩,trivial⟩ (by exact fun S hn h hh=>q6g [(0,(V.agg [(sV x58),(sV y60)]))] [[(sV x58),(sV y60)]] v1y tZ76 q7a rfl rfl rfl rfl (q7g h.1 q5i) rfl rfl (by simp) (q7j (.cons (.cons (Imm.con _) (.cons (Imm.con _) .nil)) .nil)) rfl (q8d ⟨rfl,rfl⟩)) rfl (xD (OD.mk [(123,(V.own 5 l56.length)),(130,(V.lst 2 (([(q0c.mk x58 y60)]:List q0c).map q9b)))] [(5,(Ob.arr 76 2 (l56.map q9b))),(6,Ob.res)] [(131,(V.own 6 (l56++([(q0c.mk x58 y60)]:List q0c)).length))] [(6,(Ob.arr 76 2 ((l56++([(q0c.mk x58 y60)]:List q0c)).map q9b))),(5,Ob.dead)]) ⟨⟨rfl,rfl,trivial⟩,⟨rfl,rfl,trivial⟩⟩ (by exact fun S hn h hh=>q7k 6 rfl hn hh.2.1 (([(q0c.mk x58 y60)]:List q0c).map q9b) ((l56++([(q0c.mk x58 y60)]:List q0c)).map q9b) v1y v2h rfl rfl q7a h.1 hh.1 (by simp) h.2.1 (.lst (q0s z2k)) (q1s q9b l56 ([(q0c.mk x58 y60)]:List q0c)) (List.length_map ..) hc62 rfl (q8d ⟨rfl,rfl⟩)) rfl (vs 2 rfl .nil)))))) (by kernel_rfl) ?_
   refine rn 5 rfl ?_
   exact jX ((w64 (n55+1)),(l56++([(q0c.mk x58 y60)]:List q0c))) (hk3 _ h) (gr [0,1,2,3,4,6] rfl (hB rfl rfl rfl (hB rfl rfl rfl (hB rfl rfl rfl (hB rfl rfl rfl (hR rfl rfl (hR rfl rfl .nil)))))) rfl)
  replace h:=RG.f h hb57
  unfold z2l at h
  refine rn 1 rfl ?_
  exact jX l56 h (gr [0,3,4,5] rfl (hB rfl rfl rfl (hB rfl rfl rfl (hR rfl rfl (hR rfl rfl .nil)))) rfl)
 intro l52 h
 refine rn 7 rfl ?_
 refine q0e (q7m 2 0 (Ob.arr 61 3 [[(sV s16),(V.lst 3 (l34.map q3c)),(V.own 3 l52.length)]]) rfl (q3b q7h) (q4b.box (.cons Sub.keep (.cons (Sub.frzAll (rows:=l34.map q3c) (List.length_map ..).symm) (.cons Sub.keep .nil))))) ?_
 refine q0e (q7m 3 0 (Ob.arr 61 3 [[(sV s16),(V.lst 3 (l34.map q3c)),(V.lst 2 (l52.map q9b))]]) rfl (q3b q1h) (q4b.box (.cons Sub.keep (.cons Sub.keep (.cons (Sub.frzAll (rows:=l52.map q9b) (List.length_map ..).symm) .nil))))) ?_
 refine fa ?_
 exact rt h rfl
theorem W25(F:Nat)(a1:q7c)(a2:Int)(a3:(List B8))(r:((List B8)×Int))(h:M25 F a1 a2 a3=some r):q5n Tryz.prog 25 [(V.agg (q3d a1)),(iV a2),(V.lst 1 (a3.map q6f))] (V.tup [(V.lst 1 ((r.1).map q6f)),(iV (r.2))]):=by
 refine pin (fun r=>(V.tup [(V.lst 1 ((r.1).map q6f)),(iV (r.2))])) r rfl Tryz.func25 rfl rfl rfl rfl rfl (fun w0 m0 hg=>?_)
 unfold M25 at h
 refine rn 11 rfl ?_
 refine cl h rfl rfl rfl (W78 _ _ _ _) rfl (fun y4 hx5 h=>?_)
 refine rn 12 rfl ?_
 refine spC h rfl (fun hb6 h=>?_) (fun hb6 h=>?_)
 ·refine rn 6 rfl ?_
  exact rt h rfl
 obtain⟨x7,hx8,h⟩:=bind_some h
 refine rn 7 rfl ?_
 refine opC 8 hx8 rfl ?_
 refine rn 2 rfl ?_
 refine cl h rfl rfl rfl (W89 _ _ _) rfl (fun y9 hx10 h=>?_)
 obtain⟨x11,hx12,h⟩:=bind_some h
 refine opO 24 hx12 rfl ?_
 refine rn 3 rfl ?_
 refine ln rfl rfl ?_
 refine rn 2 rfl ?_
 refine jK h (fun(p:(List B8))=>(⟨[(10,(V.own 0 p.length))],[(0,(Ob.arr 9 1 (p.map q6f)))],1⟩:St)) (fun k13 p=>k13 p=some r) (fun k13 h=>?_) ?_
 ·refine rn 1 rfl ?_
  refine wl (A:=x11.funcs) 27 rfl (fun hA28=>?_)
  refine lC (fun(p:Int×(List B8))=>(⟨[(3,(V.ptr 0 4 0 0)),(10,(V.own 1 (p.2).length)),(27,(V.lst 1 (x11.funcs.map q9h))),(28,(iV ((x11.funcs.length:Nat):Int))),(29,(iV (p.1)))],[(0,(Ob.arr 27 4 [(q3d a1)])),(1,(Ob.arr 9 1 ((p.2).map q6f)))],2⟩:St)) (fun n p=>RG x11.funcs (fun tl nn=>v0g F a1 k13 tl nn p.2=some r) n p.1) (fun p h=>RG.zero h) (x11.funcs.length+1) (0,([]:List B8)) (RG.start h) (q8h.trans (q7n 10 9 1 rfl) (q9g 2 (fun i=>([0,1]:List Nat).getD i 0) _ _ (by decide) (q9k.get (.cons (Sub.ptr rfl rfl) (.cons (Sub.ownE rfl rfl (by simp)) (.cons (Sub.imm (Imm.lst _ _)) (.cons (Sub.imm (Imm.con _)) (.cons (Sub.imm (Imm.con _)) .nil)))))) (q6i.get (.cons rfl (q4b.box (.cons (Sub.imm (Imm.lst _ _)) (.cons (Sub.imm (Imm.lst _ _)) (.cons (Sub.imm (Imm.lst _ _)) (.cons (Sub.imm (Imm.lst _ _)) .nil))))) (.cons rfl (q4b.rows (q3b q8s)) .nil))) rfl)) (fun n p h=>?_)
  obtain⟨n17,l18⟩:=p
  refine rn 5 rfl ?_
  refine spL rfl (fun hb19=>?_) (fun hb19=>?_)
  ·obtain⟨x20,tl,hx21,h,hk1⟩:=RG.t hA28 h hb19
   unfold v0g at h
   refine rn 6 rfl ?_
   refine ixh hx21 rfl rfl ?_
   refine rn 8 rfl ?_
   refine jK h (fun(p:(List B8))=>(⟨[(3,(V.ptr 0 4 0 0)),(10,(V.own 1 p.length)),(27,(V.lst 1 (x11.funcs.map q9h))),(28,(iV ((x11.funcs.length:Nat):Int))),(29,(iV n17))],[(0,(Ob.arr 27 4 [(q3d a1)])),(1,(Ob.arr 9 1 (p.map q6f)))],2⟩:St)) (fun k22 p=>k22 p=some r) (fun k22 h=>?_) ?_
   ·refine spC h rfl (fun hb24 h=>?_) (fun hb24 h=>?_)
    ·refine rn 5 rfl ?_
     refine ixl h rfl rfl (fun x25 hx26 h=>?_)
     refine rn 2 rfl ?_
     refine q9e [(0,(sV x25.Name))] [[(sV x25.Name)]] z7c tZ9 rfl rfl rfl rfl q7a (q7g rfl q5i) rfl rfl (by simp) rfl ?_
     refine fo ?_
     refine apO q6f h rfl rfl rfl rfl rfl rfl rfl rfl (fun h=>?_)
     refine rn 2 rfl ?_
     exact jX (l18++([x25.Name]:List B8)) h (gr [0,3] rfl (hB rfl rfl rfl (hR rfl rfl .nil)) rfl)
    refine rn 1 rfl ?_
    exact jX l18 h (gr [0,1] rfl (hB rfl rfl rfl (hR rfl rfl .nil)) rfl)
   intro l23 h
   refine rn 5 rfl ?_
   exact jX ((w64 (n17+1)),l23) (hk1 _ h) (gr [0,1] rfl (hB rfl rfl rfl (hR rfl rfl .nil)) rfl)
  replace h:=RG.f h hb19
  unfold v0g at h
  refine rn 1 rfl ?_
  exact jX l18 h (gr [1] rfl (hR rfl rfl .nil) rfl)
 intro l14 h
 refine rn 6 rfl ?_
 refine q0e (q8l 0 [6,10,45] rfl (q3b q8s) (List.forall_mem_cons.2 ⟨rfl,(List.forall_mem_cons.2 ⟨rfl,(List.forall_mem_cons.2 ⟨rfl,(fun _ hx=>nomatch hx)⟩)⟩)⟩) (List.length_map ..).symm) ?_
 refine fa ?_
 exact rt h rfl
theorem W26(F:Nat)(a1:(List B8))(a2:(List B8))(r:Bool)(h:M26 F a1 a2=some r):q5n Tryz.prog 26 [(V.lst 1 (a1.map q6f)),(V.lst 1 (a2.map q6f))] (bV r):=by
 refine pin (fun r=>(bV r)) r rfl Tryz.func26 rfl rfl rfl rfl rfl (fun w0 m0 hg=>?_)
 unfold M26 at h
 refine rn 8 rfl ?_
 refine ln rfl rfl ?_
 refine rn 1 rfl ?_
 refine ln rfl rfl ?_
 refine rn 2 rfl ?_
 refine spC h rfl (fun hb3 h=>?_) (fun hb3 h=>?_)
 ·refine rn 4 rfl ?_
  exact rt h rfl
 refine rn 5 rfl ?_
 refine ln rfl rfl ?_
 refine rn 2 rfl ?_
 refine jK h (fun _:Unit=>(⟨[],[],0⟩:St)) (fun k4 (_:Unit)=>k4=some r) (fun k4 h=>?_) ?_
 ·refine rn 1 rfl ?_
  refine wl (A:=a1) 0 rfl (fun hA13=>?_)
  refine lC (fun(p:Int)=>(⟨[(0,(V.lst 1 (a1.map q6f))),(1,(V.lst 1 (a2.map q6f))),(12,(iV ((a1.length:Nat):Int))),(13,(iV p))],[],0⟩:St)) (fun n p=>RG a1 (fun tl nn=>v9f F a2 k4 tl nn=some r) n p) (fun p h=>RG.zero h) (a1.length+1) 0 (RG.start h) (g0 rfl rfl) (fun n n6 h=>?_)
  refine rn 5 rfl ?_
  refine spL rfl (fun hb7=>?_) (fun hb7=>?_)
  ·obtain⟨x8,tl,hx9,h,hk1⟩:=RG.t hA13 h hb7
   unfold v9f at h
   obtain⟨x10,hx11,h⟩:=bind_some h
   refine rn 9 rfl ?_
   refine dr mixed (vs 2 rfl (iD hx9 rfl rfl rfl (vs 3 rfl (iD hx11 rfl rfl rfl (vs 2 rfl .nil))))) (by kernel_rfl) ?_
   refine spC h rfl (fun hb12 h=>?_) (fun hb12 h=>?_)
   ·refine rn 4 rfl ?_
    exact rt h rfl
   refine rn 6 rfl ?_
   exact jX (w64 (n6+1)) (hk1 _ h) (g0 rfl rfl)
  replace h:=RG.f h hb7
  unfold v9f at h
  refine rn 1 rfl ?_
  exact jX () h (g0 rfl rfl)
 intro _ h
 refine rn 4 rfl ?_
 exact rt h rfl
set_option maxHeartbeats 4000000 in
theorem W14(F:Nat)(r:Bool)(h:M14 F  = some r):q5n Tryz.prog 14 [] (bV r):=by
 refine pin (fun r=>(bV r)) r rfl Tryz.func14 rfl rfl rfl rfl rfl (fun w0 m0 hg=>?_)
 unfold M14 at h
 refine rn 7 rfl ?_
 refine q9e [(0,(V.agg [(iV 1),(sV ([98]:B8)),(sV ([]:B8)),(sV ([]:B8))]))] [[(iV 1),(sV ([98]:B8)),(sV ([]:B8)),(sV ([]:B8))]] tEl92 w6v rfl rfl rfl rfl q7a (q7g rfl q5i) rfl rfl (by simp) rfl ?_
 refine fo (rn 2 rfl ?_)
 refine q8f (z9s 0 6 (V.agg [(sV ([97]:B8)),(sV ([120]:B8)),(V.lst 4 (([(q6c.mk 1 ([98]:B8) ([]:B8) ([]:B8))]:List q6c).map q6d)),nV]) rfl (q7j (.cons (.cons (Imm.con _) (.cons (Imm.con _) (.cons (Imm.con _) (.cons (Imm.con _) .nil)))) .nil)) rfl (Sub.agg (.cons Sub.keep (.cons Sub.keep (.cons (Sub.frzAll (rows:=([(q6c.mk 1 ([98]:B8) ([]:B8) ([]:B8))]:List q6c).map q6d) rfl) (.cons Sub.keep .nil)))))) ?_
 refine q8f (q0q 6 (V.agg [(sV ([97]:B8)),(sV ([120]:B8)),(V.lst 4 (([(q6c.mk 1 ([98]:B8) ([]:B8) ([]:B8))]:List q6c).map q6d)),(V.lst 1 (([]:List B8).map q6f))]) rfl (Sub.agg (.cons Sub.keepI (.cons Sub.keepI (.cons Sub.keepI (.cons (Sub.nil _) .nil)))))) ?_
 refine q8f (q0q 7 (V.agg [(sV ([98]:B8)),(sV ([121]:B8)),(V.lst 4 (([]:List q6c).map q6d)),(V.lst 1 (([]:List B8).map q6f))]) rfl (Sub.agg (.cons Sub.keepI (.cons Sub.keepI (.cons (Sub.nil _) (.cons (Sub.nil _) .nil)))))) ?_
 refine q9e [(0,(V.agg [(sV ([97]:B8)),(sV ([120]:B8)),(V.lst 4 (([(q6c.mk 1 ([98]:B8) ([]:B8) ([]:B8))]:List q6c).map q6d)),(V.lst 1 (([]:List B8).map q6f))])),(1,(V.agg [(sV ([98]:B8)),(sV ([121]:B8)),(V.lst 4 (([]:List q6c).map q6d)),(V.lst 1 (([]:List B8).map q6f))]))] [[(sV ([97]:B8)),(sV ([120]:B8)),(V.lst 4 (([(q6c.mk 1 ([98]:B8) ([]:B8) ([]:B8))]:List q6c).map q6d)),(V.lst 1 (([]:List B8).map q6f))],[(sV ([98]:B8)),(sV ([121]:B8)),(V.lst 4 (([]:List q6c).map q6d)),(V.lst 1 (([]:List B8).map q6f))]] tEl24 tZ94 rfl rfl rfl rfl q7a (q7g rfl (q7g rfl q5i)) rfl rfl (by simp) rfl ?_
 refine q9e [(0,(sV ([97]:B8)))] [[(sV ([97]:B8))]] z7c tZ9 rfl rfl rfl rfl q7a (q7g rfl q5i) rfl rfl (by simp) rfl ?_
 refine bk h (fun y1 hx2 h=>?_)
 refine fo (rn 7 rfl ?_)
 refine q8f (z9s 1 12 (V.agg [nV,nV,(V.lst 4 (([(q5e.mk ([97]:B8) ([120]:B8) ([(q6c.mk 1 ([98]:B8) ([]:B8) ([]:B8))]:List q6c) ([]:List B8)),(q5e.mk ([98]:B8) ([121]:B8) ([]:List q6c) ([]:List B8))]:List q5e).map q8c)),(V.own 2 1)]) rfl (q7j (.cons (.cons (Imm.con _) (.cons (Imm.con _) (.cons (Imm.lst _ _) (.cons (Imm.lst _ _) .nil)))) (.cons (.cons (Imm.con _) (.cons (Imm.con _) (.cons (Imm.lst _ _) (.cons (Imm.lst _ _) .nil)))) .nil))) rfl (Sub.agg (.cons Sub.keep (.cons Sub.keep (.cons (Sub.frzAll (rows:=([(q5e.mk ([97]:B8) ([120]:B8) ([(q6c.mk 1 ([98]:B8) ([]:B8) ([]:B8))]:List q6c) ([]:List B8)),(q5e.mk ([98]:B8) ([121]:B8) ([]:List q6c) ([]:List B8))]:List q5e).map q8c) rfl) (.cons Sub.keep .nil)))))) ?_
 refine q8f (z9s 2 12 (V.agg [nV,nV,(V.lst 4 (([(q5e.mk ([97]:B8) ([120]:B8) ([(q6c.mk 1 ([98]:B8) ([]:B8) ([]:B8))]:List q6c) ([]:List B8)),(q5e.mk ([98]:B8) ([121]:B8) ([]:List q6c) ([]:List B8))]:List q5e).map q8c)),(V.lst 1 (([([97]:B8)]:List B8).map q6f))]) rfl (q7j (.cons (.cons (Imm.con _) .nil) .nil)) rfl (Sub.agg (.cons Sub.keep (.cons Sub.keep (.cons Sub.keep (.cons (Sub.frzAll (rows:=([([97]:B8)]:List B8).map q6f) rfl) .nil)))))) ?_
 refine q8f (q0q 12 (V.agg [(V.lst 2 (([]:List q0f).map q2d)),(V.lst 2 (([]:List q7i).map q6e)),(V.lst 4 (([(q5e.mk ([97]:B8) ([120]:B8) ([(q6c.mk 1 ([98]:B8) ([]:B8) ([]:B8))]:List q6c) ([]:List B8)),(q5e.mk ([98]:B8) ([121]:B8) ([]:List q6c) ([]:List B8))]:List q5e).map q8c)),(V.lst 1 (([([97]:B8)]:List B8).map q6f))]) rfl (Sub.agg (.cons (Sub.nil _) (.cons (Sub.nil _) (.cons Sub.keepI (.cons Sub.keepI .nil)))))) ?_
 refine j6f (V.tup [(V.lst 1 ((y1.1).map q6f)),(iV (y1.2))]) [(V.agg [(V.lst 2 (([]:List q0f).map q2d)),(V.lst 2 (([]:List q7i).map q6e)),(V.lst 4 (([(q5e.mk ([97]:B8) ([120]:B8) ([(q6c.mk 1 ([98]:B8) ([]:B8) ([]:B8))]:List q6c) ([]:List B8)),(q5e.mk ([98]:B8) ([121]:B8) ([]:List q6c) ([]:List B8))]:List q5e).map q8c)),(V.lst 1 (([([97]:B8)]:List B8).map q6f))]),(iV 1),nV] fOk25 q7a (q4f rfl (q4f rfl (q4f rfl q8k))) (.cons (Imm.agg (.cons (Imm.lst _ _) (.cons (Imm.lst _ _) (.cons (Imm.lst _ _) (.cons (Imm.lst _ _) .nil))))) (.cons (Imm.con _) (.cons (Imm.con _) .nil))) (v6s 2 rfl rfl (W25 F (q7c.mk ([]:List q0f) ([]:List q7i) ([(q5e.mk ([97]:B8) ([120]:B8) ([(q6c.mk 1 ([98]:B8) ([]:B8) ([]:B8))]:List q6c) ([]:List B8)),(q5e.mk ([98]:B8) ([121]:B8) ([]:List q6c) ([]:List B8))]:List q5e) ([([97]:B8)]:List B8)) 1 ([]:(List B8)) y1 hx2)) rfl ?_
 refine fo (rn 11 rfl ?_)
 refine spO 18 h rfl (fun hb3 h=>?_) (fun hb3 h=>?_)
 ·refine rn 1 rfl ?_
  refine q9e [(0,(sV ([97]:B8))),(1,(sV ([98]:B8)))] [[(sV ([97]:B8))],[(sV ([98]:B8))]] z7c tZ9 rfl rfl rfl rfl (q4i (c:=true) (b:=true) 18 rfl rfl rfl) (q7g rfl (q7g rfl q5i)) rfl rfl (by simp) rfl ?_
  refine bk h (fun y4 hx5 h=>?_)
  refine q6p (bV y4) [(V.lst 1 ((y1.1).map q6f)),(V.lst 1 (([([97]:B8),([98]:B8)]:List B8).map q6f))] fOk26 (z0t 4 20 rfl (q7j (.cons (.cons (Imm.con _) .nil) (.cons (.cons (Imm.con _) .nil) .nil))) rfl rfl) (v9v.con _) (q4i (c:=true) (b:=true) 18 rfl rfl rfl) (q4f rfl (q4f rfl q8k)) (.cons (Imm.lst _ _) (.cons (Imm.lst _ _) .nil)) (W26 F (y1.1) ([([97]:B8),([98]:B8)]:List B8) y4 hx5) rfl ?_
  refine fo (rn 3 rfl ?_)
  exact rt h rfl
 refine rn 6 rfl ?_
 exact rt h rfl
theorem W37(F:Nat)(a1:(List q0c))(r:(List q0c))(h:M37 F a1=some r):Mut Tryz.prog 37 [(V.lst 2 (a1.map q9b))] 0 [] (v5s [(V.own 0 r.length)]) 1 [(0,(Ob.arr 76 2 (r.map q9b)))]:=by
 refine z5d Tryz.func37 rfl rfl (l:=[.tmp 2]) rfl rfl [(0,(V.lst 2 (a1.map q9b)))] rfl (fun w0 m0 β0 hg=>en ?_)
 unfold M37 at h
 refine rn 8 rfl ?_
 refine z4u (n:=a1.length) false v2h q7a rfl rfl (congrArg some (List.length_map ..)) rfl (fun b7 hn8=>?_)
 replace h:=j1c h hn8
 refine fo (rn 1 rfl ?_)
 refine spC h rfl (fun hb9 h=>?_) (fun hb9 h=>?_)
 ·refine rn 4 rfl ?_
  replace h:=Option.some.inj h
  subst h
  exact wR ⟨.inl rfl,[(2,(V.own 0 ([]:List q0c).length))],(q8h.trans (q7n 2 76 2 rfl) (q9g 1 (fun i=>([0]:List Nat).getD i 0) _ _ (by decide) (q9k.get (.cons (Sub.ownE rfl rfl (by simp)) .nil)) (q6i.get (.cons rfl (q4b.rows (q3b q1h)) .nil)) rfl)),(.cons (.tmp rfl) .nil)⟩
 refine rn 3 rfl ?_
 refine z8e v1y q7a rfl ?_
 refine fo (rn 1 rfl ?_)
 refine apL q9b h rfl rfl rfl (by simp) rfl (fun h=>?_)
 refine rn 2 rfl ?_
 replace h:=Option.some.inj h
 subst h
 exact wR ⟨.inl rfl,[(2,(V.own 0 (([]:List q0c)++a1).length))],(gr [1] rfl (hR rfl rfl .nil) rfl),(.cons (.tmp rfl) .nil)⟩
theorem W36(F:Nat)(a1:Int)(a2:Int)(a3:List q0c)(r:List q0c)(h:M36 F a1 a2 a3=some r):Mut Tryz.prog 36 [(V.own 0 a3.length),(iV a1),(iV a2)] 1 [(0,(Ob.arr 76 2 (a3.map q9b)))] (v5s [(V.own 0 r.length)]) 1 [(0,(Ob.arr 76 2 (r.map q9b)))]:=by
 unfold M36 at h
 by_cases hc:0<=a1/\a1<=a2/\a2.toNat<=a3.length
 ·rw[if_pos hc] at h
  replace h:=Option.some.inj h
  subst h
  exact(j3c q9b (fun _=>rfl) (fun x=>(q1h _)) a3 a1 a2 rfl del36 nil36 hc).heap z5p
 ·rw[if_neg hc] at h;simp at h
theorem W39(F:Nat)(a1:(List q5j))(r:(List q5j))(h:M39 F a1=some r):Mut Tryz.prog 39 [(V.lst 3 (a1.map q3c))] 0 [] (v5s [(V.own 0 r.length)]) 1 [(0,(Ob.arr 80 3 (r.map q3c)))]:=by
 refine z5d Tryz.func39 rfl rfl (l:=[.tmp 2]) rfl rfl [(0,(V.lst 3 (a1.map q3c)))] rfl (fun w0 m0 β0 hg=>en ?_)
 unfold M39 at h
 refine rn 8 rfl ?_
 refine z4u (n:=a1.length) false v0y q7a rfl rfl (congrArg some (List.length_map ..)) rfl (fun b7 hn8=>?_)
 replace h:=j1c h hn8
 refine fo (rn 1 rfl ?_)
 refine spC h rfl (fun hb9 h=>?_) (fun hb9 h=>?_)
 ·refine rn 4 rfl ?_
  replace h:=Option.some.inj h
  subst h
  exact wR ⟨.inl rfl,[(2,(V.own 0 ([]:List q5j).length))],(q8h.trans (q7n 2 80 3 rfl) (q9g 1 (fun i=>([0]:List Nat).getD i 0) _ _ (by decide) (q9k.get (.cons (Sub.ownE rfl rfl (by simp)) .nil)) (q6i.get (.cons rfl (q4b.rows (q3b q7h)) .nil)) rfl)),(.cons (.tmp rfl) .nil)⟩
 refine rn 3 rfl ?_
 refine z8e v2y q7a rfl ?_
 refine fo (rn 1 rfl ?_)
 refine apL q3c h rfl rfl rfl (by simp) rfl (fun h=>?_)
 refine rn 2 rfl ?_
 replace h:=Option.some.inj h
 subst h
 exact wR ⟨.inl rfl,[(2,(V.own 0 (([]:List q5j)++a1).length))],(gr [1] rfl (hR rfl rfl .nil) rfl),(.cons (.tmp rfl) .nil)⟩
theorem W38(F:Nat)(a1:Int)(a2:Int)(a3:List q5j)(r:List q5j)(h:M38 F a1 a2 a3=some r):Mut Tryz.prog 38 [(V.own 0 a3.length),(iV a1),(iV a2)] 1 [(0,(Ob.arr 80 3 (a3.map q3c)))] (v5s [(V.own 0 r.length)]) 1 [(0,(Ob.arr 80 3 (r.map q3c)))]:=by
 unfold M38 at h
 by_cases hc:0<=a1/\a1<=a2/\a2.toNat<=a3.length
 ·rw[if_pos hc] at h
  replace h:=Option.some.inj h
  subst h
  exact(j3c q3c (fun _=>rfl) (fun x=>(q7h _)) a3 a1 a2 rfl del38 nil38 hc).heap z5p
 ·rw[if_neg hc] at h;simp at h
theorem W162(F:Nat)(a1:q1b)(a2:q5c)(a3:(List q0c))(r:Bool)(h:M162 F a1 a2 a3=some r):q5n Tryz.prog 162 [(V.iptr (q4a a1) 0),(V.iptr (q2c a2) 0),(V.lst 2 (a3.map q9b))] (bV r):=by
 refine pin (fun r=>(bV r)) r rfl Tryz.func162 rfl rfl rfl rfl rfl (fun w0 m0 hg=>?_)
 unfold M162 at h
 refine rn 8 rfl ?_
 refine ln rfl rfl ?_
 refine rn 2 rfl ?_
 refine jK h (fun _:Unit=>(⟨[],[],0⟩:St)) (fun k4 (_:Unit)=>k4=some r) (fun k4 h=>?_) ?_
 ·refine rn 1 rfl ?_
  refine wl (A:=a3) 2 rfl (fun hA37=>?_)
  refine lC (fun(p:Int)=>(⟨[(0,(V.iptr (q4a a1) 0)),(1,(V.iptr (q2c a2) 0)),(2,(V.lst 2 (a3.map q9b))),(13,(V.lst 2 (a3.map q9b))),(14,(iV ((a3.length:Nat):Int))),(15,(iV p))],[],0⟩:St)) (fun n p=>RG a3 (fun tl nn=>z8b F a1 a2 a3 k4 tl nn=some r) n p) (fun p h=>RG.zero h) (a3.length+1) 0 (RG.start h) (g0 rfl rfl) (fun n n6 h=>?_)
  refine rn 5 rfl ?_
  refine spL rfl (fun hb7=>?_) (fun hb7=>?_)
  ·obtain⟨x13,tl,hx14,h,hk1⟩:=RG.t hA37 h hb7
   unfold z8b at h
   refine rn 2 rfl ?_
   refine jK h (fun(p:Bool×Bool×Bool×Bool)=>(⟨[(0,(V.iptr (q4a a1) 0)),(1,(V.iptr (q2c a2) 0)),(2,(V.lst 2 (a3.map q9b))),(13,(V.lst 2 (a3.map q9b))),(14,(iV ((a3.length:Nat):Int))),(15,(iV n6)),(44,(bV (p.1))),(59,(bV (p.2.1))),(69,(bV (p.2.2.1))),(84,(bV (p.2.2.2)))],[],0⟩:St)) (fun k8 p=>k8 p.1 p.2.1 p.2.2.1 p.2.2.2=some r) (fun k8 h=>?_) ?_
   ·refine rn 4 rfl ?_
    refine ixh hx14 rfl rfl ?_
    refine rn 6 rfl ?_
    refine dr mixed (vs 6 rfl (xD (OD.mk [(24,(V.imap (a1.funcs.map q9d))),(26,(sV x13.Func))] [] [(27,(V.tup [(iV ((q6b a1.funcs x13.Func).getD 0)),(bV ((q6b a1.funcs x13.Func).isSome))]))] []) ⟨⟨rfl,rfl,trivial⟩,trivial⟩ (by exact fun S hn h hh=>q5h _ (iV 0) (iV ((q6b a1.funcs x13.Func).getD 0)) q1o q6h j5m (q9f _) q7a h.1 .imm (.con h.2.1) ⟨_,rfl⟩ q7f (q8g a1.funcs x13.Func) (q1f (q1g) (q6b a1.funcs x13.Func) 0) (q6m ..) rfl (q8d ⟨rfl,rfl⟩)) rfl (vs 5 rfl .nil))) (by kernel_rfl) ?_
    refine rn 1 rfl ?_
    refine dr mixed (vs 6 rfl (xD (OD.mk [(34,(V.imap (a1.types.map q9d))),(36,(sV x13.Type_))] [] [(37,(V.tup [(iV ((q6b a1.types x13.Type_).getD 0)),(bV ((q6b a1.types x13.Type_).isSome))]))] []) ⟨⟨rfl,rfl,trivial⟩,trivial⟩ (by exact fun S hn h hh=>q5h _ (iV 0) (iV ((q6b a1.types x13.Type_).getD 0)) q1o q6h j5m (q9f _) q7a h.1 .imm (.con h.2.1) ⟨_,rfl⟩ q7f (q8g a1.types x13.Type_) (q1f (q1g) (q6b a1.types x13.Type_) 0) (q6m ..) rfl (q8d ⟨rfl,rfl⟩)) rfl (vs 5 rfl .nil))) (by kernel_rfl) ?_
    refine rn 1 rfl ?_
    refine bs h (fun hb15 h=>?_) (fun hb15 h=>?_)
    ·refine dr mixed (vs 2 rfl (vb hb15 rfl (vs 43 rfl .nil))) (by kernel_rfl) ?_
     refine rn 5 rfl ?_
     exact rt h rfl
    refine bs h (fun hb16 h=>?_) (fun hb16 h=>?_)
    ·refine dr mixed (vs 2 rfl (vb hb15 rfl (vs 3 rfl (vb hb16 rfl (vs 39 rfl .nil))))) (by kernel_rfl) ?_
     refine rn 5 rfl ?_
     exact rt h rfl
    refine bs h (fun hb17 h=>?_) (fun hb17 h=>?_)
    ·obtain⟨x18,hx19,h⟩:=bind_some h
     refine bs h (fun hb20 h=>?_) (fun hb20 h=>?_)
     ·refine dr mixed (vs 2 rfl (vb hb15 rfl (vs 3 rfl (vb hb16 rfl (vs 2 rfl (vb hb17 rfl (vs 5 rfl (iD hx19 rfl rfl rfl (vs 5 rfl (vb hb20 rfl (vs 24 rfl .nil))))))))))) (by kernel_rfl) ?_
      refine rn 5 rfl ?_
      exact rt h rfl
     obtain⟨x21,hx22,h⟩:=bind_some h
     refine bs h (fun hb23 h=>?_) (fun hb23 h=>?_)
     ·refine dr mixed (vs 2 rfl (vb hb15 rfl (vs 3 rfl (vb hb16 rfl (vs 2 rfl (vb hb17 rfl (vs 5 rfl (iD hx19 rfl rfl rfl (vs 5 rfl (vb hb20 rfl (vs 5 rfl (iD hx22 rfl rfl rfl (vs 3 rfl (vb hb23 rfl (vs 14 rfl .nil))))))))))))))) (by kernel_rfl) ?_
      refine rn 5 rfl ?_
      exact rt h rfl
     obtain⟨x24,hx25,h⟩:=bind_some h
     obtain⟨y26,hx27,h⟩:=bind_some h
     refine dr mixed (vs 2 rfl (vb hb15 rfl (vs 3 rfl (vb hb16 rfl (vs 2 rfl (vb hb17 rfl (vs 5 rfl (iD hx19 rfl rfl rfl (vs 5 rfl (vb hb20 rfl (vs 5 rfl (iD hx22 rfl rfl rfl (vs 3 rfl (vb hb23 rfl (vs 6 rfl (iD hx25 rfl rfl rfl (vs 4 rfl (cD rfl rfl rfl rfl (W23 _ _ _ _ hx27) rfl (vs 2 rfl .nil))))))))))))))))))) (by kernel_rfl) ?_
     refine spC h rfl (fun hb28 h=>?_) (fun hb28 h=>?_)
     ·refine rn 4 rfl ?_
      exact rt h rfl
     refine rn 2 rfl ?_
     exact jX ((!((q6b a1.types x13.Type_).isSome)),(Op.bytesLess x13.Type_ x18.Type_||x13.Type_==x18.Type_),(!x21),(!y26)) h (g0 rfl rfl)
    obtain⟨x29,hx30,h⟩:=bind_some h
    refine bs h (fun hb31 h=>?_) (fun hb31 h=>?_)
    ·refine dr mixed (vs 2 rfl (vb hb15 rfl (vs 3 rfl (vb hb16 rfl (vs 2 rfl (vb hb17 rfl (vs 17 rfl (iD hx30 rfl rfl rfl (vs 3 rfl (vb hb31 rfl (vs 14 rfl .nil))))))))))) (by kernel_rfl) ?_
     refine rn 5 rfl ?_
     exact rt h rfl
    obtain⟨x32,hx33,h⟩:=bind_some h
    obtain⟨y34,hx35,h⟩:=bind_some h
    refine dr mixed (vs 2 rfl (vb hb15 rfl (vs 3 rfl (vb hb16 rfl (vs 2 rfl (vb hb17 rfl (vs 17 rfl (iD hx30 rfl rfl rfl (vs 3 rfl (vb hb31 rfl (vs 6 rfl (iD hx33 rfl rfl rfl (vs 4 rfl (cD rfl rfl rfl rfl (W23 _ _ _ _ hx35) rfl (vs 2 rfl .nil))))))))))))))) (by kernel_rfl) ?_
    refine spC h rfl (fun hb36 h=>?_) (fun hb36 h=>?_)
    ·refine rn 4 rfl ?_
     exact rt h rfl
    refine rn 2 rfl ?_
    exact jX ((!((q6b a1.types x13.Type_).isSome)),false,(!x29),(!y34)) h (g0 rfl rfl)
   rintro⟨b9,b10,b11,b12⟩ h
   refine rn 4 rfl ?_
   exact jX (w64 (n6+1)) (hk1 _ h) (g0 rfl rfl)
  replace h:=RG.f h hb7
  unfold z8b at h
  refine rn 1 rfl ?_
  exact jX () h (g0 rfl rfl)
 intro _ h
 refine rn 4 rfl ?_
 exact rt h rfl
theorem W163(F:Nat)(a1:q1b)(a2:q5j)(a3:B8)(r:(q6c×Bool))(h:M163 F a1 a2 a3=some r):q5n Tryz.prog 163 [(V.iptr (q4a a1) 0),(V.agg (q3c a2)),(sV a3)] (V.tup [(V.agg (q6d (r.1))),(bV (r.2))]):=by
 refine pin (fun r=>(V.tup [(V.agg (q6d (r.1))),(bV (r.2))])) r rfl Tryz.func163 rfl rfl rfl rfl rfl (fun w0 m0 hg=>?_)
 unfold M163 at h
 refine rn 13 rfl ?_
 refine q5h _ (iV 0) (iV ((q6b a1.funcs a3).getD 0)) q1o q6h j5m (q9f _) q7a rfl .imm (.con rfl) ⟨_,rfl⟩ q7f (q8g a1.funcs a3) (q1f (q1g) (q6b a1.funcs a3) 0) (q6m ..) rfl ?_
 refine fo (rn 8 rfl ?_)
 refine bs h (fun hb4 h=>?_) (fun hb4 h=>?_)
 ·refine dr mixed (vs 2 rfl (vb hb4 rfl (vs 28 rfl .nil))) (by kernel_rfl) ?_
  refine rn 7 rfl ?_
  exact rt h rfl
 refine bs h (fun hb5 h=>?_) (fun hb5 h=>?_)
 ·refine dr mixed (vs 2 rfl (vb hb4 rfl (vs 6 rfl (vb hb5 rfl (vs 21 rfl .nil))))) (by kernel_rfl) ?_
  refine rn 7 rfl ?_
  exact rt h rfl
 refine bs h (fun hb6 h=>?_) (fun hb6 h=>?_)
 ·refine dr mixed (vs 2 rfl (vb hb4 rfl (vs 6 rfl (vb hb5 rfl (vs 5 rfl (vb hb6 rfl (vs 15 rfl .nil))))))) (by kernel_rfl) ?_
  refine rn 7 rfl ?_
  exact rt h rfl
 obtain⟨x7,hx8,h⟩:=bind_some h
 refine dr mixed (vs 2 rfl (vb hb4 rfl (vs 6 rfl (vb hb5 rfl (vs 5 rfl (vb hb6 rfl (vs 9 rfl (iD hx8 rfl rfl rfl (vs 2 rfl (nD rfl rfl rfl (vs 2 rfl .nil))))))))))) (by kernel_rfl) ?_
 refine spC h rfl (fun hb9 h=>?_) (fun hb9 h=>?_)
 ·refine rn 6 rfl ?_
  exact rt h rfl
 obtain⟨x10,hx11,h⟩:=bind_some h
 obtain⟨x12,hx13,h⟩:=bind_some h
 refine rn 2 rfl ?_
 refine q0e q8j ?_
 refine fa ?_
 refine dr mixed (vs 6 rfl (iD hx11 rfl rfl rfl (vs 5 rfl (iD hx13 rfl rfl rfl (vs 1 rfl (xD (OD.mk [] [(2,Ob.res)] [(10,(V.ptr 2 4 0 0))] [(2,(Ob.arr 109 4 [[(iV 0),(sV ([]:B8)),(sV ([]:B8)),(sV ([]:B8))]]))]) ⟨trivial,⟨rfl,trivial⟩⟩ (by exact fun S hn h hh=>j9w 2 rfl hn hh.1 w6v rfl rfl q7a rfl (q8d ⟨rfl,rfl⟩)) rfl (vs 1 rfl .nil))))))) (by kernel_rfl) ?_
 refine rn 1 rfl ?_
 refine dr mixed (vs 7 rfl (xD (OD.mk [(70,(V.imap (a1.on.map q5b))),(72,(sV x12.Feature))] [] [(73,(bV ((q6b a1.on x12.Feature).getD false)))] []) ⟨⟨rfl,rfl,trivial⟩,trivial⟩ (by exact fun S hn h hh=>q7d _ (bV false) (bV ((q6b a1.on x12.Feature).getD false)) q4j q6h j4m (q9f _) q7a h.1 .imm (.con h.2.1) ⟨_,rfl⟩ q7e (q3h a1.on x12.Feature) (q1f (q5g) (q6b a1.on x12.Feature) false) rfl (q8d ⟨rfl,rfl⟩)) rfl (vs 2 rfl .nil))) (by kernel_rfl) ?_
 exact rt h rfl
theorem W165(F:Nat)(a1:q1b)(a2:(List q0c))(a3:q6c)(a4:Int)(r:(List Int))(h:M165 F a1 a2 a3 a4=some r):q5n Tryz.prog 165 [(V.iptr (q4a a1) 0),(V.lst 2 (a2.map q9b)),(V.agg (q6d a3)),(iV a4)] (V.lst 1 (r.map q9a)):=by
 refine pin (fun r=>(V.lst 1 (r.map q9a))) r rfl Tryz.func165 rfl rfl rfl rfl rfl (fun w0 m0 hg=>?_)
 unfold M165 at h
 refine rn 13 rfl ?_
 refine ln rfl rfl ?_
 refine rn 2 rfl ?_
 refine jK h (fun(p:(List Int))=>(⟨[(9,(V.own 0 p.length))],[(0,(Ob.arr 3 1 (p.map q9a)))],1⟩:St)) (fun k5 p=>k5 p=some r) (fun k5 h=>?_) ?_
 ·refine rn 1 rfl ?_
  refine wl (A:=a2) 1 rfl (fun hA25=>?_)
  refine lC (fun(p:Int×(List Int))=>(⟨[(0,(V.iptr (q4a a1) 0)),(3,(iV a4)),(6,(V.ptr 0 4 0 0)),(9,(V.own 1 (p.2).length)),(13,(V.lst 2 (a2.map q9b))),(14,(iV ((a2.length:Nat):Int))),(15,(iV (p.1)))],[(0,(Ob.arr 109 4 [(q6d a3)])),(1,(Ob.arr 3 1 ((p.2).map q9a)))],2⟩:St)) (fun n p=>RG a2 (fun tl nn=>z7b F a1 a3 a4 k5 tl nn p.2=some r) n p.1) (fun p h=>RG.zero h) (a2.length+1) (0,([]:List Int)) (RG.start h) (q8h.trans (q7n 9 3 1 rfl) (q9g 2 (fun i=>([0,1]:List Nat).getD i 0) _ _ (by decide) (q9k.get (.cons (Sub.imm (Imm.iptr _ _)) (.cons (Sub.imm (Imm.con _)) (.cons (Sub.ptr rfl rfl) (.cons (Sub.ownE rfl rfl (by simp)) (.cons (Sub.imm (Imm.lst _ _)) (.cons (Sub.imm (Imm.con _)) (.cons (Sub.imm (Imm.con _)) .nil)))))))) (q6i.get (.cons rfl (q4b.box (.cons (Sub.imm (Imm.con _)) (.cons (Sub.imm (Imm.con _)) (.cons (Sub.imm (Imm.con _)) (.cons (Sub.imm (Imm.con _)) .nil))))) (.cons rfl (q4b.rows (q3b q7b)) .nil))) rfl)) (fun n p h=>?_)
  obtain⟨n9,l10⟩:=p
  refine rn 5 rfl ?_
  refine spL rfl (fun hb11=>?_) (fun hb11=>?_)
  ·obtain⟨x14,tl,hx15,h,hk1⟩:=RG.t hA25 h hb11
   unfold z7b at h
   refine rn 2 rfl ?_
   refine jK h (fun(p:(List Int))=>(⟨[(0,(V.iptr (q4a a1) 0)),(3,(iV a4)),(6,(V.ptr 0 4 0 0)),(9,(V.own 1 p.length)),(13,(V.lst 2 (a2.map q9b))),(14,(iV ((a2.length:Nat):Int))),(15,(iV n9))],[(0,(Ob.arr 109 4 [(q6d a3)])),(1,(Ob.arr 3 1 (p.map q9a)))],2⟩:St)) (fun k12 p=>k12 p=some r) (fun k12 h=>?_) ?_
   ·refine rn 4 rfl ?_
    refine ixh hx15 rfl rfl ?_
    refine rn 6 rfl ?_
    refine dr mixed (vs 6 rfl (xD (OD.mk [(23,(V.imap (a1.types.map q9d))),(25,(sV x14.Type_))] [] [(26,(iV ((q6b a1.types x14.Type_).getD 0)))] []) ⟨⟨rfl,rfl,trivial⟩,trivial⟩ (by exact fun S hn h hh=>q7d _ (iV 0) (iV ((q6b a1.types x14.Type_).getD 0)) q1o q6h j5m (q9f _) q7a h.1 .imm (.con h.2.1) ⟨_,rfl⟩ q7f (q8g a1.types x14.Type_) (q1f (q1g) (q6b a1.types x14.Type_) 0) rfl (q8d ⟨rfl,rfl⟩)) rfl (vs 1 rfl .nil))) (by kernel_rfl) ?_
    obtain⟨y16,hx17,h⟩:=bind_some h
    refine rn 1 rfl ?_
    refine bs h (fun hb18 h=>?_) (fun hb18 h=>?_)
    ·obtain⟨y19,hx20,h⟩:=bind_some h
     refine dr mixed (vs 6 rfl (xD (OD.mk [(30,(V.imap (a1.fitting.map q3l))),(32,(sV a3.Target))] [] [(33,(V.lst 1 (((q6b a1.fitting a3.Target).getD ([]:(List Int))).map q9a)))] []) ⟨⟨rfl,rfl,trivial⟩,trivial⟩ (by exact fun S hn h hh=>q7d _ (V.lst 1 (([]:(List Int)).map q9a)) (V.lst 1 (((q6b a1.fitting a3.Target).getD ([]:(List Int))).map q9a)) z3o q6h z6v (fun _=>.nil _ _ _) q7a h.1 .imm (.con h.2.1) ⟨_,rfl⟩ q0n (q9m a1.fitting a3.Target) (q1f (q6l) (q6b a1.fitting a3.Target) ([]:(List Int))) rfl (q8d ⟨rfl,rfl⟩)) rfl (vs 1 rfl (cD rfl rfl rfl rfl (W164 _ _ _ _ hx17) rfl (vb hb18 rfl (vs 3 rfl (cD rfl rfl rfl rfl (w9t _ _ _ _ _ hx20) rfl (vs 3 rfl .nil)))))))) (by kernel_rfl) ?_
     refine jK h (fun(p:(List Int))=>(⟨[(0,(V.iptr (q4a a1) 0)),(3,(iV a4)),(6,(V.ptr 0 4 0 0)),(9,(V.own 1 p.length)),(13,(V.lst 2 (a2.map q9b))),(14,(iV ((a2.length:Nat):Int))),(15,(iV n9)),(42,(bV (y19==a4)))],[(0,(Ob.arr 109 4 [(q6d a3)])),(1,(Ob.arr 3 1 (p.map q9a)))],2⟩:St)) (fun k21 p=>k21 p=some r) (fun k21 h=>?_) ?_
     ·refine spC h rfl (fun hb23 h=>?_) (fun hb23 h=>?_)
      ·refine rn 3 rfl ?_
       refine q9e [(0,(iV n9))] [[(iV n9)]] q3v tZ3 rfl rfl rfl rfl q7a (q7g rfl q5i) rfl rfl (by simp) rfl ?_
       refine fo ?_
       refine apO q9a h rfl rfl rfl rfl rfl rfl rfl rfl (fun h=>?_)
       refine rn 2 rfl ?_
       exact jX (l10++([n9]:List Int)) h (gr [0,4] rfl (hB rfl rfl rfl (hR rfl rfl .nil)) rfl)
      refine rn 1 rfl ?_
      exact jX l10 h (gr [0,1] rfl (hB rfl rfl rfl (hR rfl rfl .nil)) rfl)
     intro l22 h
     refine rn 1 rfl ?_
     exact jX l22 h (gr [0,1] rfl (hB rfl rfl rfl (hR rfl rfl .nil)) rfl)
    refine dr mixed (vs 6 rfl (xD (OD.mk [(30,(V.imap (a1.fitting.map q3l))),(32,(sV a3.Target))] [] [(33,(V.lst 1 (((q6b a1.fitting a3.Target).getD ([]:(List Int))).map q9a)))] []) ⟨⟨rfl,rfl,trivial⟩,trivial⟩ (by exact fun S hn h hh=>q7d _ (V.lst 1 (([]:(List Int)).map q9a)) (V.lst 1 (((q6b a1.fitting a3.Target).getD ([]:(List Int))).map q9a)) z3o q6h z6v (fun _=>.nil _ _ _) q7a h.1 .imm (.con h.2.1) ⟨_,rfl⟩ q0n (q9m a1.fitting a3.Target) (q1f (q6l) (q6b a1.fitting a3.Target) ([]:(List Int))) rfl (q8d ⟨rfl,rfl⟩)) rfl (vs 1 rfl (cD rfl rfl rfl rfl (W164 _ _ _ _ hx17) rfl (vb hb18 rfl (vs 7 rfl .nil)))))) (by kernel_rfl) ?_
    refine rn 3 rfl ?_
    exact jX l10 h (gr [0,1] rfl (hB rfl rfl rfl (hR rfl rfl .nil)) rfl)
   intro l13 h
   refine rn 4 rfl ?_
   exact jX ((w64 (n9+1)),l13) (hk1 _ h) (gr [0,1] rfl (hB rfl rfl rfl (hR rfl rfl .nil)) rfl)
  replace h:=RG.f h hb11
  unfold z7b at h
  refine rn 1 rfl ?_
  exact jX l10 h (gr [1] rfl (hR rfl rfl .nil) rfl)
 intro l6 h
 refine rn 5 rfl ?_
 refine q0e (q8l 0 [8,9,49] rfl (q3b q7b) (List.forall_mem_cons.2 ⟨rfl,(List.forall_mem_cons.2 ⟨rfl,(List.forall_mem_cons.2 ⟨rfl,(fun _ hx=>nomatch hx)⟩)⟩)⟩) (List.length_map ..).symm) ?_
 refine fa ?_
 exact rt h rfl
theorem W205(F:Nat)(a1:(List Bool))(a2:Bool)(r:Int)(h:M205 F a1 a2=some r):q5n Tryz.prog 205 [(V.lst 1 (a1.map q9h)),(bV a2)] (iV r):=by
 refine pin (fun r=>(iV r)) r rfl Tryz.func205 rfl rfl rfl rfl rfl (fun w0 m0 hg=>?_)
 unfold M205 at h
 refine rn 8 rfl ?_
 refine ln rfl rfl ?_
 refine rn 2 rfl ?_
 refine jK h (fun _:Unit=>(⟨[],[],0⟩:St)) (fun k3 (_:Unit)=>k3=some r) (fun k3 h=>?_) ?_
 ·refine rn 1 rfl ?_
  refine wl (A:=a1) 0 rfl (fun hA10=>?_)
  refine lC (fun(p:Int)=>(⟨[(0,(V.lst 1 (a1.map q9h))),(1,(bV a2)),(7,(iV ((a1.length:Nat):Int))),(8,(iV p))],[],0⟩:St)) (fun n p=>RG a1 (fun tl nn=>z5m F a2 k3 tl nn=some r) n p) (fun p h=>RG.zero h) (a1.length+1) 0 (RG.start h) (g0 rfl rfl) (fun n n5 h=>?_)
  refine rn 5 rfl ?_
  refine spL rfl (fun hb6=>?_) (fun hb6=>?_)
  ·obtain⟨x7,tl,hx8,h,hk1⟩:=RG.t hA10 h hb6
   unfold z5m at h
   refine rn 13 rfl ?_
   refine ixh hx8 rfl rfl ?_
   refine rn 3 rfl ?_
   refine spC h rfl (fun hb9 h=>?_) (fun hb9 h=>?_)
   ·refine rn 5 rfl ?_
    exact rt h rfl
   refine rn 6 rfl ?_
   exact jX (w64 (n5+1)) (hk1 _ h) (g0 rfl rfl)
  replace h:=RG.f h hb6
  unfold z5m at h
  refine rn 1 rfl ?_
  exact jX () h (g0 rfl rfl)
 intro _ h
 refine rn 4 rfl ?_
 exact rt h rfl
theorem W166(F:Nat)(a1:(List Bool))(a2:Bool)(r:Bool)(h:M166 F a1 a2=some r):q5n Tryz.prog 166 [(V.lst 1 (a1.map q9h)),(bV a2)] (bV r):=by
 refine pin (fun r=>(bV r)) r rfl Tryz.func166 rfl rfl rfl rfl rfl (fun w0 m0 hg=>?_)
 unfold M166 at h
 refine rn 8 rfl ?_
 refine cl h rfl rfl rfl (W205 _ _ _) rfl (fun y3 hx4 h=>?_)
 refine rn 3 rfl ?_
 exact rt h rfl
theorem W109(F:Nat)(a1:q1b)(a2:B8)(a3:q3e)(r:Bool)(h:M109 F a1 a2 a3=some r):q5n Tryz.prog 109 [(V.iptr (q4a a1) 0),(sV a2),(V.agg (q0d a3))] (bV r):=by
 refine pin (fun r=>(bV r)) r rfl Tryz.func109 rfl rfl rfl rfl rfl (fun w0 m0 hg=>?_)
 unfold M109 at h
 refine rn 8 rfl ?_
 refine cl h rfl rfl rfl (W89 _ _ _) rfl (fun y4 hx5 h=>?_)
 obtain⟨x6,hx7,h⟩:=bind_some h
 refine rn 4 rfl ?_
 refine opC 7 hx7 rfl ?_
 obtain⟨y8,hx9,h⟩:=bind_some h
 refine bs h (fun hb10 h=>?_) (fun hb10 h=>?_)
 ·refine dr mixed (vs 7 rfl (cD rfl rfl rfl rfl (W23 _ _ _ _ hx9) rfl (vs 1 rfl (vb hb10 rfl (vs 20 rfl .nil))))) (by kernel_rfl) ?_
  refine rn 5 rfl ?_
  exact rt h rfl
 obtain⟨y11,hx12,h⟩:=bind_some h
 refine bs h (fun hb13 h=>?_) (fun hb13 h=>?_)
 ·refine dr mixed (vs 7 rfl (cD rfl rfl rfl rfl (W23 _ _ _ _ hx9) rfl (vs 1 rfl (vb hb10 rfl (vs 4 rfl (cD rfl rfl rfl rfl (W162 _ _ _ _ _ hx12) rfl (vs 2 rfl (vb hb13 rfl (vs 12 rfl .nil))))))))) (by kernel_rfl) ?_
  refine rn 5 rfl ?_
  exact rt h rfl
 refine bs h (fun hb14 h=>?_) (fun hb14 h=>?_)
 ·refine dr mixed (vs 7 rfl (cD rfl rfl rfl rfl (W23 _ _ _ _ hx9) rfl (vs 1 rfl (vb hb10 rfl (vs 4 rfl (cD rfl rfl rfl rfl (W162 _ _ _ _ _ hx12) rfl (vs 2 rfl (vb hb13 rfl (vs 5 rfl (vb hb14 rfl (vs 2 rfl (nD rfl rfl rfl (vs 3 rfl .nil))))))))))))) (by kernel_rfl) ?_
  refine spC h rfl (fun hb15 h=>?_) (fun hb15 h=>?_)
  ·refine rn 4 rfl ?_
   exact rt h rfl
  refine rn 5 rfl ?_
  refine ln rfl rfl ?_
  refine ck h (fun hc16 h=>?_)
  refine q8n (ln:=(List.replicate (((a3.Made.length:Nat):Int)).toNat (false:Bool)).length) ((List.replicate (((a3.Made.length:Nat):Int)).toNat (false:Bool)).map q9h) j7m tZ4 rfl rfl hc16 List.map_replicate List.length_replicate q7a rfl rfl ?_
  refine fo (rn 13 rfl ?_)
  refine ln rfl rfl ?_
  refine rn 2 rfl ?_
  refine jK h (fun(p:B8×(List Bool))=>(⟨[(1,(sV a2)),(8,(V.own 0 (p.2).length)),(9,(sV (p.1)))],[(0,(Ob.arr 4 1 ((p.2).map q9h)))],1⟩:St)) (fun k17 p=>k17 p.1 p.2=some r) (fun k17 h=>?_) ?_
  ·refine rn 1 rfl ?_
   refine wl (A:=a3.Hops) 58 rfl (fun hA62=>?_)
   refine lC (fun(p:B8×Int×(List Bool))=>(⟨[(0,(V.iptr (q4a a1) 0)),(1,(sV a2)),(5,(V.ptr 0 3 0 0)),(8,(V.own 1 (p.2.2).length)),(9,(sV (p.1))),(58,(V.lst 3 (a3.Hops.map q3c))),(59,(iV ((a3.Hops.length:Nat):Int))),(60,(iV (p.2.1)))],[(0,(Ob.arr 61 3 [(q0d a3)])),(1,(Ob.arr 4 1 ((p.2.2).map q9h)))],2⟩:St)) (fun n p=>RG a3.Hops (fun tl nn=>z6n F a1 a3 k17 tl p.1 p.2.2=some r) n p.2.1) (fun p h=>RG.zero h) (a3.Hops.length+1) (a3.Entry,0,(List.replicate (((a3.Made.length:Nat):Int)).toNat (false:Bool))) (RG.start h) (gr [0,1] rfl (hB rfl rfl rfl (hR rfl rfl .nil)) rfl) (fun n p h=>?_)
   obtain⟨s23,n24,l25⟩:=p
   refine rn 5 rfl ?_
   refine spL rfl (fun hb26=>?_) (fun hb26=>?_)
   ·obtain⟨x32,tl,hx33,h,hk1⟩:=RG.t hA62 h hb26
    unfold z6n at h
    refine rn 2 rfl ?_
    refine jK h (fun(p:B8×Bool×Bool×(List Bool))=>(⟨[(0,(V.iptr (q4a a1) 0)),(1,(sV a2)),(5,(V.ptr 0 3 0 0)),(8,(V.own 1 (p.2.2.2).length)),(9,(sV (p.1))),(58,(V.lst 3 (a3.Hops.map q3c))),(59,(iV ((a3.Hops.length:Nat):Int))),(60,(iV n24)),(85,(bV (p.2.1))),(93,(bV (p.2.2.1)))],[(0,(Ob.arr 61 3 [(q0d a3)])),(1,(Ob.arr 4 1 ((p.2.2.2).map q9h)))],2⟩:St)) (fun k27 p=>k27 p.1 p.2.1 p.2.2.1 p.2.2.2=some r) (fun k27 h=>?_) ?_
    ·refine rn 3 rfl ?_
     refine ixh hx33 rfl rfl ?_
     refine rn 9 rfl ?_
     refine cl h rfl rfl rfl (W163 _ _ _ _) rfl (fun y34 hx35 h=>?_)
     refine rn 8 rfl ?_
     refine dr mixed (vs 6 rfl (xD (OD.mk [(75,(V.imap (a1.funcs.map q9d))),(77,(sV x32.To))] [] [(78,(V.tup [(iV ((q6b a1.funcs x32.To).getD 0)),(bV ((q6b a1.funcs x32.To).isSome))]))] []) ⟨⟨rfl,rfl,trivial⟩,trivial⟩ (by exact fun S hn h hh=>q5h _ (iV 0) (iV ((q6b a1.funcs x32.To).getD 0)) q1o q6h j5m (q9f _) q7a h.1 .imm (.con h.2.1) ⟨_,rfl⟩ q7f (q8g a1.funcs x32.To) (q1f (q1g) (q6b a1.funcs x32.To) 0) (q6m ..) rfl (q8d ⟨rfl,rfl⟩)) rfl (vs 5 rfl .nil))) (by kernel_rfl) ?_
     refine rn 6 rfl ?_
     refine spO 83 h rfl (fun hb36 h=>?_) (fun hb36 h=>?_)
     ·refine rn 17 rfl ?_
      exact rt h rfl
     refine rn 4 rfl ?_
     refine spO 87 h rfl (fun hb37 h=>?_) (fun hb37 h=>?_)
     ·refine rn 13 rfl ?_
      exact rt h rfl
     refine rn 2 rfl ?_
     refine cl h rfl rfl rfl (w1q _ _ _) rfl (fun y38 hx39 h=>?_)
     refine rn 1 rfl ?_
     refine cl h rfl rfl rfl (W164 _ _ _) rfl (fun y40 hx41 h=>?_)
     refine rn 3 rfl ?_
     refine spC h rfl (fun hb42 h=>?_) (fun hb42 h=>?_)
     ·refine rn 4 rfl ?_
      exact rt h rfl
     refine rn 9 rfl ?_
     refine spO 99 h rfl (fun hb43 h=>?_) (fun hb43 h=>?_)
     ·refine rn 5 rfl ?_
      refine jK h (fun(p:(List Bool))=>(⟨[(0,(V.iptr (q4a a1) 0)),(1,(sV a2)),(5,(V.ptr 0 3 0 0)),(8,(V.own 1 p.length)),(11,(V.ptr 2 3 0 0)),(58,(V.lst 3 (a3.Hops.map q3c))),(59,(iV ((a3.Hops.length:Nat):Int))),(60,(iV n24)),(85,(bV (!((q6b a1.funcs x32.To).isSome)))),(93,(bV (!y40))),(102,(bV ((y34.1).Kind==2)))],[(0,(Ob.arr 61 3 [(q0d a3)])),(1,(Ob.arr 4 1 (p.map q9h))),(2,(Ob.arr 80 3 [(q3c x32)]))],3⟩:St)) (fun k44 p=>k44 p=some r) (fun k44 h=>?_) ?_
      ·refine spC h rfl (fun hb46 h=>?_) (fun hb46 h=>?_)
       ·refine rn 7 rfl ?_
        refine cl h rfl rfl rfl (W165 _ _ _ _ _) rfl (fun y47 hx48 h=>?_)
        refine rn 6 rfl ?_
        refine ln rfl rfl ?_
        refine rn 2 rfl ?_
        refine spC h rfl (fun hb49 h=>?_) (fun hb49 h=>?_)
        ·refine rn 4 rfl ?_
         exact rt h rfl
        refine rn 4 rfl ?_
        refine ln rfl rfl ?_
        refine rn 2 rfl ?_
        refine jK h (fun(p:(List Bool))=>(⟨[(0,(V.iptr (q4a a1) 0)),(1,(sV a2)),(5,(V.ptr 0 3 0 0)),(8,(V.own 1 p.length)),(11,(V.ptr 2 3 0 0)),(58,(V.lst 3 (a3.Hops.map q3c))),(59,(iV ((a3.Hops.length:Nat):Int))),(60,(iV n24)),(85,(bV (!((q6b a1.funcs x32.To).isSome)))),(93,(bV (!y40))),(102,(bV ((y34.1).Kind==2)))],[(0,(Ob.arr 61 3 [(q0d a3)])),(1,(Ob.arr 4 1 (p.map q9h))),(2,(Ob.arr 80 3 [(q3c x32)]))],3⟩:St)) (fun k50 p=>k50 p=some r) (fun k50 h=>?_) ?_
        ·refine rn 1 rfl ?_
         refine wl (A:=y47) 109 rfl (fun hA61=>?_)
         refine lC (fun(p:Int×(List Bool))=>(⟨[(0,(V.iptr (q4a a1) 0)),(1,(sV a2)),(5,(V.ptr 0 3 0 0)),(8,(V.own 1 (p.2).length)),(11,(V.ptr 2 3 0 0)),(58,(V.lst 3 (a3.Hops.map q3c))),(59,(iV ((a3.Hops.length:Nat):Int))),(60,(iV n24)),(85,(bV (!((q6b a1.funcs x32.To).isSome)))),(93,(bV (!y40))),(102,(bV ((y34.1).Kind==2))),(113,(V.lst 1 (y47.map q9a))),(114,(iV ((y47.length:Nat):Int))),(115,(iV (p.1)))],[(0,(Ob.arr 61 3 [(q0d a3)])),(1,(Ob.arr 4 1 ((p.2).map q9h))),(2,(Ob.arr 80 3 [(q3c x32)]))],3⟩:St)) (fun n p=>RG y47 (fun tl nn=>j6j F k50 tl p.2=some r) n p.1) (fun p h=>RG.zero h) (y47.length+1) (0,l25) (RG.start h) (gr [0,1,2] rfl (hB rfl rfl rfl (hR rfl rfl (hB rfl rfl rfl .nil))) rfl) (fun n p h=>?_)
         obtain⟨n54,l55⟩:=p
         refine rn 5 rfl ?_
         refine spL rfl (fun hb56=>?_) (fun hb56=>?_)
         ·obtain⟨x57,tl,hx58,h,hk2⟩:=RG.t hA61 h hb56
          unfold j6j at h
          refine rn 5 rfl ?_
          refine ixh hx58 rfl rfl ?_
          refine rn 6 rfl ?_
          refine ixo (a:=l55) h rfl rfl rfl (fun x59 hx60 h=>?_)
          refine stS true hx60 rfl rfl rfl rfl rfl rfl ?_
          refine rn 6 rfl ?_
          exact jX ((w64 (n54+1)),(l55.set x57.toNat true)) (hk2 _ h) (q9g 3 (fun i=>([0,1,2]:List Nat).getD i 0) _ _ (by decide) (q9k.get (.cons (Sub.imm (Imm.iptr _ _)) (.cons (Sub.imm (Imm.con _)) (.cons (Sub.ptr rfl rfl) (.cons (Sub.ownE rfl rfl (by simp)) (.cons (Sub.ptr rfl rfl) (.cons (Sub.imm (Imm.lst _ _)) (.cons (Sub.imm (Imm.con _)) (.cons (Sub.imm (Imm.con _)) (.cons (Sub.imm (Imm.con _)) (.cons (Sub.imm (Imm.con _)) (.cons (Sub.imm (Imm.con _)) (.cons (Sub.imm (Imm.lst _ _)) (.cons (Sub.imm (Imm.con _)) (.cons (Sub.imm (Imm.con _)) .nil))))))))))))))) (q6i.get (.cons rfl (q4b.box (.cons (Sub.imm (Imm.con _)) (.cons (Sub.imm (Imm.lst _ _)) (.cons (Sub.imm (Imm.lst _ _)) .nil)))) (.cons rfl (q4b.rows (q3b q2f)) (.cons rfl (q4b.box (.cons (Sub.imm (Imm.con _)) (.cons (Sub.imm (Imm.con _)) (.cons (Sub.imm (Imm.con _)) .nil)))) .nil)))) rfl)
         replace h:=RG.f h hb56
         unfold j6j at h
         refine rn 1 rfl ?_
         exact jX l55 h (gr [0,1,2] rfl (hB rfl rfl rfl (hR rfl rfl (hB rfl rfl rfl .nil))) rfl)
        intro l51 h
        exact jX l51 h (gr [0,1,2] rfl (hB rfl rfl rfl (hR rfl rfl (hB rfl rfl rfl .nil))) rfl)
       refine rn 1 rfl ?_
       exact jX l25 h (gr [0,1,2] rfl (hB rfl rfl rfl (hR rfl rfl (hB rfl rfl rfl .nil))) rfl)
      intro l45 h
      refine rn 6 rfl ?_
      exact jX (x32.To,(!((q6b a1.funcs x32.To).isSome)),(!y40),l45) h (gr [0,1] rfl (hB rfl rfl rfl (hR rfl rfl .nil)) rfl)
     refine rn 13 rfl ?_
     exact jX (x32.To,(!((q6b a1.funcs x32.To).isSome)),(!y40),l25) h (gr [0,1] rfl (hB rfl rfl rfl (hR rfl rfl .nil)) rfl)
    rintro⟨s28,b29,b30,l31⟩ h
    refine rn 4 rfl ?_
    exact jX (s28,(w64 (n24+1)),l31) (hk1 _ h) (gr [0,1] rfl (hB rfl rfl rfl (hR rfl rfl .nil)) rfl)
   replace h:=RG.f h hb26
   unfold z6n at h
   refine rn 1 rfl ?_
   exact jX (s23,l25) h (gr [1] rfl (hR rfl rfl .nil) rfl)
  rintro⟨s18,l19⟩ h
  refine rn 6 rfl ?_
  refine spO 129 h rfl (fun hb63 h=>?_) (fun hb63 h=>?_)
  ·obtain⟨y64,hx65,h⟩:=bind_some h
   refine rn 1 rfl ?_
   refine q6p (bV y64) [(V.lst 1 (l19.map q9h)),(bV false)] w9s (q8l 0 [130,8] rfl (q3b q2f) (List.forall_mem_cons.2 ⟨rfl,(List.forall_mem_cons.2 ⟨rfl,(fun _ hx=>nomatch hx)⟩)⟩) (List.length_map ..).symm) (v9v.con _) (q4i (c:=true) (b:=true) 129 rfl rfl rfl) (q4f rfl (q4f rfl q8k)) (.cons (Imm.lst _ _) (.cons (Imm.con _) .nil)) (W166 F l19 false y64 hx65) rfl ?_
   refine fo (rn 4 rfl ?_)
   exact rt h rfl
  refine rn 6 rfl ?_
  exact rt h rfl
 refine dr mixed (vs 7 rfl (cD rfl rfl rfl rfl (W23 _ _ _ _ hx9) rfl (vs 1 rfl (vb hb10 rfl (vs 4 rfl (cD rfl rfl rfl rfl (W162 _ _ _ _ _ hx12) rfl (vs 2 rfl (vb hb13 rfl (vs 5 rfl (vb hb14 rfl (vs 6 rfl .nil))))))))))) (by kernel_rfl) ?_
 refine rn 6 rfl ?_
 refine ln rfl rfl ?_
 refine ck h (fun hc66 h=>?_)
 refine q8n (ln:=(List.replicate (((a3.Made.length:Nat):Int)).toNat (false:Bool)).length) ((List.replicate (((a3.Made.length:Nat):Int)).toNat (false:Bool)).map q9h) j7m tZ4 rfl rfl hc66 List.map_replicate List.length_replicate q7a rfl rfl ?_
 refine fo (rn 13 rfl ?_)
 refine ln rfl rfl ?_
 refine rn 2 rfl ?_
 refine jK h (fun(p:B8×(List Bool))=>(⟨[(1,(sV a2)),(8,(V.own 0 (p.2).length)),(9,(sV (p.1)))],[(0,(Ob.arr 4 1 ((p.2).map q9h)))],1⟩:St)) (fun k67 p=>k67 p.1 p.2=some r) (fun k67 h=>?_) ?_
 ·refine rn 1 rfl ?_
  refine wl (A:=a3.Hops) 58 rfl (fun hA112=>?_)
  refine lC (fun(p:B8×Int×(List Bool))=>(⟨[(0,(V.iptr (q4a a1) 0)),(1,(sV a2)),(5,(V.ptr 0 3 0 0)),(8,(V.own 1 (p.2.2).length)),(9,(sV (p.1))),(58,(V.lst 3 (a3.Hops.map q3c))),(59,(iV ((a3.Hops.length:Nat):Int))),(60,(iV (p.2.1)))],[(0,(Ob.arr 61 3 [(q0d a3)])),(1,(Ob.arr 4 1 ((p.2.2).map q9h)))],2⟩:St)) (fun n p=>RG a3.Hops (fun tl nn=>z1h F a1 a3 k67 tl p.1 p.2.2=some r) n p.2.1) (fun p h=>RG.zero h) (a3.Hops.length+1) (a3.Entry,0,(List.replicate (((a3.Made.length:Nat):Int)).toNat (false:Bool))) (RG.start h) (gr [0,1] rfl (hB rfl rfl rfl (hR rfl rfl .nil)) rfl) (fun n p h=>?_)
  obtain⟨s73,n74,l75⟩:=p
  refine rn 5 rfl ?_
  refine spL rfl (fun hb76=>?_) (fun hb76=>?_)
  ·obtain⟨x82,tl,hx83,h,hk3⟩:=RG.t hA112 h hb76
   unfold z1h at h
   refine rn 2 rfl ?_
   refine jK h (fun(p:B8×Bool×Bool×(List Bool))=>(⟨[(0,(V.iptr (q4a a1) 0)),(1,(sV a2)),(5,(V.ptr 0 3 0 0)),(8,(V.own 1 (p.2.2.2).length)),(9,(sV (p.1))),(58,(V.lst 3 (a3.Hops.map q3c))),(59,(iV ((a3.Hops.length:Nat):Int))),(60,(iV n74)),(85,(bV (p.2.1))),(93,(bV (p.2.2.1)))],[(0,(Ob.arr 61 3 [(q0d a3)])),(1,(Ob.arr 4 1 ((p.2.2.2).map q9h)))],2⟩:St)) (fun k77 p=>k77 p.1 p.2.1 p.2.2.1 p.2.2.2=some r) (fun k77 h=>?_) ?_
   ·refine rn 3 rfl ?_
    refine ixh hx83 rfl rfl ?_
    refine rn 9 rfl ?_
    refine cl h rfl rfl rfl (W163 _ _ _ _) rfl (fun y84 hx85 h=>?_)
    refine rn 8 rfl ?_
    refine dr mixed (vs 6 rfl (xD (OD.mk [(75,(V.imap (a1.funcs.map q9d))),(77,(sV x82.To))] [] [(78,(V.tup [(iV ((q6b a1.funcs x82.To).getD 0)),(bV ((q6b a1.funcs x82.To).isSome))]))] []) ⟨⟨rfl,rfl,trivial⟩,trivial⟩ (by exact fun S hn h hh=>q5h _ (iV 0) (iV ((q6b a1.funcs x82.To).getD 0)) q1o q6h j5m (q9f _) q7a h.1 .imm (.con h.2.1) ⟨_,rfl⟩ q7f (q8g a1.funcs x82.To) (q1f (q1g) (q6b a1.funcs x82.To) 0) (q6m ..) rfl (q8d ⟨rfl,rfl⟩)) rfl (vs 5 rfl .nil))) (by kernel_rfl) ?_
    refine rn 6 rfl ?_
    refine spO 83 h rfl (fun hb86 h=>?_) (fun hb86 h=>?_)
    ·refine rn 17 rfl ?_
     exact rt h rfl
    refine rn 4 rfl ?_
    refine spO 87 h rfl (fun hb87 h=>?_) (fun hb87 h=>?_)
    ·refine rn 13 rfl ?_
     exact rt h rfl
    refine rn 2 rfl ?_
    refine cl h rfl rfl rfl (w1q _ _ _) rfl (fun y88 hx89 h=>?_)
    refine rn 1 rfl ?_
    refine cl h rfl rfl rfl (W164 _ _ _) rfl (fun y90 hx91 h=>?_)
    refine rn 3 rfl ?_
    refine spC h rfl (fun hb92 h=>?_) (fun hb92 h=>?_)
    ·refine rn 4 rfl ?_
     exact rt h rfl
    refine rn 9 rfl ?_
    refine spO 99 h rfl (fun hb93 h=>?_) (fun hb93 h=>?_)
    ·refine rn 5 rfl ?_
     refine jK h (fun(p:(List Bool))=>(⟨[(0,(V.iptr (q4a a1) 0)),(1,(sV a2)),(5,(V.ptr 0 3 0 0)),(8,(V.own 1 p.length)),(11,(V.ptr 2 3 0 0)),(58,(V.lst 3 (a3.Hops.map q3c))),(59,(iV ((a3.Hops.length:Nat):Int))),(60,(iV n74)),(85,(bV (!((q6b a1.funcs x82.To).isSome)))),(93,(bV (!y90))),(102,(bV ((y84.1).Kind==2)))],[(0,(Ob.arr 61 3 [(q0d a3)])),(1,(Ob.arr 4 1 (p.map q9h))),(2,(Ob.arr 80 3 [(q3c x82)]))],3⟩:St)) (fun k94 p=>k94 p=some r) (fun k94 h=>?_) ?_
     ·refine spC h rfl (fun hb96 h=>?_) (fun hb96 h=>?_)
      ·refine rn 7 rfl ?_
       refine cl h rfl rfl rfl (W165 _ _ _ _ _) rfl (fun y97 hx98 h=>?_)
       refine rn 6 rfl ?_
       refine ln rfl rfl ?_
       refine rn 2 rfl ?_
       refine spC h rfl (fun hb99 h=>?_) (fun hb99 h=>?_)
       ·refine rn 4 rfl ?_
        exact rt h rfl
       refine rn 4 rfl ?_
       refine ln rfl rfl ?_
       refine rn 2 rfl ?_
       refine jK h (fun(p:(List Bool))=>(⟨[(0,(V.iptr (q4a a1) 0)),(1,(sV a2)),(5,(V.ptr 0 3 0 0)),(8,(V.own 1 p.length)),(11,(V.ptr 2 3 0 0)),(58,(V.lst 3 (a3.Hops.map q3c))),(59,(iV ((a3.Hops.length:Nat):Int))),(60,(iV n74)),(85,(bV (!((q6b a1.funcs x82.To).isSome)))),(93,(bV (!y90))),(102,(bV ((y84.1).Kind==2)))],[(0,(Ob.arr 61 3 [(q0d a3)])),(1,(Ob.arr 4 1 (p.map q9h))),(2,(Ob.arr 80 3 [(q3c x82)]))],3⟩:St)) (fun k100 p=>k100 p=some r) (fun k100 h=>?_) ?_
       ·refine rn 1 rfl ?_
        refine wl (A:=y97) 109 rfl (fun hA111=>?_)
        refine lC (fun(p:Int×(List Bool))=>(⟨[(0,(V.iptr (q4a a1) 0)),(1,(sV a2)),(5,(V.ptr 0 3 0 0)),(8,(V.own 1 (p.2).length)),(11,(V.ptr 2 3 0 0)),(58,(V.lst 3 (a3.Hops.map q3c))),(59,(iV ((a3.Hops.length:Nat):Int))),(60,(iV n74)),(85,(bV (!((q6b a1.funcs x82.To).isSome)))),(93,(bV (!y90))),(102,(bV ((y84.1).Kind==2))),(113,(V.lst 1 (y97.map q9a))),(114,(iV ((y97.length:Nat):Int))),(115,(iV (p.1)))],[(0,(Ob.arr 61 3 [(q0d a3)])),(1,(Ob.arr 4 1 ((p.2).map q9h))),(2,(Ob.arr 80 3 [(q3c x82)]))],3⟩:St)) (fun n p=>RG y97 (fun tl nn=>z5n F k100 tl p.2=some r) n p.1) (fun p h=>RG.zero h) (y97.length+1) (0,l75) (RG.start h) (gr [0,1,2] rfl (hB rfl rfl rfl (hR rfl rfl (hB rfl rfl rfl .nil))) rfl) (fun n p h=>?_)
        obtain⟨n104,l105⟩:=p
        refine rn 5 rfl ?_
        refine spL rfl (fun hb106=>?_) (fun hb106=>?_)
        ·obtain⟨x107,tl,hx108,h,hk4⟩:=RG.t hA111 h hb106
         unfold z5n at h
         refine rn 5 rfl ?_
         refine ixh hx108 rfl rfl ?_
         refine rn 6 rfl ?_
         refine ixo (a:=l105) h rfl rfl rfl (fun x109 hx110 h=>?_)
         refine stS true hx110 rfl rfl rfl rfl rfl rfl ?_
         refine rn 6 rfl ?_
         exact jX ((w64 (n104+1)),(l105.set x107.toNat true)) (hk4 _ h) (q9g 3 (fun i=>([0,1,2]:List Nat).getD i 0) _ _ (by decide) (q9k.get (.cons (Sub.imm (Imm.iptr _ _)) (.cons (Sub.imm (Imm.con _)) (.cons (Sub.ptr rfl rfl) (.cons (Sub.ownE rfl rfl (by simp)) (.cons (Sub.ptr rfl rfl) (.cons (Sub.imm (Imm.lst _ _)) (.cons (Sub.imm (Imm.con _)) (.cons (Sub.imm (Imm.con _)) (.cons (Sub.imm (Imm.con _)) (.cons (Sub.imm (Imm.con _)) (.cons (Sub.imm (Imm.con _)) (.cons (Sub.imm (Imm.lst _ _)) (.cons (Sub.imm (Imm.con _)) (.cons (Sub.imm (Imm.con _)) .nil))))))))))))))) (q6i.get (.cons rfl (q4b.box (.cons (Sub.imm (Imm.con _)) (.cons (Sub.imm (Imm.lst _ _)) (.cons (Sub.imm (Imm.lst _ _)) .nil)))) (.cons rfl (q4b.rows (q3b q2f)) (.cons rfl (q4b.box (.cons (Sub.imm (Imm.con _)) (.cons (Sub.imm (Imm.con _)) (.cons (Sub.imm (Imm.con _)) .nil)))) .nil)))) rfl)
        replace h:=RG.f h hb106
        unfold z5n at h
        refine rn 1 rfl ?_
        exact jX l105 h (gr [0,1,2] rfl (hB rfl rfl rfl (hR rfl rfl (hB rfl rfl rfl .nil))) rfl)
       intro l101 h
       exact jX l101 h (gr [0,1,2] rfl (hB rfl rfl rfl (hR rfl rfl (hB rfl rfl rfl .nil))) rfl)
      refine rn 1 rfl ?_
      exact jX l75 h (gr [0,1,2] rfl (hB rfl rfl rfl (hR rfl rfl (hB rfl rfl rfl .nil))) rfl)
     intro l95 h
     refine rn 6 rfl ?_
     exact jX (x82.To,(!((q6b a1.funcs x82.To).isSome)),(!y90),l95) h (gr [0,1] rfl (hB rfl rfl rfl (hR rfl rfl .nil)) rfl)
    refine rn 13 rfl ?_
    exact jX (x82.To,(!((q6b a1.funcs x82.To).isSome)),(!y90),l75) h (gr [0,1] rfl (hB rfl rfl rfl (hR rfl rfl .nil)) rfl)
   rintro⟨s78,b79,b80,l81⟩ h
   refine rn 4 rfl ?_
   exact jX (s78,(w64 (n74+1)),l81) (hk3 _ h) (gr [0,1] rfl (hB rfl rfl rfl (hR rfl rfl .nil)) rfl)
  replace h:=RG.f h hb76
  unfold z1h at h
  refine rn 1 rfl ?_
  exact jX (s73,l75) h (gr [1] rfl (hR rfl rfl .nil) rfl)
 rintro⟨s68,l69⟩ h
 refine rn 6 rfl ?_
 refine spO 129 h rfl (fun hb113 h=>?_) (fun hb113 h=>?_)
 ·obtain⟨y114,hx115,h⟩:=bind_some h
  refine rn 1 rfl ?_
  refine q6p (bV y114) [(V.lst 1 (l69.map q9h)),(bV false)] w9s (q8l 0 [130,8] rfl (q3b q2f) (List.forall_mem_cons.2 ⟨rfl,(List.forall_mem_cons.2 ⟨rfl,(fun _ hx=>nomatch hx)⟩)⟩) (List.length_map ..).symm) (v9v.con _) (q4i (c:=true) (b:=true) 129 rfl rfl rfl) (q4f rfl (q4f rfl q8k)) (.cons (Imm.lst _ _) (.cons (Imm.con _) .nil)) (W166 F l69 false y114 hx115) rfl ?_
  refine fo (rn 4 rfl ?_)
  exact rt h rfl
 refine rn 6 rfl ?_
 exact rt h rfl
theorem W31(F:Nat)(a1:q7c)(a2:Int)(a3:(List B8))(a4:B8)(a5:q3e)(r:(Bool×Int))(h:M31 F a1 a2 a3 a4 a5=some r):q5n Tryz.prog 31 [(V.agg (q3d a1)),(iV a2),(V.lst 1 (a3.map q6f)),(sV a4),(V.agg (q0d a5))] (V.tup [(bV (r.1)),(iV (r.2))]):=by
 refine pin (fun r=>(V.tup [(bV (r.1)),(iV (r.2))])) r rfl Tryz.func31 rfl rfl rfl rfl rfl (fun w0 m0 hg=>?_)
 unfold M31 at h
 refine rn 13 rfl ?_
 refine cl h rfl rfl rfl (W90 _ _ _ _ _) rfl (fun y6 hx7 h=>?_)
 refine rn 14 rfl ?_
 refine spC h rfl (fun hb8 h=>?_) (fun hb8 h=>?_)
 ·refine rn 6 rfl ?_
  exact rt h rfl
 obtain⟨x9,hx10,h⟩:=bind_some h
 refine rn 2 rfl ?_
 refine opC 12 hx10 rfl ?_
 refine rn 4 rfl ?_
 refine cl h rfl rfl rfl (W109 _ _ _ _) rfl (fun y11 hx12 h=>?_)
 refine rn 3 rfl ?_
 exact rt h rfl
theorem W116(F:Nat)(a1:q2b)(a2:q5a)(a3:(List q0c))(r:Bool)(h:M116 F a1 a2 a3=some r):q5n Tryz.prog 116 [(V.agg (q3a a1)),(V.agg (q8a a2)),(V.lst 2 (a3.map q9b))] (bV r):=by
 refine pin (fun r=>(bV r)) r rfl Tryz.func116 rfl rfl rfl rfl rfl (fun w0 m0 hg=>?_)
 unfold M116 at h
 refine rn 10 rfl ?_
 refine ln rfl rfl ?_
 refine rn 2 rfl ?_
 refine jK h (fun _:Unit=>(⟨[],[],0⟩:St)) (fun k4 (_:Unit)=>k4=some r) (fun k4 h=>?_) ?_
 ·refine rn 1 rfl ?_
  refine wl (A:=a3) 2 rfl (fun hA46=>?_)
  refine lC (fun(p:Int)=>(⟨[(2,(V.lst 2 (a3.map q9b))),(3,(V.ptr 0 6 0 0)),(4,(V.ptr 1 2 0 0)),(12,(V.lst 2 (a3.map q9b))),(13,(iV ((a3.length:Nat):Int))),(14,(iV p))],[(0,(Ob.arr 155 6 [(q3a a1)])),(1,(Ob.arr 193 2 [(q8a a2)]))],2⟩:St)) (fun n p=>RG a3 (fun tl nn=>z3c F a1 a2 a3 k4 tl nn=some r) n p) (fun p h=>RG.zero h) (a3.length+1) 0 (RG.start h) (gr [0,1] rfl (hB rfl rfl rfl (hB rfl rfl rfl .nil)) rfl) (fun n n6 h=>?_)
  refine rn 5 rfl ?_
  refine spL rfl (fun hb7=>?_) (fun hb7=>?_)
  ·obtain⟨x10,tl,hx11,h,hk1⟩:=RG.t hA46 h hb7
   unfold z3c at h
   refine rn 2 rfl ?_
   refine jK h (fun(p:Bool)=>(⟨[(2,(V.lst 2 (a3.map q9b))),(3,(V.ptr 0 6 0 0)),(4,(V.ptr 1 2 0 0)),(12,(V.lst 2 (a3.map q9b))),(13,(iV ((a3.length:Nat):Int))),(14,(iV n6)),(38,(bV p))],[(0,(Ob.arr 155 6 [(q3a a1)])),(1,(Ob.arr 193 2 [(q8a a2)]))],2⟩:St)) (fun k8 p=>k8 p=some r) (fun k8 h=>?_) ?_
   ·refine rn 4 rfl ?_
    refine ixh hx11 rfl rfl ?_
    refine rn 7 rfl ?_
    refine bs h (fun hb12 h=>?_) (fun hb12 h=>?_)
    ·obtain⟨x13,hx14,h⟩:=bind_some h
     refine bs h (fun hb15 h=>?_) (fun hb15 h=>?_)
     ·refine dr mixed (vs 2 rfl (vb hb12 rfl (vs 5 rfl (iD hx14 rfl rfl rfl (vs 4 rfl (vb hb15 rfl (vs 7 rfl .nil))))))) (by kernel_rfl) ?_
      refine rn 5 rfl ?_
      exact rt h rfl
     refine dr mixed (vs 2 rfl (vb hb12 rfl (vs 5 rfl (iD hx14 rfl rfl rfl (vs 4 rfl (vb hb15 rfl (vs 4 rfl (xD (OD.mk [(32,(bV false)),(34,(V.imap (a2.reached.map q5b))),(36,(sV x10.Func))] [] [(37,(bV ((q6b a2.reached x10.Func).getD false)))] []) ⟨⟨rfl,rfl,rfl,trivial⟩,trivial⟩ (by exact fun S hn h hh=>q7d _ (bV false) (bV ((q6b a2.reached x10.Func).getD false)) q4j q6h j4m (q9f _) (q4i (c:=false) (b:=false) 32 rfl h.1 rfl) h.2.1 .imm (.con h.2.2.1) ⟨_,rfl⟩ q7e (q3h a2.reached x10.Func) (q1f (q5g) (q6b a2.reached x10.Func) false) rfl (q8d ⟨rfl,rfl⟩)) rfl (vs 2 rfl .nil))))))))) (by kernel_rfl) ?_
     refine spC h rfl (fun hb16 h=>?_) (fun hb16 h=>?_)
     ·refine rn 4 rfl ?_
      exact rt h rfl
     refine rn 12 rfl ?_
     refine q7d _ (V.agg [(sV ([]:B8)),(sV ([]:B8)),(V.lst 4 (([]:List q6c).map q6d)),(V.lst 1 (([]:List B8).map q6f))]) (V.agg (q8c ((q6b a1.funcs x10.Func).getD (q5e.mk ([]:B8) ([]:B8) ([]:(List q6c)) ([]:(List B8)))))) j4t q6h w4v (z3p (.con (.con (.sl (.sl .nil))))) q7a rfl .imm (.con rfl) ⟨_,rfl⟩ q7u (z0b a1.funcs x10.Func) (q1f (q7o) (q6b a1.funcs x10.Func) (q5e.mk ([]:B8) ([]:B8) ([]:(List q6c)) ([]:(List B8)))) rfl ?_
     refine fo (rn 1 rfl ?_)
     refine ln rfl rfl ?_
     refine rn 2 rfl ?_
     refine jK h (fun(p:Bool)=>(⟨[(2,(V.lst 2 (a3.map q9b))),(3,(V.ptr 0 6 0 0)),(4,(V.ptr 1 2 0 0)),(9,(bV p)),(12,(V.lst 2 (a3.map q9b))),(13,(iV ((a3.length:Nat):Int))),(14,(iV n6)),(30,(bV (Op.bytesLess x10.Type_ x13.Type_||x10.Type_==x13.Type_))),(38,(bV (!((q6b a2.reached x10.Func).getD false))))],[(0,(Ob.arr 155 6 [(q3a a1)])),(1,(Ob.arr 193 2 [(q8a a2)]))],2⟩:St)) (fun k17 p=>k17 p=some r) (fun k17 h=>?_) ?_
     ·refine rn 1 rfl ?_
      refine wl (A:=((q6b a1.funcs x10.Func).getD (q5e.mk ([]:B8) ([]:B8) ([]:(List q6c)) ([]:(List B8)))).Makes) 45 rfl (fun hA29=>?_)
      refine lC (fun(p:Bool×Int)=>(⟨[(2,(V.lst 2 (a3.map q9b))),(3,(V.ptr 0 6 0 0)),(4,(V.ptr 1 2 0 0)),(8,(V.ptr 2 2 0 0)),(9,(bV (p.1))),(12,(V.lst 2 (a3.map q9b))),(13,(iV ((a3.length:Nat):Int))),(14,(iV n6)),(30,(bV (Op.bytesLess x10.Type_ x13.Type_||x10.Type_==x13.Type_))),(38,(bV (!((q6b a2.reached x10.Func).getD false)))),(45,(V.lst 1 (((q6b a1.funcs x10.Func).getD (q5e.mk ([]:B8) ([]:B8) ([]:(List q6c)) ([]:(List B8)))).Makes.map q6f))),(46,(iV ((((q6b a1.funcs x10.Func).getD (q5e.mk ([]:B8) ([]:B8) ([]:(List q6c)) ([]:(List B8)))).Makes.length:Nat):Int))),(47,(iV (p.2)))],[(0,(Ob.arr 155 6 [(q3a a1)])),(1,(Ob.arr 193 2 [(q8a a2)])),(2,(Ob.arr 76 2 [(q9b x10)]))],3⟩:St)) (fun n p=>RG (((q6b a1.funcs x10.Func).getD (q5e.mk ([]:B8) ([]:B8) ([]:(List q6c)) ([]:(List B8)))).Makes) (fun tl nn=>z0h F x10 k17 tl p.1=some r) n p.2) (fun p h=>RG.zero h) ((((q6b a1.funcs x10.Func).getD (q5e.mk ([]:B8) ([]:B8) ([]:(List q6c)) ([]:(List B8)))).Makes).length+1) (false,0) (RG.start h) (gr [0,1,2] rfl (hB rfl rfl rfl (hB rfl rfl rfl (hB rfl rfl rfl .nil))) rfl) (fun n p h=>?_)
      obtain⟨b21,n22⟩:=p
      refine rn 5 rfl ?_
      refine spL rfl (fun hb23=>?_) (fun hb23=>?_)
      ·obtain⟨x26,tl,hx27,h,hk2⟩:=RG.t hA29 h hb23
       unfold z0h at h
       refine rn 2 rfl ?_
       refine jK h (fun(p:Bool)=>(⟨[(2,(V.lst 2 (a3.map q9b))),(3,(V.ptr 0 6 0 0)),(4,(V.ptr 1 2 0 0)),(8,(V.ptr 2 2 0 0)),(9,(bV p)),(12,(V.lst 2 (a3.map q9b))),(13,(iV ((a3.length:Nat):Int))),(14,(iV n6)),(30,(bV (Op.bytesLess x10.Type_ x13.Type_||x10.Type_==x13.Type_))),(38,(bV (!((q6b a2.reached x10.Func).getD false)))),(45,(V.lst 1 (((q6b a1.funcs x10.Func).getD (q5e.mk ([]:B8) ([]:B8) ([]:(List q6c)) ([]:(List B8)))).Makes.map q6f))),(46,(iV ((((q6b a1.funcs x10.Func).getD (q5e.mk ([]:B8) ([]:B8) ([]:(List q6c)) ([]:(List B8)))).Makes.length:Nat):Int))),(47,(iV n22))],[(0,(Ob.arr 155 6 [(q3a a1)])),(1,(Ob.arr 193 2 [(q8a a2)])),(2,(Ob.arr 76 2 [(q9b x10)]))],3⟩:St)) (fun k24 p=>k24 p=some r) (fun k24 h=>?_) ?_
       ·refine rn 3 rfl ?_
        refine ixh hx27 rfl rfl ?_
        refine rn 6 rfl ?_
        refine spO 52 h rfl (fun hb28 h=>?_) (fun hb28 h=>?_)
        ·refine rn 8 rfl ?_
         exact jX true h (gr [0,1,2] rfl (hB rfl rfl rfl (hB rfl rfl rfl (hB rfl rfl rfl .nil))) rfl)
        refine rn 8 rfl ?_
        exact jX (x26==x10.Type_) h (gr [0,1,2] rfl (hB rfl rfl rfl (hB rfl rfl rfl (hB rfl rfl rfl .nil))) rfl)
       intro b25 h
       refine rn 4 rfl ?_
       exact jX (b25,(w64 (n22+1))) (hk2 _ h) (gr [0,1,2] rfl (hB rfl rfl rfl (hB rfl rfl rfl (hB rfl rfl rfl .nil))) rfl)
      replace h:=RG.f h hb23
      unfold z0h at h
      refine rn 1 rfl ?_
      exact jX b21 h (gr [0,1] rfl (hB rfl rfl rfl (hB rfl rfl rfl .nil)) rfl)
     intro b18 h
     refine rn 5 rfl ?_
     refine spC h rfl (fun hb30 h=>?_) (fun hb30 h=>?_)
     ·refine rn 4 rfl ?_
      exact rt h rfl
     refine rn 2 rfl ?_
     exact jX (!((q6b a2.reached x10.Func).getD false)) h (gr [0,1] rfl (hB rfl rfl rfl (hB rfl rfl rfl .nil)) rfl)
    refine dr mixed (vs 2 rfl (vb hb12 rfl (vs 15 rfl (xD (OD.mk [(32,(bV false)),(34,(V.imap (a2.reached.map q5b))),(36,(sV x10.Func))] [] [(37,(bV ((q6b a2.reached x10.Func).getD false)))] []) ⟨⟨rfl,rfl,rfl,trivial⟩,trivial⟩ (by exact fun S hn h hh=>q7d _ (bV false) (bV ((q6b a2.reached x10.Func).getD false)) q4j q6h j4m (q9f _) (q4i (c:=false) (b:=false) 32 rfl h.1 rfl) h.2.1 .imm (.con h.2.2.1) ⟨_,rfl⟩ q7e (q3h a2.reached x10.Func) (q1f (q5g) (q6b a2.reached x10.Func) false) rfl (q8d ⟨rfl,rfl⟩)) rfl (vs 2 rfl .nil))))) (by kernel_rfl) ?_
    refine spC h rfl (fun hb31 h=>?_) (fun hb31 h=>?_)
    ·refine rn 4 rfl ?_
     exact rt h rfl
    refine rn 12 rfl ?_
    refine q7d _ (V.agg [(sV ([]:B8)),(sV ([]:B8)),(V.lst 4 (([]:List q6c).map q6d)),(V.lst 1 (([]:List B8).map q6f))]) (V.agg (q8c ((q6b a1.funcs x10.Func).getD (q5e.mk ([]:B8) ([]:B8) ([]:(List q6c)) ([]:(List B8)))))) j4t q6h w4v (z3p (.con (.con (.sl (.sl .nil))))) q7a rfl .imm (.con rfl) ⟨_,rfl⟩ q7u (z0b a1.funcs x10.Func) (q1f (q7o) (q6b a1.funcs x10.Func) (q5e.mk ([]:B8) ([]:B8) ([]:(List q6c)) ([]:(List B8)))) rfl ?_
    refine fo (rn 1 rfl ?_)
    refine ln rfl rfl ?_
    refine rn 2 rfl ?_
    refine jK h (fun(p:Bool)=>(⟨[(2,(V.lst 2 (a3.map q9b))),(3,(V.ptr 0 6 0 0)),(4,(V.ptr 1 2 0 0)),(9,(bV p)),(12,(V.lst 2 (a3.map q9b))),(13,(iV ((a3.length:Nat):Int))),(14,(iV n6)),(30,(V.con undef)),(38,(bV (!((q6b a2.reached x10.Func).getD false))))],[(0,(Ob.arr 155 6 [(q3a a1)])),(1,(Ob.arr 193 2 [(q8a a2)]))],2⟩:St)) (fun k32 p=>k32 p=some r) (fun k32 h=>?_) ?_
    ·refine rn 1 rfl ?_
     refine wl (A:=((q6b a1.funcs x10.Func).getD (q5e.mk ([]:B8) ([]:B8) ([]:(List q6c)) ([]:(List B8)))).Makes) 45 rfl (fun hA44=>?_)
     refine lC (fun(p:Bool×Int)=>(⟨[(2,(V.lst 2 (a3.map q9b))),(3,(V.ptr 0 6 0 0)),(4,(V.ptr 1 2 0 0)),(8,(V.ptr 2 2 0 0)),(9,(bV (p.1))),(12,(V.lst 2 (a3.map q9b))),(13,(iV ((a3.length:Nat):Int))),(14,(iV n6)),(30,(V.con undef)),(38,(bV (!((q6b a2.reached x10.Func).getD false)))),(45,(V.lst 1 (((q6b a1.funcs x10.Func).getD (q5e.mk ([]:B8) ([]:B8) ([]:(List q6c)) ([]:(List B8)))).Makes.map q6f))),(46,(iV ((((q6b a1.funcs x10.Func).getD (q5e.mk ([]:B8) ([]:B8) ([]:(List q6c)) ([]:(List B8)))).Makes.length:Nat):Int))),(47,(iV (p.2)))],[(0,(Ob.arr 155 6 [(q3a a1)])),(1,(Ob.arr 193 2 [(q8a a2)])),(2,(Ob.arr 76 2 [(q9b x10)]))],3⟩:St)) (fun n p=>RG (((q6b a1.funcs x10.Func).getD (q5e.mk ([]:B8) ([]:B8) ([]:(List q6c)) ([]:(List B8)))).Makes) (fun tl nn=>z9g F x10 k32 tl p.1=some r) n p.2) (fun p h=>RG.zero h) ((((q6b a1.funcs x10.Func).getD (q5e.mk ([]:B8) ([]:B8) ([]:(List q6c)) ([]:(List B8)))).Makes).length+1) (false,0) (RG.start h) (gr [0,1,2] rfl (hB rfl rfl rfl (hB rfl rfl rfl (hB rfl rfl rfl .nil))) rfl) (fun n p h=>?_)
     obtain⟨b36,n37⟩:=p
     refine rn 5 rfl ?_
     refine spL rfl (fun hb38=>?_) (fun hb38=>?_)
     ·obtain⟨x41,tl,hx42,h,hk3⟩:=RG.t hA44 h hb38
      unfold z9g at h
      refine rn 2 rfl ?_
      refine jK h (fun(p:Bool)=>(⟨[(2,(V.lst 2 (a3.map q9b))),(3,(V.ptr 0 6 0 0)),(4,(V.ptr 1 2 0 0)),(8,(V.ptr 2 2 0 0)),(9,(bV p)),(12,(V.lst 2 (a3.map q9b))),(13,(iV ((a3.length:Nat):Int))),(14,(iV n6)),(30,(V.con undef)),(38,(bV (!((q6b a2.reached x10.Func).getD false)))),(45,(V.lst 1 (((q6b a1.funcs x10.Func).getD (q5e.mk ([]:B8) ([]:B8) ([]:(List q6c)) ([]:(List B8)))).Makes.map q6f))),(46,(iV ((((q6b a1.funcs x10.Func).getD (q5e.mk ([]:B8) ([]:B8) ([]:(List q6c)) ([]:(List B8)))).Makes.length:Nat):Int))),(47,(iV n37))],[(0,(Ob.arr 155 6 [(q3a a1)])),(1,(Ob.arr 193 2 [(q8a a2)])),(2,(Ob.arr 76 2 [(q9b x10)]))],3⟩:St)) (fun k39 p=>k39 p=some r) (fun k39 h=>?_) ?_
      ·refine rn 3 rfl ?_
       refine ixh hx42 rfl rfl ?_
       refine rn 6 rfl ?_
       refine spO 52 h rfl (fun hb43 h=>?_) (fun hb43 h=>?_)
       ·refine rn 8 rfl ?_
        exact jX true h (gr [0,1,2] rfl (hB rfl rfl rfl (hB rfl rfl rfl (hB rfl rfl rfl .nil))) rfl)
       refine rn 8 rfl ?_
       exact jX (x41==x10.Type_) h (gr [0,1,2] rfl (hB rfl rfl rfl (hB rfl rfl rfl (hB rfl rfl rfl .nil))) rfl)
      intro b40 h
      refine rn 4 rfl ?_
      exact jX (b40,(w64 (n37+1))) (hk3 _ h) (gr [0,1,2] rfl (hB rfl rfl rfl (hB rfl rfl rfl (hB rfl rfl rfl .nil))) rfl)
     replace h:=RG.f h hb38
     unfold z9g at h
     refine rn 1 rfl ?_
     exact jX b36 h (gr [0,1] rfl (hB rfl rfl rfl (hB rfl rfl rfl .nil)) rfl)
    intro b33 h
    refine rn 5 rfl ?_
    refine spC h rfl (fun hb45 h=>?_) (fun hb45 h=>?_)
    ·refine rn 4 rfl ?_
     exact rt h rfl
    refine rn 2 rfl ?_
    exact jX (!((q6b a2.reached x10.Func).getD false)) h (gr [0,1] rfl (hB rfl rfl rfl (hB rfl rfl rfl .nil)) rfl)
   intro b9 h
   refine rn 4 rfl ?_
   exact jX (w64 (n6+1)) (hk1 _ h) (gr [0,1] rfl (hB rfl rfl rfl (hB rfl rfl rfl .nil)) rfl)
  replace h:=RG.f h hb7
  unfold z3c at h
  refine rn 1 rfl ?_
  exact jX () h (g0 rfl rfl)
 intro _ h
 refine rn 4 rfl ?_
 exact rt h rfl
end Go.Proofs.YtpbkggamiipdmaaGreat
