/- Part of the proof: Z10W10a. -/
import Derived.Test.YtpbkggamiipdmaaGreatR10Z10M
import Derived.Test.YtpbkggamiipdmaaGreatR10Z10Sh
import Derived.Test.YtpbkggamiipdmaaGreatR10Z10O
import Derived.KernelRfl
namespace Go.Proofs.YtpbkggamiipdmaaGreat
open Go Go.Pv
set_option linter.unusedVariables false
set_option maxRecDepth 100000
theorem W59(F:Nat)(a1:q7c)(a2:Bool)(r:q9c)(h:M59 F a1 a2=some r):q5n Tryz.prog 59 [(V.agg (q3d a1)),(bV a2)] (V.agg (q1e r)):=by
 refine pin (fun r=>(V.agg (q1e r))) r rfl Tryz.func59 rfl rfl rfl rfl rfl (fun w0 m0 hg=>?_)
 unfold M59 at h
 refine rn 20 rfl ?_
 refine ln rfl rfl ?_
 refine rn 2 rfl ?_
 refine jK h (fun(p:(List (B8×q0f)))=>(⟨[(2,(V.ptr 0 4 0 0)),(4,(V.ptr 1 4 0 0)),(5,(V.ptr 2 4 0 0))],[(0,(Ob.arr 27 4 [(q3d a1)])),(1,(Ob.arr 124 4 [[(bV false),(V.con (.map none)),(V.con (.map none)),(V.con (.map none))]])),(2,(Ob.arr 124 4 [[(bV a2),(V.map 3),(V.map 4),(V.map 5)]])),(3,(Ob.map (p.map q1m))),(4,(Ob.map (([]:List (B8×Bool)).map q5b))),(5,(Ob.map (([]:List (B8×Bool)).map q5b)))],6⟩:St)) (fun k3 p=>k3 p=some r) (fun k3 h=>?_) ?_
 ·refine rn 1 rfl ?_
  refine wl (A:=a1.Ifaces) 18 rfl (fun hA12=>?_)
  refine lC (fun(p:Int×(List (B8×q0f)))=>(⟨[(2,(V.ptr 0 4 0 0)),(4,(V.ptr 1 4 0 0)),(5,(V.ptr 2 4 0 0)),(18,(V.lst 2 (a1.Ifaces.map q2d))),(19,(iV ((a1.Ifaces.length:Nat):Int))),(20,(iV (p.1)))],[(0,(Ob.arr 27 4 [(q3d a1)])),(1,(Ob.arr 124 4 [[(bV false),(V.con (.map none)),(V.con (.map none)),(V.con (.map none))]])),(2,(Ob.arr 124 4 [[(bV a2),(V.map 3),(V.map 4),(V.map 5)]])),(3,(Ob.map ((p.2).map q1m))),(4,(Ob.map (([]:List (B8×Bool)).map q5b))),(5,(Ob.map (([]:List (B8×Bool)).map q5b)))],6⟩:St)) (fun n p=>RG a1.Ifaces (fun tl nn=>j4i F k3 tl p.2=some r) n p.1) (fun p h=>RG.zero h) (a1.Ifaces.length+1) (0,([]:List (B8×q0f))) (RG.start h) (gr [0,1,5,2,3,4] rfl (hB rfl rfl rfl (hB rfl rfl rfl (hB rfl rfl rfl (hM rfl rfl (hM rfl rfl (hM rfl rfl .nil)))))) rfl) (fun n p h=>?_)
  obtain⟨n7,m8⟩:=p
  refine rn 5 rfl ?_
  refine spL rfl (fun hb9=>?_) (fun hb9=>?_)
  ·obtain⟨x10,tl,hx11,h,hk1⟩:=RG.t hA12 h hb9
   unfold j4i at h
   refine rn 5 rfl ?_
   refine ixh hx11 rfl rfl ?_
   refine rn 10 rfl ?_
   refine q3f (es:=m8.map q1m) ((q0g m8 x10.Name x10).map q1m) v7x q6h q7a rfl rfl (.con rfl) ⟨_,rfl⟩ z7p rfl (j8v m8 x10.Name x10) ?_
   refine fo (rn 6 rfl ?_)
   exact jX ((w64 (n7+1)),(q0g m8 x10.Name x10)) (hk1 _ h) (gr [0,1,2,3,4,5] rfl (hB rfl rfl rfl (hB rfl rfl rfl (hB rfl rfl rfl (hM rfl rfl (hM rfl rfl (hM rfl rfl .nil)))))) rfl)
  replace h:=RG.f h hb9
  unfold j4i at h
  refine rn 1 rfl ?_
  exact jX m8 h (gr [0,1,2,3,4,5] rfl (hB rfl rfl rfl (hB rfl rfl rfl (hB rfl rfl rfl (hM rfl rfl (hM rfl rfl (hM rfl rfl .nil)))))) rfl)
 intro m4 h
 refine rn 5 rfl ?_
 refine ln rfl rfl ?_
 refine rn 2 rfl ?_
 refine jK h (fun(p:(List (B8×Bool)))=>(⟨[(2,(V.ptr 0 4 0 0)),(4,(V.ptr 1 4 0 0)),(5,(V.ptr 2 4 0 0))],[(0,(Ob.arr 27 4 [(q3d a1)])),(1,(Ob.arr 124 4 [[(bV false),(V.con (.map none)),(V.con (.map none)),(V.con (.map none))]])),(2,(Ob.arr 124 4 [[(bV a2),(V.map 3),(V.map 4),(V.map 5)]])),(3,(Ob.map (m4.map q1m))),(4,(Ob.map (p.map q5b))),(5,(Ob.map (([]:List (B8×Bool)).map q5b)))],6⟩:St)) (fun k13 p=>k13 p=some r) (fun k13 h=>?_) ?_
 ·refine rn 1 rfl ?_
  refine wl (A:=a1.Types) 31 rfl (fun hA22=>?_)
  refine lC (fun(p:Int×(List (B8×Bool)))=>(⟨[(2,(V.ptr 0 4 0 0)),(4,(V.ptr 1 4 0 0)),(5,(V.ptr 2 4 0 0)),(31,(V.lst 2 (a1.Types.map q6e))),(32,(iV ((a1.Types.length:Nat):Int))),(33,(iV (p.1)))],[(0,(Ob.arr 27 4 [(q3d a1)])),(1,(Ob.arr 124 4 [[(bV false),(V.con (.map none)),(V.con (.map none)),(V.con (.map none))]])),(2,(Ob.arr 124 4 [[(bV a2),(V.map 3),(V.map 4),(V.map 5)]])),(3,(Ob.map (m4.map q1m))),(4,(Ob.map ((p.2).map q5b))),(5,(Ob.map (([]:List (B8×Bool)).map q5b)))],6⟩:St)) (fun n p=>RG a1.Types (fun tl nn=>j3i F k13 tl p.2=some r) n p.1) (fun p h=>RG.zero h) (a1.Types.length+1) (0,([]:List (B8×Bool))) (RG.start h) (gr [0,1,2,3,4,5] rfl (hB rfl rfl rfl (hB rfl rfl rfl (hB rfl rfl rfl (hM rfl rfl (hM rfl rfl (hM rfl rfl .nil)))))) rfl) (fun n p h=>?_)
  obtain⟨n17,m18⟩:=p
  refine rn 5 rfl ?_
  refine spL rfl (fun hb19=>?_) (fun hb19=>?_)
  ·obtain⟨x20,tl,hx21,h,hk2⟩:=RG.t hA22 h hb19
   unfold j3i at h
   refine rn 5 rfl ?_
   refine ixh hx21 rfl rfl ?_
   refine rn 9 rfl ?_
   refine q3f (es:=m18.map q5b) ((q0g m18 x20.Name true).map q5b) q4j q6h q7a rfl rfl (.con rfl) ⟨_,rfl⟩ q7e rfl (q1i m18 x20.Name true) ?_
   refine fo (rn 6 rfl ?_)
   exact jX ((w64 (n17+1)),(q0g m18 x20.Name true)) (hk2 _ h) (gr [0,1,2,3,4,5] rfl (hB rfl rfl rfl (hB rfl rfl rfl (hB rfl rfl rfl (hM rfl rfl (hM rfl rfl (hM rfl rfl .nil)))))) rfl)
  replace h:=RG.f h hb19
  unfold j3i at h
  refine rn 1 rfl ?_
  exact jX m18 h (gr [0,1,2,3,4,5] rfl (hB rfl rfl rfl (hB rfl rfl rfl (hB rfl rfl rfl (hM rfl rfl (hM rfl rfl (hM rfl rfl .nil)))))) rfl)
 intro m14 h
 refine rn 5 rfl ?_
 refine ln rfl rfl ?_
 refine rn 2 rfl ?_
 refine jK h (fun(p:(List (B8×Bool)))=>(⟨[(4,(V.ptr 0 4 0 0)),(5,(V.ptr 1 4 0 0))],[(0,(Ob.arr 124 4 [[(bV false),(V.con (.map none)),(V.con (.map none)),(V.con (.map none))]])),(1,(Ob.arr 124 4 [[(bV a2),(V.map 2),(V.map 3),(V.map 4)]])),(2,(Ob.map (m4.map q1m))),(3,(Ob.map (m14.map q5b))),(4,(Ob.map (p.map q5b)))],5⟩:St)) (fun k23 p=>k23 p=some r) (fun k23 h=>?_) ?_
 ·refine rn 1 rfl ?_
  refine wl (A:=a1.Funcs) 43 rfl (fun hA32=>?_)
  refine lC (fun(p:Int×(List (B8×Bool)))=>(⟨[(4,(V.ptr 0 4 0 0)),(5,(V.ptr 1 4 0 0)),(43,(V.lst 4 (a1.Funcs.map q8c))),(44,(iV ((a1.Funcs.length:Nat):Int))),(45,(iV (p.1)))],[(0,(Ob.arr 124 4 [[(bV false),(V.con (.map none)),(V.con (.map none)),(V.con (.map none))]])),(1,(Ob.arr 124 4 [[(bV a2),(V.map 2),(V.map 3),(V.map 4)]])),(2,(Ob.map (m4.map q1m))),(3,(Ob.map (m14.map q5b))),(4,(Ob.map ((p.2).map q5b)))],5⟩:St)) (fun n p=>RG a1.Funcs (fun tl nn=>j2i F k23 tl p.2=some r) n p.1) (fun p h=>RG.zero h) (a1.Funcs.length+1) (0,([]:List (B8×Bool))) (RG.start h) (gr [1,2,3,4,5] rfl (hB rfl rfl rfl (hB rfl rfl rfl (hM rfl rfl (hM rfl rfl (hM rfl rfl .nil))))) rfl) (fun n p h=>?_)
  obtain⟨n27,m28⟩:=p
  refine rn 5 rfl ?_
  refine spL rfl (fun hb29=>?_) (fun hb29=>?_)
  ·obtain⟨x30,tl,hx31,h,hk3⟩:=RG.t hA32 h hb29
   unfold j2i at h
   refine rn 5 rfl ?_
   refine ixh hx31 rfl rfl ?_
   refine rn 9 rfl ?_
   refine q3f (es:=m28.map q5b) ((q0g m28 x30.Name true).map q5b) q4j q6h q7a rfl rfl (.con rfl) ⟨_,rfl⟩ q7e rfl (q1i m28 x30.Name true) ?_
   refine fo (rn 6 rfl ?_)
   exact jX ((w64 (n27+1)),(q0g m28 x30.Name true)) (hk3 _ h) (gr [0,1,2,3,4] rfl (hB rfl rfl rfl (hB rfl rfl rfl (hM rfl rfl (hM rfl rfl (hM rfl rfl .nil))))) rfl)
  replace h:=RG.f h hb29
  unfold j2i at h
  refine rn 1 rfl ?_
  exact jX m28 h (gr [0,1,2,3,4] rfl (hB rfl rfl rfl (hB rfl rfl rfl (hM rfl rfl (hM rfl rfl (hM rfl rfl .nil))))) rfl)
 intro m24 h
 refine rn 5 rfl ?_
 refine q0e (q1l 2 0 (Ob.arr 124 4 [[(bV a2),(V.imap (m4.map q1m)),(V.map 3),(V.map 4)]]) rfl v7b (q4b.box (.cons Sub.keepM (.cons Sub.frzM (.cons Sub.keepM (.cons Sub.keepM .nil)))))) ?_
 refine q0e (q1l 3 0 (Ob.arr 124 4 [[(bV a2),(V.imap (m4.map q1m)),(V.imap (m14.map q5b)),(V.map 4)]]) rfl q0m (q4b.box (.cons Sub.keepM (.cons Sub.keepM (.cons Sub.frzM (.cons Sub.keepM .nil)))))) ?_
 refine q0e (q1l 4 0 (Ob.arr 124 4 [[(bV a2),(V.imap (m4.map q1m)),(V.imap (m14.map q5b)),(V.imap (m24.map q5b))]]) rfl q0m (q4b.box (.cons Sub.keepM (.cons Sub.keepM (.cons Sub.keepM (.cons Sub.frzM .nil)))))) ?_
 refine fa ?_
 exact rt h rfl
theorem W79(F:Nat)(a1:B8)(r:Bool)(h:M79 F a1=some r):q5n Tryz.prog 79 [(sV a1)] (bV r):=by
 refine pin (fun r=>(bV r)) r rfl Tryz.func79 rfl rfl rfl rfl rfl (fun w0 m0 hg=>?_)
 unfold M79 at h
 refine rn 11 rfl ?_
 refine jK h (fun _:Unit=>(⟨[(0,(sV a1))],[],0⟩:St)) (fun k2 (_:Unit)=>k2=some r) (fun k2 h=>?_) ?_
 ·refine rn 1 rfl ?_
  refine ck h (fun hA15 h=>?_)
  refine lC (fun(p:Int)=>(⟨[(0,(sV a1)),(5,(iV (a1.length:Int))),(6,(iV p))],[],0⟩:St)) (fun n p=>RC (a1.length:Int) (fun tl nn=>j7h F a1 k2 tl nn=some r) n p) (fun p h=>RC.zero h) (Int.toNat (a1.length:Int)+1) 0 (RC.start h) (g0 rfl rfl) (fun n n4 h=>?_)
  refine rn 5 rfl ?_
  refine spL rfl (fun hb5=>?_) (fun hb5=>?_)
  ·obtain⟨tl,h,hk1⟩:=RC.t hA15 h hb5
   unfold j7h at h
   refine rn 12 rfl ?_
   refine ixs h rfl rfl (fun c6 hx7 h=>?_)
   refine rn 2 rfl ?_
   refine spO 13 h rfl (fun hb8 h=>?_) (fun hb8 h=>?_)
   ·refine rn 17 rfl ?_
    exact rt h rfl
   refine rn 2 rfl ?_
   refine ixs h rfl rfl (fun c9 hx10 h=>?_)
   refine rn 3 rfl ?_
   refine spO 19 h rfl (fun hb11 h=>?_) (fun hb11 h=>?_)
   ·refine rn 11 rfl ?_
    exact rt h rfl
   refine rn 2 rfl ?_
   refine ixs h rfl rfl (fun c12 hx13 h=>?_)
   refine rn 3 rfl ?_
   refine spC h rfl (fun hb14 h=>?_) (fun hb14 h=>?_)
   ·refine rn 4 rfl ?_
    exact rt h rfl
   refine rn 6 rfl ?_
   exact jX (w64 (n4+1)) (hk1 _ h) (g0 rfl rfl)
  replace h:=RC.f h hb5
  unfold j7h at h
  refine rn 1 rfl ?_
  exact jX () h (g0 rfl rfl)
 intro _ h
 refine rn 5 rfl ?_
 refine spO 28 h rfl (fun hb16 h=>?_) (fun hb16 h=>?_)
 ·refine rn 6 rfl ?_
  exact rt h rfl
 refine rn 6 rfl ?_
 exact rt h rfl
theorem W173(F:Nat)(a1:B8)(a2:B8)(a3:Bool)(r:Int)(h:w0j F a1 a2 a3=some r):q5n Tryz.prog 173 [(sV a1),(sV a2),(bV a3)] (iV r):=by
 refine pin (fun r=>(iV r)) r rfl Tryz.func173 rfl rfl rfl rfl rfl (fun w0 m0 hg=>?_)
 unfold w0j at h
 refine rn 9 rfl ?_
 refine cl h rfl rfl rfl (W79 _ _) rfl (fun y4 hx5 h=>?_)
 refine rn 3 rfl ?_
 refine jK h (fun _:Unit=>(⟨[],[],0⟩:St)) (fun k6 (_:Unit)=>k6=some r) (fun k6 h=>?_) ?_
 ·refine spC h rfl (fun hb7 h=>?_) (fun hb7 h=>?_)
  ·refine rn 4 rfl ?_
   exact rt h rfl
  refine rn 5 rfl ?_
  refine spO 14 h rfl (fun hb8 h=>?_) (fun hb8 h=>?_)
  ·refine rn 6 rfl ?_
   refine spC h rfl (fun hb9 h=>?_) (fun hb9 h=>?_)
   ·refine rn 4 rfl ?_
    exact rt h rfl
   refine rn 1 rfl ?_
   exact jX () h (g0 rfl rfl)
  refine rn 8 rfl ?_
  exact jX () h (g0 rfl rfl)
 intro _ h
 refine rn 5 rfl ?_
 exact rt h rfl
theorem W127(F:Nat)(a1:q9c)(a2:(List q0f))(r:Int)(h:M127 F a1 a2=some r):q5n Tryz.prog 127 [(V.agg (q1e a1)),(V.lst 2 (a2.map q2d))] (iV r):=by
 refine pin (fun r=>(iV r)) r rfl Tryz.func127 rfl rfl rfl rfl rfl (fun w0 m0 hg=>?_)
 unfold M127 at h
 refine rn 13 rfl ?_
 refine ln rfl rfl ?_
 refine rn 2 rfl ?_
 refine jK h (fun _:Unit=>(⟨[],[],0⟩:St)) (fun k3 (_:Unit)=>k3=some r) (fun k3 h=>?_) ?_
 ·refine rn 1 rfl ?_
  refine wl (A:=a2) 1 rfl (fun hA30=>?_)
  refine lC (fun(p:B8×Int)=>(⟨[(5,(sV (p.1))),(13,(V.lst 2 (a2.map q2d))),(14,(iV ((a2.length:Nat):Int))),(15,(iV (p.2)))],[],0⟩:St)) (fun n p=>RG a2 (fun tl nn=>z8g F k3 tl nn p.1=some r) n p.2) (fun p h=>RG.zero h) (a2.length+1) (([]:B8),0) (RG.start h) (g0 rfl rfl) (fun n p h=>?_)
  obtain⟨s6,n7⟩:=p
  refine rn 5 rfl ?_
  refine spL rfl (fun hb8=>?_) (fun hb8=>?_)
  ·obtain⟨x11,tl,hx12,h,hk1⟩:=RG.t hA30 h hb8
   unfold z8g at h
   refine rn 2 rfl ?_
   refine jK h (fun(p:B8)=>(⟨[(5,(sV p)),(13,(V.lst 2 (a2.map q2d))),(14,(iV ((a2.length:Nat):Int))),(15,(iV n7))],[],0⟩:St)) (fun k9 p=>k9 p=some r) (fun k9 h=>?_) ?_
   ·refine rn 4 rfl ?_
    refine ixh hx12 rfl rfl ?_
    refine rn 13 rfl ?_
    refine cl h rfl rfl rfl (W173 _ _ _ _) rfl (fun y13 hx14 h=>?_)
    refine rn 7 rfl ?_
    refine spC h rfl (fun hb15 h=>?_) (fun hb15 h=>?_)
    ·refine rn 5 rfl ?_
     exact rt h rfl
    refine rn 13 rfl ?_
    refine ln rfl rfl ?_
    refine rn 3 rfl ?_
    refine spC h rfl (fun hb16 h=>?_) (fun hb16 h=>?_)
    ·refine rn 4 rfl ?_
     exact rt h rfl
    refine rn 4 rfl ?_
    refine ln rfl rfl ?_
    refine rn 3 rfl ?_
    refine spC h rfl (fun hb17 h=>?_) (fun hb17 h=>?_)
    ·refine rn 4 rfl ?_
     exact rt h rfl
    refine rn 10 rfl ?_
    refine ln rfl rfl ?_
    refine rn 2 rfl ?_
    refine jK h (fun _:Unit=>(⟨[(5,(sV x11.Name)),(13,(V.lst 2 (a2.map q2d))),(14,(iV ((a2.length:Nat):Int))),(15,(iV n7))],[],0⟩:St)) (fun k18 (_:Unit)=>k18=some r) (fun k18 h=>?_) ?_
    ·refine rn 1 rfl ?_
     refine wl (A:=x11.Methods) 33 rfl (fun hA29=>?_)
     refine lC (fun(p:B8×Int)=>(⟨[(5,(sV x11.Name)),(9,(sV (p.1))),(13,(V.lst 2 (a2.map q2d))),(14,(iV ((a2.length:Nat):Int))),(15,(iV n7)),(42,(V.lst 1 (x11.Methods.map q6f))),(43,(iV ((x11.Methods.length:Nat):Int))),(44,(iV (p.2)))],[],0⟩:St)) (fun n p=>RG x11.Methods (fun tl nn=>z7g F k18 tl nn p.1=some r) n p.2) (fun p h=>RG.zero h) (x11.Methods.length+1) (([]:B8),0) (RG.start h) (g0 rfl rfl) (fun n p h=>?_)
     obtain⟨s21,n22⟩:=p
     refine rn 5 rfl ?_
     refine spL rfl (fun hb23=>?_) (fun hb23=>?_)
     ·obtain⟨x24,tl,hx25,h,hk2⟩:=RG.t hA29 h hb23
      unfold z7g at h
      refine rn 6 rfl ?_
      refine ixh hx25 rfl rfl ?_
      refine rn 11 rfl ?_
      refine cl h rfl rfl rfl (W173 _ _ _ _) rfl (fun y26 hx27 h=>?_)
      refine rn 7 rfl ?_
      refine spC h rfl (fun hb28 h=>?_) (fun hb28 h=>?_)
      ·refine rn 5 rfl ?_
       exact rt h rfl
      refine rn 10 rfl ?_
      exact jX (x24,(w64 (n22+1))) (hk2 _ h) (g0 rfl rfl)
     replace h:=RG.f h hb23
     unfold z7g at h
     refine rn 1 rfl ?_
     exact jX () h (g0 rfl rfl)
    intro _ h
    refine rn 1 rfl ?_
    exact jX x11.Name h (g0 rfl rfl)
   intro s10 h
   refine rn 4 rfl ?_
   exact jX (s10,(w64 (n7+1))) (hk1 _ h) (g0 rfl rfl)
  replace h:=RG.f h hb8
  unfold z8g at h
  refine rn 1 rfl ?_
  exact jX () h (g0 rfl rfl)
 intro _ h
 refine rn 4 rfl ?_
 exact rt h rfl
theorem W128(F:Nat)(a1:q9c)(a2:(List q7i))(r:Int)(h:M128 F a1 a2=some r):q5n Tryz.prog 128 [(V.agg (q1e a1)),(V.lst 2 (a2.map q6e))] (iV r):=by
 refine pin (fun r=>(iV r)) r rfl Tryz.func128 rfl rfl rfl rfl rfl (fun w0 m0 hg=>?_)
 unfold M128 at h
 refine rn 13 rfl ?_
 refine ln rfl rfl ?_
 refine rn 2 rfl ?_
 refine jK h (fun _:Unit=>(⟨[],[],0⟩:St)) (fun k3 (_:Unit)=>k3=some r) (fun k3 h=>?_) ?_
 ·refine rn 1 rfl ?_
  refine wl (A:=a2) 1 rfl (fun hA33=>?_)
  refine lC (fun(p:B8×Int)=>(⟨[(2,(V.ptr 0 4 0 0)),(5,(sV (p.1))),(13,(V.lst 2 (a2.map q6e))),(14,(iV ((a2.length:Nat):Int))),(15,(iV (p.2)))],[(0,(Ob.arr 124 4 [(q1e a1)]))],1⟩:St)) (fun n p=>RG a2 (fun tl nn=>z6g F a1 k3 tl nn p.1=some r) n p.2) (fun p h=>RG.zero h) (a2.length+1) (([]:B8),0) (RG.start h) (gr [0] rfl (hB rfl rfl rfl .nil) rfl) (fun n p h=>?_)
  obtain⟨s6,n7⟩:=p
  refine rn 5 rfl ?_
  refine spL rfl (fun hb8=>?_) (fun hb8=>?_)
  ·obtain⟨x11,tl,hx12,h,hk1⟩:=RG.t hA33 h hb8
   unfold z6g at h
   refine rn 2 rfl ?_
   refine jK h (fun(p:B8)=>(⟨[(2,(V.ptr 0 4 0 0)),(5,(sV p)),(13,(V.lst 2 (a2.map q6e))),(14,(iV ((a2.length:Nat):Int))),(15,(iV n7))],[(0,(Ob.arr 124 4 [(q1e a1)]))],1⟩:St)) (fun k9 p=>k9 p=some r) (fun k9 h=>?_) ?_
   ·refine rn 4 rfl ?_
    refine ixh hx12 rfl rfl ?_
    refine rn 13 rfl ?_
    refine cl h rfl rfl rfl (W173 _ _ _ _) rfl (fun y13 hx14 h=>?_)
    refine rn 7 rfl ?_
    refine spC h rfl (fun hb15 h=>?_) (fun hb15 h=>?_)
    ·refine rn 5 rfl ?_
     exact rt h rfl
    refine rn 12 rfl ?_
    refine ln rfl rfl ?_
    refine rn 2 rfl ?_
    refine spC h rfl (fun hb16 h=>?_) (fun hb16 h=>?_)
    ·refine rn 4 rfl ?_
     exact rt h rfl
    refine rn 9 rfl ?_
    refine ln rfl rfl ?_
    refine rn 2 rfl ?_
    refine jK h (fun _:Unit=>(⟨[(2,(V.ptr 0 4 0 0)),(5,(sV x11.Name)),(13,(V.lst 2 (a2.map q6e))),(14,(iV ((a2.length:Nat):Int))),(15,(iV n7))],[(0,(Ob.arr 124 4 [(q1e a1)]))],1⟩:St)) (fun k17 (_:Unit)=>k17=some r) (fun k17 h=>?_) ?_
    ·refine rn 1 rfl ?_
     refine wl (A:=x11.Methods) 32 rfl (fun hA32=>?_)
     refine lC (fun(p:B8×Int)=>(⟨[(2,(V.ptr 0 4 0 0)),(5,(sV x11.Name)),(9,(sV (p.1))),(13,(V.lst 2 (a2.map q6e))),(14,(iV ((a2.length:Nat):Int))),(15,(iV n7)),(36,(V.lst 2 (x11.Methods.map q1j))),(37,(iV ((x11.Methods.length:Nat):Int))),(38,(iV (p.2)))],[(0,(Ob.arr 124 4 [(q1e a1)]))],1⟩:St)) (fun n p=>RG x11.Methods (fun tl nn=>z5g F a1 k17 tl nn p.1=some r) n p.2) (fun p h=>RG.zero h) (x11.Methods.length+1) (([]:B8),0) (RG.start h) (gr [0] rfl (hB rfl rfl rfl .nil) rfl) (fun n p h=>?_)
     obtain⟨s20,n21⟩:=p
     refine rn 5 rfl ?_
     refine spL rfl (fun hb22=>?_) (fun hb22=>?_)
     ·obtain⟨x25,tl,hx26,h,hk2⟩:=RG.t hA32 h hb22
      unfold z5g at h
      refine rn 2 rfl ?_
      refine jK h (fun(p:B8)=>(⟨[(2,(V.ptr 0 4 0 0)),(5,(sV x11.Name)),(9,(sV p)),(13,(V.lst 2 (a2.map q6e))),(14,(iV ((a2.length:Nat):Int))),(15,(iV n7)),(36,(V.lst 2 (x11.Methods.map q1j))),(37,(iV ((x11.Methods.length:Nat):Int))),(38,(iV n21))],[(0,(Ob.arr 124 4 [(q1e a1)]))],1⟩:St)) (fun k23 p=>k23 p=some r) (fun k23 h=>?_) ?_
      ·refine rn 4 rfl ?_
       refine ixh hx26 rfl rfl ?_
       refine rn 13 rfl ?_
       refine cl h rfl rfl rfl (W173 _ _ _ _) rfl (fun y27 hx28 h=>?_)
       refine rn 7 rfl ?_
       refine spC h rfl (fun hb29 h=>?_) (fun hb29 h=>?_)
       ·refine rn 5 rfl ?_
        exact rt h rfl
       refine rn 13 rfl ?_
       refine spO 57 h rfl (fun hb30 h=>?_) (fun hb30 h=>?_)
       ·refine rn 4 rfl ?_
        refine q7d _ (bV false) (bV ((q6b a1.funcs x25.Func).getD false)) q4j q6h j4m (q9f _) (q4i (c:=true) (b:=true) 57 rfl rfl rfl) rfl .imm (.con rfl) ⟨_,rfl⟩ q7e (q3h a1.funcs x25.Func) (q1f (q5g) (q6b a1.funcs x25.Func) false) rfl ?_
        refine fo (rn 3 rfl ?_)
        refine spC h rfl (fun hb31 h=>?_) (fun hb31 h=>?_)
        ·refine rn 4 rfl ?_
         exact rt h rfl
        refine rn 2 rfl ?_
        exact jX x25.Name h (gr [0] rfl (hB rfl rfl rfl .nil) rfl)
       refine rn 11 rfl ?_
       exact jX x25.Name h (gr [0] rfl (hB rfl rfl rfl .nil) rfl)
      intro s24 h
      refine rn 4 rfl ?_
      exact jX (s24,(w64 (n21+1))) (hk2 _ h) (gr [0] rfl (hB rfl rfl rfl .nil) rfl)
     replace h:=RG.f h hb22
     unfold z5g at h
     refine rn 1 rfl ?_
     exact jX () h (gr [0] rfl (hB rfl rfl rfl .nil) rfl)
    intro _ h
    refine rn 1 rfl ?_
    exact jX x11.Name h (gr [0] rfl (hB rfl rfl rfl .nil) rfl)
   intro s10 h
   refine rn 4 rfl ?_
   exact jX (s10,(w64 (n7+1))) (hk1 _ h) (gr [0] rfl (hB rfl rfl rfl .nil) rfl)
  replace h:=RG.f h hb8
  unfold z6g at h
  refine rn 1 rfl ?_
  exact jX () h (g0 rfl rfl)
 intro _ h
 refine rn 4 rfl ?_
 exact rt h rfl
theorem W86(F:Nat)(a1:(List B8))(a2:B8)(r:Int)(h:M86 F a1 a2=some r):q5n Tryz.prog 86 [(V.lst 1 (a1.map q6f)),(sV a2)] (iV r):=by
 refine pin (fun r=>(iV r)) r rfl Tryz.func86 rfl rfl rfl rfl rfl (fun w0 m0 hg=>?_)
 unfold M86 at h
 refine rn 8 rfl ?_
 refine ln rfl rfl ?_
 refine rn 2 rfl ?_
 refine jK h (fun _:Unit=>(⟨[],[],0⟩:St)) (fun k3 (_:Unit)=>k3=some r) (fun k3 h=>?_) ?_
 ·refine rn 1 rfl ?_
  refine wl (A:=a1) 0 rfl (fun hA10=>?_)
  refine lC (fun(p:Int)=>(⟨[(0,(V.lst 1 (a1.map q6f))),(1,(sV a2)),(7,(iV ((a1.length:Nat):Int))),(8,(iV p))],[],0⟩:St)) (fun n p=>RG a1 (fun tl nn=>j3h F a2 k3 tl nn=some r) n p) (fun p h=>RG.zero h) (a1.length+1) 0 (RG.start h) (g0 rfl rfl) (fun n n5 h=>?_)
  refine rn 5 rfl ?_
  refine spL rfl (fun hb6=>?_) (fun hb6=>?_)
  ·obtain⟨x7,tl,hx8,h,hk1⟩:=RG.t hA10 h hb6
   unfold j3h at h
   refine rn 13 rfl ?_
   refine ixh hx8 rfl rfl ?_
   refine rn 3 rfl ?_
   refine spC h rfl (fun hb9 h=>?_) (fun hb9 h=>?_)
   ·refine rn 5 rfl ?_
    exact rt h rfl
   refine rn 6 rfl ?_
   exact jX (w64 (n5+1)) (hk1 _ h) (g0 rfl rfl)
  replace h:=RG.f h hb6
  unfold j3h at h
  refine rn 1 rfl ?_
  exact jX () h (g0 rfl rfl)
 intro _ h
 refine rn 4 rfl ?_
 exact rt h rfl
theorem W23(F:Nat)(a1:(List B8))(a2:B8)(r:Bool)(h:M23 F a1 a2=some r):q5n Tryz.prog 23 [(V.lst 1 (a1.map q6f)),(sV a2)] (bV r):=by
 refine pin (fun r=>(bV r)) r rfl Tryz.func23 rfl rfl rfl rfl rfl (fun w0 m0 hg=>?_)
 unfold M23 at h
 refine rn 8 rfl ?_
 refine cl h rfl rfl rfl (W86 _ _ _) rfl (fun y3 hx4 h=>?_)
 refine rn 3 rfl ?_
 exact rt h rfl
theorem W174(F:Nat)(a1:q9c)(a2:q6c)(r:Int)(h:M174 F a1 a2=some r):q5n Tryz.prog 174 [(V.agg (q1e a1)),(V.agg (q6d a2))] (iV r):=by
 refine pin (fun r=>(iV r)) r rfl Tryz.func174 rfl rfl rfl rfl rfl (fun w0 m0 hg=>?_)
 unfold M174 at h
 refine rn 18 rfl ?_
 refine jK h (fun _:Unit=>(⟨[(3,(V.ptr 0 4 0 0))],[(0,(Ob.arr 109 4 [(q6d a2)]))],1⟩:St)) (fun k3 (_:Unit)=>k3=some r) (fun k3 h=>?_) ?_
 ·refine spC h rfl (fun hb4 h=>?_) (fun hb4 h=>?_)
  ·refine rn 7 rfl ?_
   refine spO 14 h rfl (fun hb5 h=>?_) (fun hb5 h=>?_)
   ·refine rn 4 rfl ?_
    refine q7d _ (bV false) (bV ((q6b a1.funcs a2.Target).getD false)) q4j q6h j4m (q9f _) (q4i (c:=true) (b:=true) 14 rfl rfl rfl) rfl .imm (.con rfl) ⟨_,rfl⟩ q7e (q3h a1.funcs a2.Target) (q1f (q5g) (q6b a1.funcs a2.Target) false) rfl ?_
    refine fo (rn 3 rfl ?_)
    refine spC h rfl (fun hb6 h=>?_) (fun hb6 h=>?_)
    ·refine rn 4 rfl ?_
     exact rt h rfl
    refine rn 7 rfl ?_
    refine spC h rfl (fun hb7 h=>?_) (fun hb7 h=>?_)
    ·refine rn 4 rfl ?_
     exact rt h rfl
    refine rn 1 rfl ?_
    exact jX () h (gr [1] rfl (hB rfl rfl rfl .nil) rfl)
   refine rn 16 rfl ?_
   refine spC h rfl (fun hb8 h=>?_) (fun hb8 h=>?_)
   ·refine rn 4 rfl ?_
    exact rt h rfl
   refine rn 1 rfl ?_
   exact jX () h (gr [1] rfl (hB rfl rfl rfl .nil) rfl)
  refine rn 5 rfl ?_
  refine spC h rfl (fun hb9 h=>?_) (fun hb9 h=>?_)
  ·refine rn 6 rfl ?_
   refine q5h _ (V.agg [(sV ([]:B8)),(V.lst 1 (([]:List B8).map q6f))]) (V.agg (q2d ((q6b a1.ifaces a2.Target).getD (q0f.mk ([]:B8) ([]:(List B8)))))) v7x q6h tZo98 (z3p (.con (.sl .nil))) q7a rfl .imm (.con rfl) ⟨_,rfl⟩ z7p (j9v a1.ifaces a2.Target) (q1f (q2t) (q6b a1.ifaces a2.Target) (q0f.mk ([]:B8) ([]:(List B8)))) (q6m ..) rfl ?_
   refine fo (rn 13 rfl ?_)
   refine spO 38 h rfl (fun hb10 h=>?_) (fun hb10 h=>?_)
   ·refine rn 3 rfl ?_
    refine spO 41 h rfl (fun hb11 h=>?_) (fun hb11 h=>?_)
    ·refine rn 14 rfl ?_
     exact rt h rfl
    refine rn 4 rfl ?_
    refine cl h rfl rfl rfl (W23 _ _ _) rfl (fun y12 hx13 h=>?_)
    refine rn 4 rfl ?_
    refine spC h rfl (fun hb14 h=>?_) (fun hb14 h=>?_)
    ·refine rn 4 rfl ?_
     exact rt h rfl
    refine rn 1 rfl ?_
    exact jX () h (gr [1] rfl (hB rfl rfl rfl .nil) rfl)
   refine rn 14 rfl ?_
   exact jX () h (gr [1] rfl (hB rfl rfl rfl .nil) rfl)
  refine rn 4 rfl ?_
  exact rt h rfl
 intro _ h
 refine rn 8 rfl ?_
 refine spO 53 h rfl (fun hb15 h=>?_) (fun hb15 h=>?_)
 ·refine rn 2 rfl ?_
  refine cl h rfl rfl rfl (W79 _ _) rfl (fun y16 hx17 h=>?_)
  refine rn 3 rfl ?_
  refine spC h rfl (fun hb18 h=>?_) (fun hb18 h=>?_)
  ·refine rn 4 rfl ?_
   exact rt h rfl
  refine rn 5 rfl ?_
  exact rt h rfl
 refine rn 12 rfl ?_
 exact rt h rfl
theorem W130(F:Nat)(a1:q9c)(a2:(List B8))(a3:(List (B8×Bool)))(r:Int)(h:M130 F a1 a2 a3=some r):q5n Tryz.prog 130 [(V.agg (q1e a1)),(V.lst 1 (a2.map q6f)),(V.imap (a3.map q5b))] (iV r):=by
 refine pin (fun r=>(iV r)) r rfl Tryz.func130 rfl rfl rfl rfl rfl (fun w0 m0 hg=>?_)
 unfold M130 at h
 refine rn 9 rfl ?_
 refine ln rfl rfl ?_
 refine rn 2 rfl ?_
 refine jK h (fun _:Unit=>(⟨[],[],0⟩:St)) (fun k4 (_:Unit)=>k4=some r) (fun k4 h=>?_) ?_
 ·refine rn 1 rfl ?_
  refine wl (A:=a2) 1 rfl (fun hA22=>?_)
  refine lC (fun(p:Int)=>(⟨[(1,(V.lst 1 (a2.map q6f))),(2,(V.imap (a3.map q5b))),(3,(V.ptr 0 4 0 0)),(9,(V.lst 1 (a2.map q6f))),(10,(iV ((a2.length:Nat):Int))),(11,(iV p))],[(0,(Ob.arr 124 4 [(q1e a1)]))],1⟩:St)) (fun n p=>RG a2 (fun tl nn=>z2g F a1 a2 a3 k4 tl nn=some r) n p) (fun p h=>RG.zero h) (a2.length+1) 0 (RG.start h) (gr [0] rfl (hB rfl rfl rfl .nil) rfl) (fun n n6 h=>?_)
  refine rn 5 rfl ?_
  refine spL rfl (fun hb7=>?_) (fun hb7=>?_)
  ·obtain⟨x8,tl,hx9,h,hk1⟩:=RG.t hA22 h hb7
   unfold z2g at h
   refine rn 6 rfl ?_
   refine ixh hx9 rfl rfl ?_
   refine rn 4 rfl ?_
   refine jK h (fun _:Unit=>(⟨[(1,(V.lst 1 (a2.map q6f))),(2,(V.imap (a3.map q5b))),(3,(V.ptr 0 4 0 0)),(9,(V.lst 1 (a2.map q6f))),(10,(iV ((a2.length:Nat):Int))),(11,(iV n6))],[(0,(Ob.arr 124 4 [(q1e a1)]))],1⟩:St)) (fun k10 (_:Unit)=>k10=some r) (fun k10 h=>?_) ?_
   ·refine rn 7 rfl ?_
    refine spO 20 h rfl (fun hb11 h=>?_) (fun hb11 h=>?_)
    ·refine rn 2 rfl ?_
     refine q7d _ (bV false) (bV ((q6b a3 x8).getD false)) q4j q6h j4m (q9f _) (q4i (c:=true) (b:=true) 20 rfl rfl rfl) rfl .imm (.con rfl) ⟨_,rfl⟩ q7e (q3h a3 x8) (q1f (q5g) (q6b a3 x8) false) rfl ?_
     refine fo (rn 4 rfl ?_)
     refine jK h (fun _:Unit=>(⟨[(1,(V.lst 1 (a2.map q6f))),(2,(V.imap (a3.map q5b))),(3,(V.ptr 0 4 0 0)),(9,(V.lst 1 (a2.map q6f))),(10,(iV ((a2.length:Nat):Int))),(11,(iV n6)),(24,(bV (!((q6b a3 x8).getD false))))],[(0,(Ob.arr 124 4 [(q1e a1)]))],1⟩:St)) (fun k12 (_:Unit)=>k12=some r) (fun k12 h=>?_) ?_
     ·refine spC h rfl (fun hb13 h=>?_) (fun hb13 h=>?_)
      ·refine rn 4 rfl ?_
       exact rt h rfl
      refine rn 5 rfl ?_
      refine spO 29 h rfl (fun hb14 h=>?_) (fun hb14 h=>?_)
      ·refine rn 4 rfl ?_
       refine ixl h rfl rfl (fun x15 hx16 h=>?_)
       refine rn 5 rfl ?_
       refine spC h rfl (fun hb17 h=>?_) (fun hb17 h=>?_)
       ·refine rn 4 rfl ?_
        exact rt h rfl
       refine rn 1 rfl ?_
       exact jX () h (gr [0] rfl (hB rfl rfl rfl .nil) rfl)
      refine rn 12 rfl ?_
      exact jX () h (gr [0] rfl (hB rfl rfl rfl .nil) rfl)
     intro _ h
     refine rn 1 rfl ?_
     exact jX () h (gr [0] rfl (hB rfl rfl rfl .nil) rfl)
    refine rn 13 rfl ?_
    refine spO 29 h rfl (fun hb18 h=>?_) (fun hb18 h=>?_)
    ·refine rn 4 rfl ?_
     refine ixl h rfl rfl (fun x19 hx20 h=>?_)
     refine rn 5 rfl ?_
     refine spC h rfl (fun hb21 h=>?_) (fun hb21 h=>?_)
     ·refine rn 4 rfl ?_
      exact rt h rfl
     refine rn 2 rfl ?_
     exact jX () h (gr [0] rfl (hB rfl rfl rfl .nil) rfl)
    refine rn 13 rfl ?_
    exact jX () h (gr [0] rfl (hB rfl rfl rfl .nil) rfl)
   intro _ h
   refine rn 5 rfl ?_
   exact jX (w64 (n6+1)) (hk1 _ h) (gr [0] rfl (hB rfl rfl rfl .nil) rfl)
  replace h:=RG.f h hb7
  unfold z2g at h
  refine rn 1 rfl ?_
  exact jX () h (g0 rfl rfl)
 intro _ h
 refine rn 4 rfl ?_
 exact rt h rfl
theorem W129(F:Nat)(a1:q9c)(a2:(List q5e))(r:Int)(h:M129 F a1 a2=some r):q5n Tryz.prog 129 [(V.agg (q1e a1)),(V.lst 4 (a2.map q8c))] (iV r):=by
 refine pin (fun r=>(iV r)) r rfl Tryz.func129 rfl rfl rfl rfl rfl (fun w0 m0 hg=>?_)
 unfold M129 at h
 refine rn 13 rfl ?_
 refine ln rfl rfl ?_
 refine rn 2 rfl ?_
 refine jK h (fun _:Unit=>(⟨[],[],0⟩:St)) (fun k3 (_:Unit)=>k3=some r) (fun k3 h=>?_) ?_
 ·refine rn 1 rfl ?_
  refine wl (A:=a2) 1 rfl (fun hA33=>?_)
  refine lC (fun(p:B8×Int)=>(⟨[(2,(V.ptr 0 4 0 0)),(5,(sV (p.1))),(13,(V.lst 4 (a2.map q8c))),(14,(iV ((a2.length:Nat):Int))),(15,(iV (p.2)))],[(0,(Ob.arr 124 4 [(q1e a1)]))],1⟩:St)) (fun n p=>RG a2 (fun tl nn=>z4g F a1 k3 tl nn p.1=some r) n p.2) (fun p h=>RG.zero h) (a2.length+1) (([]:B8),0) (RG.start h) (gr [0] rfl (hB rfl rfl rfl .nil) rfl) (fun n p h=>?_)
  obtain⟨s6,n7⟩:=p
  refine rn 5 rfl ?_
  refine spL rfl (fun hb8=>?_) (fun hb8=>?_)
  ·obtain⟨x11,tl,hx12,h,hk1⟩:=RG.t hA33 h hb8
   unfold z4g at h
   refine rn 2 rfl ?_
   refine jK h (fun(p:B8)=>(⟨[(2,(V.ptr 0 4 0 0)),(5,(sV p)),(13,(V.lst 4 (a2.map q8c))),(14,(iV ((a2.length:Nat):Int))),(15,(iV n7))],[(0,(Ob.arr 124 4 [(q1e a1)]))],1⟩:St)) (fun k9 p=>k9 p=some r) (fun k9 h=>?_) ?_
   ·refine rn 4 rfl ?_
    refine ixh hx12 rfl rfl ?_
    refine rn 13 rfl ?_
    refine cl h rfl rfl rfl (W173 _ _ _ _) rfl (fun y13 hx14 h=>?_)
    refine rn 7 rfl ?_
    refine spC h rfl (fun hb15 h=>?_) (fun hb15 h=>?_)
    ·refine rn 5 rfl ?_
     exact rt h rfl
    refine rn 13 rfl ?_
    refine cl h rfl rfl rfl (W79 _ _) rfl (fun y16 hx17 h=>?_)
    refine rn 3 rfl ?_
    refine spC h rfl (fun hb18 h=>?_) (fun hb18 h=>?_)
    ·refine rn 4 rfl ?_
     exact rt h rfl
    refine rn 4 rfl ?_
    refine ln rfl rfl ?_
    refine rn 3 rfl ?_
    refine spC h rfl (fun hb19 h=>?_) (fun hb19 h=>?_)
    ·refine rn 4 rfl ?_
     exact rt h rfl
    refine rn 7 rfl ?_
    refine ln rfl rfl ?_
    refine rn 2 rfl ?_
    refine jK h (fun _:Unit=>(⟨[(2,(V.ptr 0 4 0 0)),(5,(sV x11.Name)),(7,(V.ptr 1 4 0 0)),(13,(V.lst 4 (a2.map q8c))),(14,(iV ((a2.length:Nat):Int))),(15,(iV n7))],[(0,(Ob.arr 124 4 [(q1e a1)])),(1,(Ob.arr 94 4 [(q8c x11)]))],2⟩:St)) (fun k20 (_:Unit)=>k20=some r) (fun k20 h=>?_) ?_
    ·refine rn 1 rfl ?_
     refine wl (A:=x11.Calls) 38 rfl (fun hA29=>?_)
     refine lC (fun(p:Int)=>(⟨[(2,(V.ptr 0 4 0 0)),(5,(sV x11.Name)),(7,(V.ptr 1 4 0 0)),(13,(V.lst 4 (a2.map q8c))),(14,(iV ((a2.length:Nat):Int))),(15,(iV n7)),(42,(V.lst 4 (x11.Calls.map q6d))),(43,(iV ((x11.Calls.length:Nat):Int))),(44,(iV p))],[(0,(Ob.arr 124 4 [(q1e a1)])),(1,(Ob.arr 94 4 [(q8c x11)]))],2⟩:St)) (fun n p=>RG x11.Calls (fun tl nn=>z3g F a1 k20 tl=some r) n p) (fun p h=>RG.zero h) (x11.Calls.length+1) 0 (RG.start h) (gr [0,1] rfl (hB rfl rfl rfl (hB rfl rfl rfl .nil)) rfl) (fun n n22 h=>?_)
     refine rn 5 rfl ?_
     refine spL rfl (fun hb23=>?_) (fun hb23=>?_)
     ·obtain⟨x24,tl,hx25,h,hk2⟩:=RG.t hA29 h hb23
      unfold z3g at h
      refine rn 5 rfl ?_
      refine ixh hx25 rfl rfl ?_
      refine rn 8 rfl ?_
      refine cl h rfl rfl rfl (W174 _ _ _) rfl (fun y26 hx27 h=>?_)
      refine rn 7 rfl ?_
      refine spC h rfl (fun hb28 h=>?_) (fun hb28 h=>?_)
      ·refine rn 5 rfl ?_
       exact rt h rfl
      refine rn 6 rfl ?_
      exact jX (w64 (n22+1)) (hk2 _ h) (gr [0,1] rfl (hB rfl rfl rfl (hB rfl rfl rfl .nil)) rfl)
     replace h:=RG.f h hb23
     unfold z3g at h
     refine rn 1 rfl ?_
     exact jX () h (gr [0,1] rfl (hB rfl rfl rfl (hB rfl rfl rfl .nil)) rfl)
    intro _ h
    refine rn 7 rfl ?_
    refine cl h rfl rfl rfl (W130 _ _ _ _) rfl (fun y30 hx31 h=>?_)
    refine rn 7 rfl ?_
    refine spC h rfl (fun hb32 h=>?_) (fun hb32 h=>?_)
    ·refine rn 5 rfl ?_
     exact rt h rfl
    refine rn 2 rfl ?_
    exact jX x11.Name h (gr [0] rfl (hB rfl rfl rfl .nil) rfl)
   intro s10 h
   refine rn 4 rfl ?_
   exact jX (s10,(w64 (n7+1))) (hk1 _ h) (gr [0] rfl (hB rfl rfl rfl .nil) rfl)
  replace h:=RG.f h hb8
  unfold z4g at h
  refine rn 1 rfl ?_
  exact jX () h (g0 rfl rfl)
 intro _ h
 refine rn 4 rfl ?_
 exact rt h rfl
theorem W60(F:Nat)(a1:q9c)(a2:q7c)(r:Int)(h:M60 F a1 a2=some r):q5n Tryz.prog 60 [(V.agg (q1e a1)),(V.agg (q3d a2))] (iV r):=by
 refine pin (fun r=>(iV r)) r rfl Tryz.func60 rfl rfl rfl rfl rfl (fun w0 m0 hg=>?_)
 unfold M60 at h
 refine rn 11 rfl ?_
 refine ln rfl rfl ?_
 refine rn 2 rfl ?_
 refine spO 12 h rfl (fun hb3 h=>?_) (fun hb3 h=>?_)
 ·refine rn 17 rfl ?_
  exact rt h rfl
 refine rn 2 rfl ?_
 refine ln rfl rfl ?_
 refine rn 3 rfl ?_
 refine spO 18 h rfl (fun hb4 h=>?_) (fun hb4 h=>?_)
 ·refine rn 11 rfl ?_
  exact rt h rfl
 refine rn 2 rfl ?_
 refine ln rfl rfl ?_
 refine rn 3 rfl ?_
 refine spC h rfl (fun hb5 h=>?_) (fun hb5 h=>?_)
 ·refine rn 4 rfl ?_
  exact rt h rfl
 refine rn 7 rfl ?_
 refine cl h rfl rfl rfl (W127 _ _ _) rfl (fun y6 hx7 h=>?_)
 refine rn 7 rfl ?_
 refine spC h rfl (fun hb8 h=>?_) (fun hb8 h=>?_)
 ·refine rn 5 rfl ?_
  exact rt h rfl
 refine rn 7 rfl ?_
 refine cl h rfl rfl rfl (W128 _ _ _) rfl (fun y9 hx10 h=>?_)
 refine rn 7 rfl ?_
 refine spC h rfl (fun hb11 h=>?_) (fun hb11 h=>?_)
 ·refine rn 5 rfl ?_
  exact rt h rfl
 refine rn 7 rfl ?_
 refine cl h rfl rfl rfl (W129 _ _ _) rfl (fun y12 hx13 h=>?_)
 refine rn 7 rfl ?_
 refine spC h rfl (fun hb14 h=>?_) (fun hb14 h=>?_)
 ·refine rn 5 rfl ?_
  exact rt h rfl
 refine rn 8 rfl ?_
 refine cl h rfl rfl rfl (W130 _ _ _ _) rfl (fun y15 hx16 h=>?_)
 refine rn 2 rfl ?_
 exact rt h rfl
theorem W17(F:Nat)(a1:q7c)(r:Int)(h:M17 F a1=some r):q5n Tryz.prog 17 [(V.agg (q3d a1))] (iV r):=by
 refine pin (fun r=>(iV r)) r rfl Tryz.func17 rfl rfl rfl rfl rfl (fun w0 m0 hg=>?_)
 unfold M17 at h
 obtain⟨y2,hx3,h⟩:=bind_some h
 obtain⟨y4,hx5,h⟩:=bind_some h
 refine rn 6 rfl ?_
 refine dr mixed (vs 1 rfl (cD rfl rfl rfl rfl (W59 _ _ _ _ hx3) rfl (vs 1 rfl (cD rfl rfl rfl rfl (W60 _ _ _ _ hx5) rfl (vs 1 rfl .nil))))) (by kernel_rfl) ?_
 exact rt h rfl
theorem W143(F:Nat)(a1:(List B8))(r:Int)(h:M143 F a1=some r):q5n Tryz.prog 143 [(V.lst 1 (a1.map q6f))] (iV r):=by
 refine pin (fun r=>(iV r)) r rfl Tryz.func143 rfl rfl rfl rfl rfl (fun w0 m0 hg=>?_)
 unfold M143 at h
 refine rn 8 rfl ?_
 refine ln rfl rfl ?_
 refine rn 2 rfl ?_
 refine spC h rfl (fun hb2 h=>?_) (fun hb2 h=>?_)
 ·refine rn 4 rfl ?_
  exact rt h rfl
 refine rn 9 rfl ?_
 refine ln rfl rfl ?_
 refine rn 2 rfl ?_
 refine jK h (fun _:Unit=>(⟨[],[],0⟩:St)) (fun k3 (_:Unit)=>k3=some r) (fun k3 h=>?_) ?_
 ·refine rn 1 rfl ?_
  refine wl (A:=a1) 0 rfl (fun hA14=>?_)
  refine lC (fun(p:B8×Int)=>(⟨[(3,(sV (p.1))),(10,(V.lst 1 (a1.map q6f))),(11,(iV ((a1.length:Nat):Int))),(12,(iV (p.2)))],[],0⟩:St)) (fun n p=>RG a1 (fun tl nn=>z6f F k3 tl nn p.1=some r) n p.2) (fun p h=>RG.zero h) (a1.length+1) (([]:B8),0) (RG.start h) (g0 rfl rfl) (fun n p h=>?_)
  obtain⟨s6,n7⟩:=p
  refine rn 5 rfl ?_
  refine spL rfl (fun hb8=>?_) (fun hb8=>?_)
  ·obtain⟨x9,tl,hx10,h,hk1⟩:=RG.t hA14 h hb8
   unfold z6f at h
   refine rn 6 rfl ?_
   refine ixh hx10 rfl rfl ?_
   refine rn 11 rfl ?_
   refine cl h rfl rfl rfl (W173 _ _ _ _) rfl (fun y11 hx12 h=>?_)
   refine rn 7 rfl ?_
   refine spC h rfl (fun hb13 h=>?_) (fun hb13 h=>?_)
   ·refine rn 5 rfl ?_
    exact rt h rfl
   refine rn 10 rfl ?_
   exact jX (x9,(w64 (n7+1))) (hk1 _ h) (g0 rfl rfl)
  replace h:=RG.f h hb8
  unfold z6f at h
  refine rn 1 rfl ?_
  exact jX () h (g0 rfl rfl)
 intro _ h
 refine rn 4 rfl ?_
 exact rt h rfl
theorem W158(F:Nat)(a1:B8)(r:Bool)(h:M158 F a1=some r):q5n Tryz.prog 158 [(sV a1)] (bV r):=by
 refine pin (fun r=>(bV r)) r rfl Tryz.func158 rfl rfl rfl rfl rfl (fun w0 m0 hg=>?_)
 unfold M158 at h
 refine rn 11 rfl ?_
 exact rt h rfl
theorem W100(F:Nat)(a1:B8)(a2:B8)(r:Int)(h:M100 F a1 a2=some r):q5n Tryz.prog 100 [(sV a1),(sV a2)] (iV r):=by
 refine pin (fun r=>(iV r)) r rfl Tryz.func100 rfl rfl rfl rfl rfl (fun w0 m0 hg=>?_)
 unfold M100 at h
 refine rn 7 rfl ?_
 refine cl h rfl rfl rfl (W158 _ _) rfl (fun y3 hx4 h=>?_)
 refine rn 5 rfl ?_
 refine cl h rfl rfl rfl (W158 _ _) rfl (fun y5 hx6 h=>?_)
 refine rn 7 rfl ?_
 refine spC h rfl (fun hb7 h=>?_) (fun hb7 h=>?_)
 ·refine rn 5 rfl ?_
  refine spC h rfl (fun hb8 h=>?_) (fun hb8 h=>?_)
  ·refine rn 4 rfl ?_
   exact rt h rfl
  refine rn 5 rfl ?_
  exact rt h rfl
 refine rn 6 rfl ?_
 refine spC h rfl (fun hb9 h=>?_) (fun hb9 h=>?_)
 ·refine rn 4 rfl ?_
  exact rt h rfl
 refine rn 8 rfl ?_
 refine spC h rfl (fun hb10 h=>?_) (fun hb10 h=>?_)
 ·refine rn 4 rfl ?_
  exact rt h rfl
 refine rn 8 rfl ?_
 refine spC h rfl (fun hb11 h=>?_) (fun hb11 h=>?_)
 ·refine rn 4 rfl ?_
  exact rt h rfl
 refine rn 5 rfl ?_
 exact rt h rfl
theorem W208(F:Nat)(a1:q1k)(a2:B8)(r:Int)(h:y4c F a1 a2=some r):q5n Tryz.prog 208 [(V.agg (q1j a1)),(sV a2)] (iV r):=by
 refine pin (fun r=>(iV r)) r rfl Tryz.func208 rfl rfl rfl rfl rfl (fun w0 m0 hg=>?_)
 unfold y4c at h
 refine rn 10 rfl ?_
 refine cl h rfl rfl rfl (W100 _ _ _) rfl (fun y3 hx4 h=>?_)
 refine rn 2 rfl ?_
 exact rt h rfl
theorem W207(F:Nat)(a1:(List q1k))(a2:B8)(r:(Int×Bool))(h:M207 F a1 a2=some r):q5n Tryz.prog 207 [(V.lst 2 (a1.map q1j)),(sV a2),(V.fn (.func 208) [] [])] (V.tup [(iV (r.1)),(bV (r.2))]):=by
 refine pin (fun r=>(V.tup [(iV (r.1)),(bV (r.2))])) r rfl Tryz.func207 rfl rfl rfl rfl rfl (fun w0 m0 hg=>?_)
 unfold M207 at h
 refine rn 8 rfl ?_
 refine ln rfl rfl ?_
 refine rn 9 rfl ?_
 refine jK h (fun(p:Int)=>(⟨[(0,(V.lst 2 (a1.map q1j))),(1,(sV a2)),(2,(V.fn (.func 208) [] [])),(8,(iV ((a1.length:Nat):Int))),(9,(iV p))],[],0⟩:St)) (fun k3 p=>k3 p=some r) (fun k3 h=>?_) ?_
 ·refine rn 1 rfl ?_
  refine lC (fun(p:Int×Int)=>(⟨[(0,(V.lst 2 (a1.map q1j))),(1,(sV a2)),(2,(V.fn (.func 208) [] [])),(8,(iV ((a1.length:Nat):Int))),(9,(iV (p.1))),(10,(iV (p.2)))],[],0⟩:St)) (fun n p=>q3y F a1 a2 k3 n p.1 p.2=some r) (fun p h=>by simp[q3y] at h) F (0,((a1.length:Nat):Int)) h (g0 rfl rfl) (fun n p h=>?_)
  obtain⟨n7,n8⟩:=p
  unfold q3y at h
  refine rn 7 rfl ?_
  refine spC h rfl (fun hb9 h=>?_) (fun hb9 h=>?_)
  ·refine rn 17 rfl ?_
   refine ixl h rfl rfl (fun x10 hx11 h=>?_)
   refine rn 2 rfl ?_
   refine cl h rfl rfl rfl (W208 _ _ _) rfl (fun y12 hx13 h=>?_)
   refine rn 2 rfl ?_
   refine jK h (fun(p:Int×Int)=>(⟨[(0,(V.lst 2 (a1.map q1j))),(1,(sV a2)),(2,(V.fn (.func 208) [] [])),(8,(iV ((a1.length:Nat):Int))),(9,(iV (p.1))),(10,(iV (p.2)))],[],0⟩:St)) (fun k14 p=>k14 p.1 p.2=some r) (fun k14 h=>?_) ?_
   ·refine spC h rfl (fun hb17 h=>?_) (fun hb17 h=>?_)
    ·refine rn 5 rfl ?_
     exact jX ((w64 ((w64 (Int.fdiv (IntKind.wrap .u64 (w64 (n7+n8))) (2 ^ (min (Int.toNat 1) (IntKind.bits .u64)))))+1)),n8) h (g0 rfl rfl)
    refine rn 4 rfl ?_
    exact jX (n7,(w64 (Int.fdiv (IntKind.wrap .u64 (w64 (n7+n8))) (2 ^ (min (Int.toNat 1) (IntKind.bits .u64)))))) h (g0 rfl rfl)
   rintro⟨n15,n16⟩ h
   refine rn 1 rfl ?_
   exact jX (n15,n16) h (g0 rfl rfl)
  refine rn 1 rfl ?_
  exact jX n7 h (g0 rfl rfl)
 intro n4 h
 refine rn 7 rfl ?_
 refine spO 39 h rfl (fun hb18 h=>?_) (fun hb18 h=>?_)
 ·refine rn 3 rfl ?_
  refine ixl h rfl rfl (fun x19 hx20 h=>?_)
  refine rn 2 rfl ?_
  refine cl h rfl rfl rfl (W208 _ _ _) rfl (fun y21 hx22 h=>?_)
  refine rn 5 rfl ?_
  exact rt h rfl
 refine rn 12 rfl ?_
 exact rt h rfl
theorem W169(F:Nat)(a1:q7i)(a2:B8)(r:(B8×Bool))(h:M169 F a1 a2=some r):q5n Tryz.prog 169 [(V.agg (q6e a1)),(sV a2)] (V.tup [(sV (r.1)),(bV (r.2))]):=by
 refine pin (fun r=>(V.tup [(sV (r.1)),(bV (r.2))])) r rfl Tryz.func169 rfl rfl rfl rfl rfl (fun w0 m0 hg=>?_)
 unfold M169 at h
 refine rn 11 rfl ?_
 refine cl h rfl rfl rfl (W207 _ _ _) rfl (fun y3 hx4 h=>?_)
 refine rn 12 rfl ?_
 refine spC h rfl (fun hb5 h=>?_) (fun hb5 h=>?_)
 ·refine rn 5 rfl ?_
  exact rt h rfl
 refine rn 6 rfl ?_
 refine ixl h rfl rfl (fun x6 hx7 h=>?_)
 refine rn 5 rfl ?_
 exact rt h rfl
theorem W117(F:Nat)(a1:q7i)(a2:q0f)(r:Bool)(h:M117 F a1 a2=some r):q5n Tryz.prog 117 [(V.agg (q6e a1)),(V.agg (q2d a2))] (bV r):=by
 refine pin (fun r=>(bV r)) r rfl Tryz.func117 rfl rfl rfl rfl rfl (fun w0 m0 hg=>?_)
 unfold M117 at h
 refine rn 11 rfl ?_
 refine ln rfl rfl ?_
 refine rn 2 rfl ?_
 refine jK h (fun _:Unit=>(⟨[],[],0⟩:St)) (fun k3 (_:Unit)=>k3=some r) (fun k3 h=>?_) ?_
 ·refine rn 1 rfl ?_
  refine wl (A:=a2.Methods) 10 rfl (fun hA12=>?_)
  refine lC (fun(p:Int)=>(⟨[(2,(V.ptr 0 2 0 0)),(10,(V.lst 1 (a2.Methods.map q6f))),(11,(iV ((a2.Methods.length:Nat):Int))),(12,(iV p))],[(0,(Ob.arr 104 2 [(q6e a1)]))],1⟩:St)) (fun n p=>RG a2.Methods (fun tl nn=>z8u F a1 k3 tl=some r) n p) (fun p h=>RG.zero h) (a2.Methods.length+1) 0 (RG.start h) (gr [0] rfl (hB rfl rfl rfl .nil) rfl) (fun n n5 h=>?_)
  refine rn 5 rfl ?_
  refine spL rfl (fun hb6=>?_) (fun hb6=>?_)
  ·obtain⟨x7,tl,hx8,h,hk1⟩:=RG.t hA12 h hb6
   unfold z8u at h
   refine rn 5 rfl ?_
   refine ixh hx8 rfl rfl ?_
   refine rn 7 rfl ?_
   refine cl h rfl rfl rfl (W169 _ _ _) rfl (fun y9 hx10 h=>?_)
   refine rn 11 rfl ?_
   refine spC h rfl (fun hb11 h=>?_) (fun hb11 h=>?_)
   ·refine rn 4 rfl ?_
    exact rt h rfl
   refine rn 6 rfl ?_
   exact jX (w64 (n5+1)) (hk1 _ h) (gr [0] rfl (hB rfl rfl rfl .nil) rfl)
  replace h:=RG.f h hb6
  unfold z8u at h
  refine rn 1 rfl ?_
  exact jX () h (g0 rfl rfl)
 intro _ h
 refine rn 4 rfl ?_
 exact rt h rfl
theorem W41(F:Nat)(a1:q7c)(a2:Int)(a3:(List B8))(r:(Option q1b))(h:M41 F a1 a2 a3=some r):q5n Tryz.prog 41 [(V.agg (q3d a1)),(iV a2),(V.lst 1 (a3.map q6f))] (v7n q4a r):=by
 refine pin (fun r=>(v7n q4a r)) r rfl Tryz.func41 rfl rfl rfl rfl rfl (fun w0 m0 hg=>?_)
 unfold M41 at h
 refine rn 12 rfl ?_
 refine z2m (es:=([]:List (B8×Bool)).map q5b) ((q0g ([]:List (B8×Bool)) ([]:B8) true).map q5b) q4j q6h q7a rfl rfl (.con rfl) ⟨_,rfl⟩ q7e rfl (q1i ([]:List (B8×Bool)) ([]:B8) true) ?_
 refine fo (rn 12 rfl ?_)
 refine ln rfl rfl ?_
 refine rn 2 rfl ?_
 refine jK h (fun(p:(List (B8×Int)))=>(⟨[(2,(V.lst 1 (a3.map q6f))),(3,(V.ptr 0 4 0 0)),(7,(V.ptr 1 9 0 0))],[(0,(Ob.arr 27 4 [(q3d a1)])),(1,(Ob.arr 91 9 [[(V.lst 2 (a1.Ifaces.map q2d)),(V.lst 2 (a1.Types.map q6e)),(V.lst 4 (a1.Funcs.map q8c)),(V.lst 1 (a1.Entries.map q6f)),(V.map 2),(V.map 3),(V.map 4),(V.map 5),(bV (a2==2))]])),(2,(Ob.map (p.map q9d))),(3,(Ob.map (([]:List (B8×Int)).map q9d))),(4,(Ob.map (([]:List (B8×(List Int))).map q3i))),(5,(Ob.map ((q0g ([]:List (B8×Bool)) ([]:B8) true).map q5b)))],6⟩:St)) (fun k4 p=>k4 p=some r) (fun k4 h=>?_) ?_
 ·refine rn 1 rfl ?_
  refine wl (A:=a1.Funcs) 29 rfl (fun hA13=>?_)
  refine lC (fun(p:Int×(List (B8×Int)))=>(⟨[(2,(V.lst 1 (a3.map q6f))),(3,(V.ptr 0 4 0 0)),(7,(V.ptr 1 9 0 0)),(29,(V.lst 4 (a1.Funcs.map q8c))),(30,(iV ((a1.Funcs.length:Nat):Int))),(31,(iV (p.1)))],[(0,(Ob.arr 27 4 [(q3d a1)])),(1,(Ob.arr 91 9 [[(V.lst 2 (a1.Ifaces.map q2d)),(V.lst 2 (a1.Types.map q6e)),(V.lst 4 (a1.Funcs.map q8c)),(V.lst 1 (a1.Entries.map q6f)),(V.map 2),(V.map 3),(V.map 4),(V.map 5),(bV (a2==2))]])),(2,(Ob.map ((p.2).map q9d))),(3,(Ob.map (([]:List (B8×Int)).map q9d))),(4,(Ob.map (([]:List (B8×(List Int))).map q3i))),(5,(Ob.map ((q0g ([]:List (B8×Bool)) ([]:B8) true).map q5b)))],6⟩:St)) (fun n p=>RG a1.Funcs (fun tl nn=>j9i F k4 tl nn p.2=some r) n p.1) (fun p h=>RG.zero h) (a1.Funcs.length+1) (0,([]:List (B8×Int))) (RG.start h) (gr [0,5,1,2,3,4] rfl (hB rfl rfl rfl (hB rfl rfl rfl (hM rfl rfl (hM rfl rfl (hM rfl rfl (hM rfl rfl .nil)))))) rfl) (fun n p h=>?_)
  obtain⟨n8,m9⟩:=p
  refine rn 5 rfl ?_
  refine spL rfl (fun hb10=>?_) (fun hb10=>?_)
  ·obtain⟨x11,tl,hx12,h,hk1⟩:=RG.t hA13 h hb10
   unfold j9i at h
   refine rn 6 rfl ?_
   refine ixh hx12 rfl rfl ?_
   refine rn 5 rfl ?_
   refine dr mixed (vs 7 rfl (xD (OD.mk [(39,(V.map 2)),(41,(sV x11.Name)),(42,(iV n8))] [(2,(Ob.map (m9.map q9d)))] [] [(2,(Ob.map ((q0g m9 x11.Name n8).map q9d)))]) ⟨⟨rfl,rfl,rfl,trivial⟩,⟨rfl,trivial⟩⟩ (by exact fun S hn h hh=>q3f (es:=m9.map q9d) ((q0g m9 x11.Name n8).map q9d) q1o q6h q7a h.1 hh.1 (.con h.2.1) ⟨_,rfl⟩ q7f h.2.2.1 (q6x m9 x11.Name n8) (q8d ⟨rfl,rfl⟩)) rfl .nil)) (by kernel_rfl) ?_
   refine rn 5 rfl ?_
   exact jX ((w64 (n8+1)),(q0g m9 x11.Name n8)) (hk1 _ h) (gr [0,1,2,3,4,5] rfl (hB rfl rfl rfl (hB rfl rfl rfl (hM rfl rfl (hM rfl rfl (hM rfl rfl (hM rfl rfl .nil)))))) rfl)
  replace h:=RG.f h hb10
  unfold j9i at h
  refine rn 1 rfl ?_
  exact jX m9 h (gr [0,1,2,3,4,5] rfl (hB rfl rfl rfl (hB rfl rfl rfl (hM rfl rfl (hM rfl rfl (hM rfl rfl (hM rfl rfl .nil)))))) rfl)
 intro m5 h
 refine rn 5 rfl ?_
 refine ln rfl rfl ?_
 refine rn 2 rfl ?_
 refine jK h (fun(p:(List (B8×Int)))=>(⟨[(2,(V.lst 1 (a3.map q6f))),(3,(V.ptr 0 4 0 0)),(7,(V.ptr 1 9 0 0))],[(0,(Ob.arr 27 4 [(q3d a1)])),(1,(Ob.arr 91 9 [[(V.lst 2 (a1.Ifaces.map q2d)),(V.lst 2 (a1.Types.map q6e)),(V.lst 4 (a1.Funcs.map q8c)),(V.lst 1 (a1.Entries.map q6f)),(V.map 2),(V.map 3),(V.map 4),(V.map 5),(bV (a2==2))]])),(2,(Ob.map (m5.map q9d))),(3,(Ob.map (p.map q9d))),(4,(Ob.map (([]:List (B8×(List Int))).map q3i))),(5,(Ob.map ((q0g ([]:List (B8×Bool)) ([]:B8) true).map q5b)))],6⟩:St)) (fun k14 p=>k14 p=some r) (fun k14 h=>?_) ?_
 ·refine rn 1 rfl ?_
  refine wl (A:=a1.Types) 45 rfl (fun hA23=>?_)
  refine lC (fun(p:Int×(List (B8×Int)))=>(⟨[(2,(V.lst 1 (a3.map q6f))),(3,(V.ptr 0 4 0 0)),(7,(V.ptr 1 9 0 0)),(45,(V.lst 2 (a1.Types.map q6e))),(46,(iV ((a1.Types.length:Nat):Int))),(47,(iV (p.1)))],[(0,(Ob.arr 27 4 [(q3d a1)])),(1,(Ob.arr 91 9 [[(V.lst 2 (a1.Ifaces.map q2d)),(V.lst 2 (a1.Types.map q6e)),(V.lst 4 (a1.Funcs.map q8c)),(V.lst 1 (a1.Entries.map q6f)),(V.map 2),(V.map 3),(V.map 4),(V.map 5),(bV (a2==2))]])),(2,(Ob.map (m5.map q9d))),(3,(Ob.map ((p.2).map q9d))),(4,(Ob.map (([]:List (B8×(List Int))).map q3i))),(5,(Ob.map ((q0g ([]:List (B8×Bool)) ([]:B8) true).map q5b)))],6⟩:St)) (fun n p=>RG a1.Types (fun tl nn=>j8i F k14 tl nn p.2=some r) n p.1) (fun p h=>RG.zero h) (a1.Types.length+1) (0,([]:List (B8×Int))) (RG.start h) (gr [0,1,2,3,4,5] rfl (hB rfl rfl rfl (hB rfl rfl rfl (hM rfl rfl (hM rfl rfl (hM rfl rfl (hM rfl rfl .nil)))))) rfl) (fun n p h=>?_)
  obtain⟨n18,m19⟩:=p
  refine rn 5 rfl ?_
  refine spL rfl (fun hb20=>?_) (fun hb20=>?_)
  ·obtain⟨x21,tl,hx22,h,hk2⟩:=RG.t hA23 h hb20
   unfold j8i at h
   refine rn 6 rfl ?_
   refine ixh hx22 rfl rfl ?_
   refine rn 5 rfl ?_
   refine dr mixed (vs 7 rfl (xD (OD.mk [(55,(V.map 3)),(57,(sV x21.Name)),(58,(iV n18))] [(3,(Ob.map (m19.map q9d)))] [] [(3,(Ob.map ((q0g m19 x21.Name n18).map q9d)))]) ⟨⟨rfl,rfl,rfl,trivial⟩,⟨rfl,trivial⟩⟩ (by exact fun S hn h hh=>q3f (es:=m19.map q9d) ((q0g m19 x21.Name n18).map q9d) q1o q6h q7a h.1 hh.1 (.con h.2.1) ⟨_,rfl⟩ q7f h.2.2.1 (q6x m19 x21.Name n18) (q8d ⟨rfl,rfl⟩)) rfl .nil)) (by kernel_rfl) ?_
   refine rn 5 rfl ?_
   exact jX ((w64 (n18+1)),(q0g m19 x21.Name n18)) (hk2 _ h) (gr [0,1,2,3,4,5] rfl (hB rfl rfl rfl (hB rfl rfl rfl (hM rfl rfl (hM rfl rfl (hM rfl rfl (hM rfl rfl .nil)))))) rfl)
  replace h:=RG.f h hb20
  unfold j8i at h
  refine rn 1 rfl ?_
  exact jX m19 h (gr [0,1,2,3,4,5] rfl (hB rfl rfl rfl (hB rfl rfl rfl (hM rfl rfl (hM rfl rfl (hM rfl rfl (hM rfl rfl .nil)))))) rfl)
 intro m15 h
 refine rn 5 rfl ?_
 refine ln rfl rfl ?_
 refine rn 2 rfl ?_
 refine jK h (fun(p:(List (B8×(List Int))))=>(⟨[(2,(V.lst 1 (a3.map q6f))),(7,(V.ptr 0 9 0 0))],[(0,(Ob.arr 91 9 [[(V.lst 2 (a1.Ifaces.map q2d)),(V.lst 2 (a1.Types.map q6e)),(V.lst 4 (a1.Funcs.map q8c)),(V.lst 1 (a1.Entries.map q6f)),(V.map 1),(V.map 2),(V.map 3),(V.map 4),(bV (a2==2))]])),(1,(Ob.map (m5.map q9d))),(2,(Ob.map (m15.map q9d))),(3,(Ob.map (p.map q3i))),(4,(Ob.map ((q0g ([]:List (B8×Bool)) ([]:B8) true).map q5b)))],5⟩:St)) (fun k24 p=>k24 p=some r) (fun k24 h=>?_) ?_
 ·refine rn 1 rfl ?_
  refine wl (A:=a1.Ifaces) 61 rfl (fun hA51=>?_)
  refine lC (fun(p:Int×(List (B8×(List Int))))=>(⟨[(2,(V.lst 1 (a3.map q6f))),(3,(V.ptr 0 4 0 0)),(7,(V.ptr 1 9 0 0)),(61,(V.lst 2 (a1.Ifaces.map q2d))),(62,(iV ((a1.Ifaces.length:Nat):Int))),(63,(iV (p.1)))],[(0,(Ob.arr 27 4 [(q3d a1)])),(1,(Ob.arr 91 9 [[(V.lst 2 (a1.Ifaces.map q2d)),(V.lst 2 (a1.Types.map q6e)),(V.lst 4 (a1.Funcs.map q8c)),(V.lst 1 (a1.Entries.map q6f)),(V.map 2),(V.map 3),(V.map 4),(V.map 5),(bV (a2==2))]])),(2,(Ob.map (m5.map q9d))),(3,(Ob.map (m15.map q9d))),(4,(Ob.map ((p.2).map q3i))),(5,(Ob.map ((q0g ([]:List (B8×Bool)) ([]:B8) true).map q5b)))],6⟩:St)) (fun n p=>RG a1.Ifaces (fun tl nn=>j7i F a1 k24 tl p.2=some r) n p.1) (fun p h=>RG.zero h) (a1.Ifaces.length+1) (0,([]:List (B8×(List Int)))) (RG.start h) (gr [0,1,2,3,4,5] rfl (hB rfl rfl rfl (hB rfl rfl rfl (hM rfl rfl (hM rfl rfl (hM rfl rfl (hM rfl rfl .nil)))))) rfl) (fun n p h=>?_)
  obtain⟨n28,m29⟩:=p
  refine rn 5 rfl ?_
  refine spL rfl (fun hb30=>?_) (fun hb30=>?_)
  ·obtain⟨x33,tl,hx34,h,hk3⟩:=RG.t hA51 h hb30
   unfold j7i at h
   refine rn 2 rfl ?_
   refine jK h (fun(p:(List (B8×(List Int))))=>(⟨[(2,(V.lst 1 (a3.map q6f))),(3,(V.ptr 0 4 0 0)),(7,(V.ptr 1 9 0 0)),(61,(V.lst 2 (a1.Ifaces.map q2d))),(62,(iV ((a1.Ifaces.length:Nat):Int))),(63,(iV n28))],[(0,(Ob.arr 27 4 [(q3d a1)])),(1,(Ob.arr 91 9 [[(V.lst 2 (a1.Ifaces.map q2d)),(V.lst 2 (a1.Types.map q6e)),(V.lst 4 (a1.Funcs.map q8c)),(V.lst 1 (a1.Entries.map q6f)),(V.map 2),(V.map 3),(V.map 4),(V.map 5),(bV (a2==2))]])),(2,(Ob.map (m5.map q9d))),(3,(Ob.map (m15.map q9d))),(4,(Ob.map (p.map q3i))),(5,(Ob.map ((q0g ([]:List (B8×Bool)) ([]:B8) true).map q5b)))],6⟩:St)) (fun k31 p=>k31 p=some r) (fun k31 h=>?_) ?_
   ·refine rn 3 rfl ?_
    refine ixh hx34 rfl rfl ?_
    refine rn 8 rfl ?_
    refine ln rfl rfl ?_
    refine rn 2 rfl ?_
    refine jK h (fun(p:(List (B8×(List Int))))=>(⟨[(2,(V.lst 1 (a3.map q6f))),(3,(V.ptr 0 4 0 0)),(7,(V.ptr 1 9 0 0)),(61,(V.lst 2 (a1.Ifaces.map q2d))),(62,(iV ((a1.Ifaces.length:Nat):Int))),(63,(iV n28))],[(0,(Ob.arr 27 4 [(q3d a1)])),(1,(Ob.arr 91 9 [[(V.lst 2 (a1.Ifaces.map q2d)),(V.lst 2 (a1.Types.map q6e)),(V.lst 4 (a1.Funcs.map q8c)),(V.lst 1 (a1.Entries.map q6f)),(V.map 2),(V.map 3),(V.map 4),(V.map 5),(bV (a2==2))]])),(2,(Ob.map (m5.map q9d))),(3,(Ob.map (m15.map q9d))),(4,(Ob.map (p.map q3i))),(5,(Ob.map ((q0g ([]:List (B8×Bool)) ([]:B8) true).map q5b)))],6⟩:St)) (fun k35 p=>k35 p=some r) (fun k35 h=>?_) ?_
    ·refine rn 1 rfl ?_
     refine wl (A:=a1.Types) 68 rfl (fun hA50=>?_)
     refine lC (fun(p:Int×(List (B8×(List Int))))=>(⟨[(2,(V.lst 1 (a3.map q6f))),(3,(V.ptr 0 4 0 0)),(7,(V.ptr 1 9 0 0)),(13,(V.ptr 2 2 0 0)),(61,(V.lst 2 (a1.Ifaces.map q2d))),(62,(iV ((a1.Ifaces.length:Nat):Int))),(63,(iV n28)),(68,(V.lst 2 (a1.Types.map q6e))),(69,(iV ((a1.Types.length:Nat):Int))),(70,(iV (p.1)))],[(0,(Ob.arr 27 4 [(q3d a1)])),(1,(Ob.arr 91 9 [[(V.lst 2 (a1.Ifaces.map q2d)),(V.lst 2 (a1.Types.map q6e)),(V.lst 4 (a1.Funcs.map q8c)),(V.lst 1 (a1.Entries.map q6f)),(V.map 3),(V.map 4),(V.map 5),(V.map 6),(bV (a2==2))]])),(2,(Ob.arr 98 2 [(q2d x33)])),(3,(Ob.map (m5.map q9d))),(4,(Ob.map (m15.map q9d))),(5,(Ob.map ((p.2).map q3i))),(6,(Ob.map ((q0g ([]:List (B8×Bool)) ([]:B8) true).map q5b)))],7⟩:St)) (fun n p=>RG a1.Types (fun tl nn=>z4x F x33 k35 tl nn p.2=some r) n p.1) (fun p h=>RG.zero h) (a1.Types.length+1) (0,m29) (RG.start h) (gr [0,1,6,2,3,4,5] rfl (hB rfl rfl rfl (hB rfl rfl rfl (hB rfl rfl rfl (hM rfl rfl (hM rfl rfl (hM rfl rfl (hM rfl rfl .nil))))))) rfl) (fun n p h=>?_)
     obtain⟨n39,m40⟩:=p
     refine rn 5 rfl ?_
     refine spL rfl (fun hb41=>?_) (fun hb41=>?_)
     ·obtain⟨x42,tl,hx43,h,hk4⟩:=RG.t hA50 h hb41
      unfold z4x at h
      refine rn 6 rfl ?_
      refine ixh hx43 rfl rfl ?_
      refine rn 9 rfl ?_
      refine cl h rfl rfl rfl (W117 _ _ _) rfl (fun y44 hx45 h=>?_)
      refine rn 1 rfl ?_
      refine jK h (fun(p:(List (B8×(List Int))))=>(⟨[(2,(V.lst 1 (a3.map q6f))),(3,(V.ptr 0 4 0 0)),(7,(V.ptr 1 9 0 0)),(13,(V.ptr 2 2 0 0)),(61,(V.lst 2 (a1.Ifaces.map q2d))),(62,(iV ((a1.Ifaces.length:Nat):Int))),(63,(iV n28)),(68,(V.lst 2 (a1.Types.map q6e))),(69,(iV ((a1.Types.length:Nat):Int))),(70,(iV n39))],[(0,(Ob.arr 27 4 [(q3d a1)])),(1,(Ob.arr 91 9 [[(V.lst 2 (a1.Ifaces.map q2d)),(V.lst 2 (a1.Types.map q6e)),(V.lst 4 (a1.Funcs.map q8c)),(V.lst 1 (a1.Entries.map q6f)),(V.map 3),(V.map 4),(V.map 5),(V.map 6),(bV (a2==2))]])),(2,(Ob.arr 98 2 [(q2d x33)])),(3,(Ob.map (m5.map q9d))),(4,(Ob.map (m15.map q9d))),(5,(Ob.map (p.map q3i))),(6,(Ob.map ((q0g ([]:List (B8×Bool)) ([]:B8) true).map q5b)))],7⟩:St)) (fun k46 p=>k46 p=some r) (fun k46 h=>?_) ?_
      ·refine spC h rfl (fun hb48 h=>?_) (fun hb48 h=>?_)
       ·refine ck h (fun hc49 h=>?_)
        refine q0e q8j ?_
        refine q0e q8j ?_
        refine fa ?_
        refine dr mixed (vs 12 rfl (xD (OD.mk [(87,(V.map 5)),(89,(sV x33.Name))] [(5,(Ob.map (m40.map q3i))),(8,Ob.res)] [(90,(V.own 8 ((q6b m40 x33.Name).getD []).length))] [(5,(Ob.map (z7s q3i 8 x33.Name m40))),(8,(Ob.arr 3 1 (((q6b m40 x33.Name).getD []).map q9a)))]) ⟨⟨rfl,rfl,trivial⟩,⟨rfl,rfl,trivial⟩⟩ (by exact fun S hn h hh=>q6z 8 rfl hn hh.2.1 (n:=((q6b m40 x33.Name).getD []).length) z3o q6h z6v q7a h.1 hh.1 (.con h.2.1) ⟨_,rfl⟩ j1l (j9c q3i (fun k=>str k) q9a 3 1 8 (fun _=>rfl) q4l x33.Name m40) (by simp) rfl (q8d ⟨rfl,rfl⟩)) rfl (vs 1 rfl (xD (OD.mk [(91,(iV n39))] [] [(92,(V.lst 1 (([n39]:List Int).map q9a)))] []) ⟨⟨rfl,trivial⟩,trivial⟩ (by exact fun S hn h hh=>q6g [(0,(iV n39))] [[(iV n39)]] q3v tZ3 q7a rfl rfl rfl rfl (q7g h.1 q5i) rfl rfl (by simp) (q7j (.cons (.cons (Imm.con _) .nil) .nil)) rfl (q8d ⟨rfl,rfl⟩)) rfl (xD (OD.mk [(90,(V.own 8 ((q6b m40 x33.Name).getD []).length)),(92,(V.lst 1 (([n39]:List Int).map q9a)))] [(8,(Ob.arr 3 1 (((q6b m40 x33.Name).getD []).map q9a))),(9,Ob.res)] [(93,(V.own 9 (((q6b m40 x33.Name).getD [])++([n39]:List Int)).length))] [(9,(Ob.arr 3 1 ((((q6b m40 x33.Name).getD [])++([n39]:List Int)).map q9a))),(8,Ob.dead)]) ⟨⟨rfl,rfl,trivial⟩,⟨rfl,rfl,trivial⟩⟩ (by exact fun S hn h hh=>q7k 9 rfl hn hh.2.1 (([n39]:List Int).map q9a) ((((q6b m40 x33.Name).getD [])++([n39]:List Int)).map q9a) q3v v8l rfl rfl q7a h.1 hh.1 (by simp) h.2.1 (.lst (q0s z8v)) (q1s q9a ((q6b m40 x33.Name).getD []) ([n39]:List Int)) (List.length_map ..) hc49 rfl (q8d ⟨rfl,rfl⟩)) rfl (xD (OD.mk [(81,(V.map 5)),(83,(sV x33.Name)),(93,(V.own 9 (((q6b m40 x33.Name).getD [])++([n39]:List Int)).length))] [(5,(Ob.map (z7s q3i 8 x33.Name m40))),(9,(Ob.arr 3 1 ((((q6b m40 x33.Name).getD [])++([n39]:List Int)).map q9a)))] [] [(5,(Ob.map ((q0g m40 x33.Name (((q6b m40 x33.Name).getD [])++([n39]:List Int))).map q3i))),(9,Ob.dead)]) ⟨⟨rfl,rfl,rfl,trivial⟩,⟨rfl,rfl,trivial⟩⟩ (by exact fun S hn h hh=>q2p (id2:=9) (o:=(V.own 9 (((q6b m40 x33.Name).getD [])++([n39]:List Int)).length)) (dv:=(.dsl 3 1 ((((q6b m40 x33.Name).getD [])++([n39]:List Int)).map q9a))) (ob:=(.arr 3 1 ((((q6b m40 x33.Name).getD [])++([n39]:List Int)).map q9a))) ((q0g m40 x33.Name (((q6b m40 x33.Name).getD [])++([n39]:List Int))).map q3i) z3o q6h q7a h.1 hh.1 (.con h.2.1) ⟨_,rfl⟩ (z8s (fun _=>⟨_,rfl⟩)) h.2.2.1 (by simp[ovl]) hh.2.1 rfl (j8n q7b (((q6b m40 x33.Name).getD [])++([n39]:List Int))) (j3b q3i (fun k=>str k) q9a 3 1 8 (fun _=>rfl) q4l x33.Name (((q6b m40 x33.Name).getD [])++([n39]:List Int)) m40) (q8d ⟨rfl,rfl⟩)) rfl .nil)))))) (by kernel_rfl) ?_
        exact jX (q0g m40 x33.Name (((q6b m40 x33.Name).getD [])++([n39]:List Int))) h (gr [0,1,2,3,4,5,6] rfl (hB rfl rfl rfl (hB rfl rfl rfl (hB rfl rfl rfl (hM rfl rfl (hM rfl rfl (hM rfl rfl (hM rfl rfl .nil))))))) rfl)
       refine rn 1 rfl ?_
       exact jX m40 h (gr [0,1,2,3,4,5,6] rfl (hB rfl rfl rfl (hB rfl rfl rfl (hB rfl rfl rfl (hM rfl rfl (hM rfl rfl (hM rfl rfl (hM rfl rfl .nil))))))) rfl)
      intro m47 h
      refine rn 5 rfl ?_
      exact jX ((w64 (n39+1)),m47) (hk4 _ h) (gr [0,1,2,3,4,5,6] rfl (hB rfl rfl rfl (hB rfl rfl rfl (hB rfl rfl rfl (hM rfl rfl (hM rfl rfl (hM rfl rfl (hM rfl rfl .nil))))))) rfl)
     replace h:=RG.f h hb41
     unfold z4x at h
     refine rn 1 rfl ?_
     exact jX m40 h (gr [0,1,3,4,5,6] rfl (hB rfl rfl rfl (hB rfl rfl rfl (hM rfl rfl (hM rfl rfl (hM rfl rfl (hM rfl rfl .nil)))))) rfl)
    intro m36 h
    refine rn 1 rfl ?_
    exact jX m36 h (gr [0,1,2,3,4,5] rfl (hB rfl rfl rfl (hB rfl rfl rfl (hM rfl rfl (hM rfl rfl (hM rfl rfl (hM rfl rfl .nil)))))) rfl)
   intro m32 h
   refine rn 4 rfl ?_
   exact jX ((w64 (n28+1)),m32) (hk3 _ h) (gr [0,1,2,3,4,5] rfl (hB rfl rfl rfl (hB rfl rfl rfl (hM rfl rfl (hM rfl rfl (hM rfl rfl (hM rfl rfl .nil)))))) rfl)
  replace h:=RG.f h hb30
  unfold j7i at h
  refine rn 1 rfl ?_
  exact jX m29 h (gr [1,2,3,4,5] rfl (hB rfl rfl rfl (hM rfl rfl (hM rfl rfl (hM rfl rfl (hM rfl rfl .nil))))) rfl)
 intro m25 h
 refine rn 4 rfl ?_
 refine ln rfl rfl ?_
 refine rn 2 rfl ?_
 refine jK h (fun(p:(List (B8×Bool)))=>(⟨[(7,(V.ptr 0 9 0 0))],[(0,(Ob.arr 91 9 [[(V.lst 2 (a1.Ifaces.map q2d)),(V.lst 2 (a1.Types.map q6e)),(V.lst 4 (a1.Funcs.map q8c)),(V.lst 1 (a1.Entries.map q6f)),(V.map 1),(V.map 2),(V.map 3),(V.map 4),(bV (a2==2))]])),(1,(Ob.map (m5.map q9d))),(2,(Ob.map (m15.map q9d))),(3,(Ob.map (m25.map q3i))),(4,(Ob.map (p.map q5b)))],5⟩:St)) (fun k52 p=>k52 p=some r) (fun k52 h=>?_) ?_
 ·refine rn 1 rfl ?_
  refine wl (A:=a3) 2 rfl (fun hA61=>?_)
  refine lC (fun(p:Int×(List (B8×Bool)))=>(⟨[(7,(V.ptr 0 9 0 0)),(96,(V.lst 1 (a3.map q6f))),(97,(iV ((a3.length:Nat):Int))),(98,(iV (p.1)))],[(0,(Ob.arr 91 9 [[(V.lst 2 (a1.Ifaces.map q2d)),(V.lst 2 (a1.Types.map q6e)),(V.lst 4 (a1.Funcs.map q8c)),(V.lst 1 (a1.Entries.map q6f)),(V.map 1),(V.map 2),(V.map 3),(V.map 4),(bV (a2==2))]])),(1,(Ob.map (m5.map q9d))),(2,(Ob.map (m15.map q9d))),(3,(Ob.map (m25.map q3i))),(4,(Ob.map ((p.2).map q5b)))],5⟩:St)) (fun n p=>RG a3 (fun tl nn=>j5i F k52 tl p.2=some r) n p.1) (fun p h=>RG.zero h) (a3.length+1) (0,(q0g ([]:List (B8×Bool)) ([]:B8) true)) (RG.start h) (gr [0,1,2,3,4] rfl (hB rfl rfl rfl (hM rfl rfl (hM rfl rfl (hM rfl rfl (hM rfl rfl .nil))))) rfl) (fun n p h=>?_)
  obtain⟨n56,m57⟩:=p
  refine rn 5 rfl ?_
  refine spL rfl (fun hb58=>?_) (fun hb58=>?_)
  ·obtain⟨x59,tl,hx60,h,hk5⟩:=RG.t hA61 h hb58
   unfold j5i at h
   refine rn 5 rfl ?_
   refine ixh hx60 rfl rfl ?_
   refine rn 9 rfl ?_
   refine q3f (es:=m57.map q5b) ((q0g m57 x59 true).map q5b) q4j q6h q7a rfl rfl (.con rfl) ⟨_,rfl⟩ q7e rfl (q1i m57 x59 true) ?_
   refine fo (rn 6 rfl ?_)
   exact jX ((w64 (n56+1)),(q0g m57 x59 true)) (hk5 _ h) (gr [0,1,2,3,4] rfl (hB rfl rfl rfl (hM rfl rfl (hM rfl rfl (hM rfl rfl (hM rfl rfl .nil))))) rfl)
  replace h:=RG.f h hb58
  unfold j5i at h
  refine rn 1 rfl ?_
  exact jX m57 h (gr [0,1,2,3,4] rfl (hB rfl rfl rfl (hM rfl rfl (hM rfl rfl (hM rfl rfl (hM rfl rfl .nil))))) rfl)
 intro m53 h
 refine rn 5 rfl ?_
 refine q0e (q1l 1 0 (Ob.arr 91 9 [[(V.lst 2 (a1.Ifaces.map q2d)),(V.lst 2 (a1.Types.map q6e)),(V.lst 4 (a1.Funcs.map q8c)),(V.lst 1 (a1.Entries.map q6f)),(V.imap (m5.map q9d)),(V.map 2),(V.map 3),(V.map 4),(bV (a2==2))]]) rfl z1b (q4b.box (.cons Sub.keepM (.cons Sub.keepM (.cons Sub.keepM (.cons Sub.keepM (.cons Sub.frzM (.cons Sub.keepM (.cons Sub.keepM (.cons Sub.keepM (.cons Sub.keepM .nil))))))))))) ?_
 refine q0e (q1l 2 0 (Ob.arr 91 9 [[(V.lst 2 (a1.Ifaces.map q2d)),(V.lst 2 (a1.Types.map q6e)),(V.lst 4 (a1.Funcs.map q8c)),(V.lst 1 (a1.Entries.map q6f)),(V.imap (m5.map q9d)),(V.imap (m15.map q9d)),(V.map 3),(V.map 4),(bV (a2==2))]]) rfl z1b (q4b.box (.cons Sub.keepM (.cons Sub.keepM (.cons Sub.keepM (.cons Sub.keepM (.cons Sub.keepM (.cons Sub.frzM (.cons Sub.keepM (.cons Sub.keepM (.cons Sub.keepM .nil))))))))))) ?_
 refine q0e (z9d 3 0 (m25.map q3l) (Ob.arr 91 9 [[(V.lst 2 (a1.Ifaces.map q2d)),(V.lst 2 (a1.Types.map q6e)),(V.lst 4 (a1.Funcs.map q8c)),(V.lst 1 (a1.Entries.map q6f)),(V.imap (m5.map q9d)),(V.imap (m15.map q9d)),(V.imap (m25.map q3l)),(V.map 4),(bV (a2==2))]]) rfl (by simp) (v9g z2q _) (q4b.box (.cons Sub.keepM (.cons Sub.keepM (.cons Sub.keepM (.cons Sub.keepM (.cons Sub.keepM (.cons Sub.keepM (.cons Sub.frzM (.cons Sub.keepM (.cons Sub.keepM .nil))))))))))) ?_
 refine q0e (q1l 4 0 (Ob.arr 91 9 [[(V.lst 2 (a1.Ifaces.map q2d)),(V.lst 2 (a1.Types.map q6e)),(V.lst 4 (a1.Funcs.map q8c)),(V.lst 1 (a1.Entries.map q6f)),(V.imap (m5.map q9d)),(V.imap (m15.map q9d)),(V.imap (m25.map q3l)),(V.imap (m53.map q5b)),(bV (a2==2))]]) rfl q0m (q4b.box (.cons Sub.keepM (.cons Sub.keepM (.cons Sub.keepM (.cons Sub.keepM (.cons Sub.keepM (.cons Sub.keepM (.cons Sub.keepM (.cons Sub.frzM (.cons Sub.keepM .nil))))))))))) ?_
 refine q0e (j0p 0 6 rfl (q7j (.cons (.cons (Imm.lst _ _) (.cons (Imm.lst _ _) (.cons (Imm.lst _ _) (.cons (Imm.lst _ _) (.cons (Imm.imap _) (.cons (Imm.imap _) (.cons (Imm.imap _) (.cons (Imm.imap _) (.cons (Imm.con _) .nil))))))))) .nil)) rfl rfl) ?_
 refine fa ?_
 exact rt h rfl
theorem W78(F:Nat)(a1:q7c)(a2:Int)(a3:(List B8))(r:((Option q1b)×Int))(h:M78 F a1 a2 a3=some r):q5n Tryz.prog 78 [(V.agg (q3d a1)),(iV a2),(V.lst 1 (a3.map q6f))] (V.tup [(v7n q4a (r.1)),(iV (r.2))]):=by
 refine pin (fun r=>(V.tup [(v7n q4a (r.1)),(iV (r.2))])) r rfl Tryz.func78 rfl rfl rfl rfl rfl (fun w0 m0 hg=>?_)
 unfold M78 at h
 refine rn 10 rfl ?_
 refine cl h rfl rfl rfl (W17 _ _) rfl (fun y4 hx5 h=>?_)
 refine rn 7 rfl ?_
 refine spC h rfl (fun hb6 h=>?_) (fun hb6 h=>?_)
 ·refine rn 6 rfl ?_
  exact rt h rfl
 refine rn 5 rfl ?_
 refine cl h rfl rfl rfl (W143 _ _) rfl (fun y7 hx8 h=>?_)
 refine rn 7 rfl ?_
 refine spC h rfl (fun hb9 h=>?_) (fun hb9 h=>?_)
 ·refine rn 6 rfl ?_
  exact rt h rfl
 refine rn 7 rfl ?_
 refine spO 22 h rfl (fun hb10 h=>?_) (fun hb10 h=>?_)
 ·refine rn 4 rfl ?_
  refine spC h rfl (fun hb11 h=>?_) (fun hb11 h=>?_)
  ·refine rn 5 rfl ?_
   exact rt h rfl
  refine rn 6 rfl ?_
  refine cl h rfl rfl rfl (W41 _ _ _ _) rfl (fun y12 hx13 h=>?_)
  obtain⟨x14,hx15,h⟩:=bind_some h
  refine rn 3 rfl ?_
  refine opC 6 hx15 rfl ?_
  exact rt h rfl
 refine rn 11 rfl ?_
 refine cl h rfl rfl rfl (W41 _ _ _ _) rfl (fun y16 hx17 h=>?_)
 obtain⟨x18,hx19,h⟩:=bind_some h
 refine rn 3 rfl ?_
 refine opC 6 hx19 rfl ?_
 exact rt h rfl
theorem W90(F:Nat)(a1:q7c)(a2:Int)(a3:(List B8))(a4:B8)(r:((Option q1b)×Int×Int))(h:M90 F a1 a2 a3 a4=some r):q5n Tryz.prog 90 [(V.agg (q3d a1)),(iV a2),(V.lst 1 (a3.map q6f)),(sV a4)] (V.tup [(v7n q4a (r.1)),(iV (r.2.1)),(iV (r.2.2))]):=by
 refine pin (fun r=>(V.tup [(v7n q4a (r.1)),(iV (r.2.1)),(iV (r.2.2))])) r rfl Tryz.func90 rfl rfl rfl rfl rfl (fun w0 m0 hg=>?_)
 unfold M90 at h
 refine rn 12 rfl ?_
 refine cl h rfl rfl rfl (W78 _ _ _ _) rfl (fun y5 hx6 h=>?_)
 refine rn 12 rfl ?_
 refine spC h rfl (fun hb7 h=>?_) (fun hb7 h=>?_)
 ·refine rn 7 rfl ?_
  exact rt h rfl
 obtain⟨x8,hx9,h⟩:=bind_some h
 refine rn 2 rfl ?_
 refine opC 11 hx9 rfl ?_
 refine rn 6 rfl ?_
 refine q5h _ (iV 0) (iV ((q6b x8.funcs a4).getD 0)) q1o q6h j5m (q9f _) q7a rfl .imm (.con rfl) ⟨_,rfl⟩ q7f (q8g x8.funcs a4) (q1f (q1g) (q6b x8.funcs a4) 0) (q6m ..) rfl ?_
 refine fo (rn 12 rfl ?_)
 refine spC h rfl (fun hb10 h=>?_) (fun hb10 h=>?_)
 ·refine rn 6 rfl ?_
  exact rt h rfl
 refine rn 9 rfl ?_
 exact rt h rfl
theorem W148(F:Nat)(a1:Int)(a2:q1b)(a3:List Bool)(a4:List Bool)(a5:List (q2a×Bool))(a6:List q2a)(a7:List Int)(a8:List Int)(r:((List Bool)×(List Int)))(h:v8v F a1 a2 a3 a4 a5 a6 a7 a8=some r):Mut Tryz.prog 148 [(V.ptr 0 7 0 0),(iV a1)] 7 [(0,(Ob.arr 170 7 [[(V.iptr (q4a a2) 0),(V.own 1 a3.length),(V.own 2 a4.length),(V.map 3),(V.own 4 a6.length),(V.own 5 a7.length),(V.own 6 a8.length)]])),(1,(Ob.arr 4 1 (a3.map q9h))),(2,(Ob.arr 4 1 (a4.map q9h))),(3,(Ob.map (a5.map q8e))),(4,(Ob.arr 304 2 (a6.map q1c))),(5,(Ob.arr 3 1 (a7.map q9a))),(6,(Ob.arr 3 1 (a8.map q9a)))] (v5s []) 8 [(0,(Ob.arr 170 7 [[(V.iptr (q4a a2) 0),(V.own 1 (r.1).length),(V.own 2 a4.length),(V.map 3),(V.own 4 a6.length),(V.own 5 a7.length),(V.own 7 (r.2).length)]])),(1,(Ob.arr 4 1 ((r.1).map q9h))),(2,(Ob.arr 4 1 (a4.map q9h))),(3,(Ob.map (a5.map q8e))),(4,(Ob.arr 304 2 (a6.map q1c))),(5,(Ob.arr 3 1 (a7.map q9a))),(6,Ob.dead),(7,(Ob.arr 3 1 ((r.2).map q9a)))]:=by
 refine z5d Tryz.func148 rfl rfl (l:=[]) rfl rfl [(0,(V.ptr 0 7 0 0)),(1,(iV a1))] rfl (fun w0 m0 β0 hg=>en ?_)
 unfold v8v at h
 refine rn 7 rfl ?_
 refine ixo (a:=a3) h rfl rfl rfl (fun x17 hx18 h=>?_)
 refine ldp hx18 rfl rfl rfl rfl ?_
 refine rn 2 rfl ?_
 refine spC h rfl (fun hb19 h=>?_) (fun hb19 h=>?_)
 ·refine rn 7 rfl ?_
  refine ixo (a:=a3) h rfl rfl rfl (fun x20 hx21 h=>?_)
  refine stS true hx21 rfl rfl rfl rfl rfl rfl ?_
  refine rn 8 rfl ?_
  refine q9e [(0,(iV a1))] [[(iV a1)]] q3v tZ3 rfl rfl rfl rfl q7a (q7g rfl q5i) rfl rfl (by simp) rfl ?_
  refine fo ?_
  refine apO q9a h rfl rfl rfl rfl rfl rfl rfl rfl (fun h=>?_)
  refine rn 4 rfl ?_
  replace h:=Option.some.inj h
  subst h
  exact wE ⟨.inr rfl,[],(q9g 8 (fun i=>([0,1,2,3,4,5,6,8]:List Nat).getD i 0) _ _ (by decide) (q9k.get .nil) (q6i.get (.cons rfl (q4b.box (.cons (Sub.imm (Imm.iptr _ _)) (.cons (Sub.ownE rfl rfl (by simp)) (.cons (Sub.own rfl rfl) (.cons (Sub.map rfl rfl) (.cons (Sub.own rfl rfl) (.cons (Sub.own rfl rfl) (.cons (Sub.own rfl rfl) .nil)))))))) (.cons rfl (q4b.rows (q3b q2f)) (.cons rfl (q4b.rows (q3b q2f)) (.cons rfl (q4b.maps q2g) (.cons rfl (q4b.rows (q3b q4e)) (.cons rfl (q4b.rows (q3b q7b)) (.cons rfl q4b.deadT (.cons rfl (q4b.rows (q3b q7b)) .nil))))))))) rfl),.nil⟩
 refine rn 1 rfl ?_
 replace h:=Option.some.inj h
 subst h
 exact wE ⟨.inr rfl,[],(q8h.trans (q9s 6 0 7 3 1 (Ob.arr 170 7 [[(V.iptr (q4a a2) 0),(V.own 1 a3.length),(V.own 2 a4.length),(V.map 3),(V.own 4 a6.length),(V.own 5 a7.length),(V.own 7 a8.length)]]) rfl rfl rfl (q4b.box (.cons Sub.keepMv (.cons Sub.keepMv (.cons Sub.keepMv (.cons Sub.keepMv (.cons Sub.keepMv (.cons Sub.keepMv (.cons Sub.mv .nil)))))))) rfl rfl) (gr [0,1,2,3,4,5,6,7] rfl (hB rfl rfl rfl (hR rfl rfl (hR rfl rfl (hM rfl rfl (hR rfl rfl (hR rfl rfl (hD rfl (hR rfl rfl .nil)))))))) rfl)),.nil⟩
theorem W204(F:Nat)(a1:(List Int))(a2:Int)(r:Int)(h:M204 F a1 a2=some r):q5n Tryz.prog 204 [(V.lst 1 (a1.map q9a)),(iV a2)] (iV r):=by
 refine pin (fun r=>(iV r)) r rfl Tryz.func204 rfl rfl rfl rfl rfl (fun w0 m0 hg=>?_)
 unfold M204 at h
 refine rn 8 rfl ?_
 refine ln rfl rfl ?_
 refine rn 2 rfl ?_
 refine jK h (fun _:Unit=>(⟨[],[],0⟩:St)) (fun k3 (_:Unit)=>k3=some r) (fun k3 h=>?_) ?_
 ·refine rn 1 rfl ?_
  refine wl (A:=a1) 0 rfl (fun hA10=>?_)
  refine lC (fun(p:Int)=>(⟨[(0,(V.lst 1 (a1.map q9a))),(1,(iV a2)),(7,(iV ((a1.length:Nat):Int))),(8,(iV p))],[],0⟩:St)) (fun n p=>RG a1 (fun tl nn=>z6m F a2 k3 tl nn=some r) n p) (fun p h=>RG.zero h) (a1.length+1) 0 (RG.start h) (g0 rfl rfl) (fun n n5 h=>?_)
  refine rn 5 rfl ?_
  refine spL rfl (fun hb6=>?_) (fun hb6=>?_)
  ·obtain⟨x7,tl,hx8,h,hk1⟩:=RG.t hA10 h hb6
   unfold z6m at h
   refine rn 13 rfl ?_
   refine ixh hx8 rfl rfl ?_
   refine rn 3 rfl ?_
   refine spC h rfl (fun hb9 h=>?_) (fun hb9 h=>?_)
   ·refine rn 5 rfl ?_
    exact rt h rfl
   refine rn 6 rfl ?_
   exact jX (w64 (n5+1)) (hk1 _ h) (g0 rfl rfl)
  replace h:=RG.f h hb6
  unfold z6m at h
  refine rn 1 rfl ?_
  exact jX () h (g0 rfl rfl)
 intro _ h
 refine rn 4 rfl ?_
 exact rt h rfl
theorem W164(F:Nat)(a1:(List Int))(a2:Int)(r:Bool)(h:w5u F a1 a2=some r):q5n Tryz.prog 164 [(V.lst 1 (a1.map q9a)),(iV a2)] (bV r):=by
 refine pin (fun r=>(bV r)) r rfl Tryz.func164 rfl rfl rfl rfl rfl (fun w0 m0 hg=>?_)
 unfold w5u at h
 refine rn 8 rfl ?_
 refine cl h rfl rfl rfl (W204 _ _ _) rfl (fun y3 hx4 h=>?_)
 refine rn 3 rfl ?_
 exact rt h rfl
theorem w9t(F:Nat)(a1:q1b)(a2:q6c)(a3:Int)(r:Int)(h:z3f F a1 a2 a3=some r):q5n Tryz.prog 151 [(V.iptr (q4a a1) 0),(V.agg (q6d a2)),(iV a3)] (iV r):=by
 refine pin (fun r=>(iV r)) r rfl Tryz.func151 rfl rfl rfl rfl rfl (fun w0 m0 hg=>?_)
 unfold z3f at h
 obtain⟨x4,hx5,h⟩:=bind_some h
 obtain⟨y6,hx7,h⟩:=bind_some h
 refine rn 6 rfl ?_
 refine dr mixed (vs 6 rfl (iD hx5 rfl rfl rfl (vs 3 rfl (cD rfl rfl rfl rfl (W169 _ _ _ _ hx7) rfl (vs 5 rfl .nil))))) (by kernel_rfl) ?_
 refine rn 7 rfl ?_
 refine q7d _ (iV 0) (iV ((q6b a1.funcs (y6.1)).getD 0)) q1o q6h j5m (q9f _) q7a rfl .imm (.con rfl) ⟨_,rfl⟩ q7f (q8g a1.funcs (y6.1)) (q1f (q1g) (q6b a1.funcs (y6.1)) 0) rfl ?_
 refine fo (rn 2 rfl ?_)
 exact rt h rfl
theorem W149(F:Nat)(a1:Int)(a2:q1b)(a3:List Bool)(a4:List Bool)(a5:List (q2a×Bool))(a6:List q2a)(a7:List Int)(a8:List Int)(r:((List Bool)×(List Bool)×(List Int)))(h:M149 F a1 a2 a3 a4 a5 a6 a7 a8=some r):Mut Tryz.prog 149 [(V.ptr 0 7 0 0),(iV a1)] 7 [(0,(Ob.arr 170 7 [[(V.iptr (q4a a2) 0),(V.own 1 a3.length),(V.own 2 a4.length),(V.map 3),(V.own 4 a6.length),(V.own 5 a7.length),(V.own 6 a8.length)]])),(1,(Ob.arr 4 1 (a3.map q9h))),(2,(Ob.arr 4 1 (a4.map q9h))),(3,(Ob.map (a5.map q8e))),(4,(Ob.arr 304 2 (a6.map q1c))),(5,(Ob.arr 3 1 (a7.map q9a))),(6,(Ob.arr 3 1 (a8.map q9a)))] (v5s []) 8 [(0,(Ob.arr 170 7 [[(V.iptr (q4a a2) 0),(V.own 1 (r.1).length),(V.own 2 (r.2.1).length),(V.map 3),(V.own 4 a6.length),(V.own 5 a7.length),(V.own 7 (r.2.2).length)]])),(1,(Ob.arr 4 1 ((r.1).map q9h))),(2,(Ob.arr 4 1 ((r.2.1).map q9h))),(3,(Ob.map (a5.map q8e))),(4,(Ob.arr 304 2 (a6.map q1c))),(5,(Ob.arr 3 1 (a7.map q9a))),(6,Ob.dead),(7,(Ob.arr 3 1 ((r.2.2).map q9a)))]:=by
 refine z5d Tryz.func149 rfl rfl (l:=[]) rfl rfl [(0,(V.ptr 0 7 0 0)),(1,(iV a1))] rfl (fun w0 m0 β0 hg=>en ?_)
 unfold M149 at h
 refine rn 8 rfl ?_
 refine ixo (a:=a4) h rfl rfl rfl (fun x38 hx39 h=>?_)
 refine ldp hx39 rfl rfl rfl rfl ?_
 refine rn 1 rfl ?_
 refine spC h rfl (fun hb40 h=>?_) (fun hb40 h=>?_)
 ·replace h:=Option.some.inj h
  subst h
  exact wR ⟨.inl rfl,[],(q8h.trans (q9s 6 0 7 3 1 (Ob.arr 170 7 [[(V.iptr (q4a a2) 0),(V.own 1 a3.length),(V.own 2 a4.length),(V.map 3),(V.own 4 a6.length),(V.own 5 a7.length),(V.own 7 a8.length)]]) rfl rfl rfl (q4b.box (.cons Sub.keepMv (.cons Sub.keepMv (.cons Sub.keepMv (.cons Sub.keepMv (.cons Sub.keepMv (.cons Sub.keepMv (.cons Sub.mv .nil)))))))) rfl rfl) (gr [0,1,2,3,4,5,6,7] rfl (hB rfl rfl rfl (hR rfl rfl (hR rfl rfl (hM rfl rfl (hR rfl rfl (hR rfl rfl (hD rfl (hR rfl rfl .nil)))))))) rfl)),.nil⟩
 refine rn 8 rfl ?_
 refine ixo (a:=a4) h rfl rfl rfl (fun x41 hx42 h=>?_)
 refine stS true hx42 rfl rfl rfl rfl rfl rfl ?_
 refine rn 13 rfl ?_
 refine spC h rfl (fun hb43 h=>?_) (fun hb43 h=>?_)
 ·replace h:=Option.some.inj h
  subst h
  exact wR ⟨.inl rfl,[],(q8h.trans (q9s 6 0 7 3 1 (Ob.arr 170 7 [[(V.iptr (q4a a2) 0),(V.own 1 a3.length),(V.own 2 a4.length),(V.map 3),(V.own 4 a6.length),(V.own 5 a7.length),(V.own 7 a8.length)]]) rfl rfl rfl (q4b.box (.cons Sub.keepMv (.cons Sub.keepMv (.cons Sub.keepMv (.cons Sub.keepMv (.cons Sub.keepMv (.cons Sub.keepMv (.cons Sub.mv .nil)))))))) rfl rfl) (q9g 8 (fun i=>([0,1,2,3,4,5,6,7]:List Nat).getD i 0) _ _ (by decide) (q9k.get .nil) (q6i.get (.cons rfl (q4b.box (.cons (Sub.imm (Imm.iptr _ _)) (.cons (Sub.own rfl rfl) (.cons (Sub.ownE rfl rfl (by simp)) (.cons (Sub.map rfl rfl) (.cons (Sub.own rfl rfl) (.cons (Sub.own rfl rfl) (.cons (Sub.own rfl rfl) .nil)))))))) (.cons rfl (q4b.rows (q3b q2f)) (.cons rfl (q4b.rows (q3b q2f)) (.cons rfl (q4b.maps q2g) (.cons rfl (q4b.rows (q3b q4e)) (.cons rfl (q4b.rows (q3b q7b)) (.cons rfl q4b.deadT (.cons rfl (q4b.rows (q3b q7b)) .nil))))))))) rfl)),.nil⟩
 refine rn 11 rfl ?_
 refine wlO (A:=a6) 4 rfl (fun hA63=>?_)
 refine lC (fun(p:Int×(List Bool)×(List Int))=>(⟨[(0,(V.ptr 0 7 0 0)),(1,(iV a1)),(30,(V.own 4 a6.length)),(31,(iV ((a6.length:Nat):Int))),(32,(iV (p.1)))],[(0,(Ob.arr 170 7 [[(V.iptr (q4a a2) 0),(V.own 1 (p.2.1).length),(V.own 2 (a4.set a1.toNat true).length),(V.map 3),(V.own 4 a6.length),(V.own 5 a7.length),(V.own 7 (p.2.2).length)]])),(1,(Ob.arr 4 1 ((p.2.1).map q9h))),(2,(Ob.arr 4 1 ((a4.set a1.toNat true).map q9h))),(3,(Ob.map (a5.map q8e))),(4,(Ob.arr 304 2 (a6.map q1c))),(5,(Ob.arr 3 1 (a7.map q9a))),(6,Ob.dead),(7,(Ob.arr 3 1 ((p.2.2).map q9a)))],8⟩:St)) (fun n p=>RG a6 (fun tl nn=>z4f F a1 a2 a4 a5 a6 a7 tl p.2.1 p.2.2=some r) n p.1) (fun p h=>RG.zero h) (a6.length+1) (0,a3,a8) (RG.start h) (q8h.trans (q9s 6 0 7 3 1 (Ob.arr 170 7 [[(V.iptr (q4a a2) 0),(V.own 1 a3.length),(V.own 2 a4.length),(V.map 3),(V.own 4 a6.length),(V.own 5 a7.length),(V.own 7 a8.length)]]) rfl rfl rfl (q4b.box (.cons Sub.keepMv (.cons Sub.keepMv (.cons Sub.keepMv (.cons Sub.keepMv (.cons Sub.keepMv (.cons Sub.keepMv (.cons Sub.mv .nil)))))))) rfl rfl) (q9g 8 (fun i=>([0,1,2,3,4,5,6,7]:List Nat).getD i 0) _ _ (by decide) (q9k.get (.cons (Sub.ptr rfl rfl) (.cons (Sub.imm (Imm.con _)) (.cons (Sub.own rfl rfl) (.cons (Sub.imm (Imm.con _)) (.cons (Sub.imm (Imm.con _)) .nil)))))) (q6i.get (.cons rfl (q4b.box (.cons (Sub.imm (Imm.iptr _ _)) (.cons (Sub.own rfl rfl) (.cons (Sub.ownE rfl rfl (by simp)) (.cons (Sub.map rfl rfl) (.cons (Sub.own rfl rfl) (.cons (Sub.own rfl rfl) (.cons (Sub.own rfl rfl) .nil)))))))) (.cons rfl (q4b.rows (q3b q2f)) (.cons rfl (q4b.rows (q3b q2f)) (.cons rfl (q4b.maps q2g) (.cons rfl (q4b.rows (q3b q4e)) (.cons rfl (q4b.rows (q3b q7b)) (.cons rfl q4b.deadT (.cons rfl (q4b.rows (q3b q7b)) .nil))))))))) rfl)) (fun n p h=>?_)
 obtain⟨n47,l48,l49⟩:=p
 refine rn 5 rfl ?_
 refine spL rfl (fun hb50=>?_) (fun hb50=>?_)
 ·obtain⟨x51,tl,hx52,h,hk1⟩:=RG.t hA63 h hb50
  unfold z4f at h
  refine rn 5 rfl ?_
  refine ixoh (a:=a6) hx52 rfl rfl rfl ?_
  refine ldp hx52 rfl rfl rfl rfl ?_
  obtain⟨y53,hx54,h⟩:=bind_some h
  refine rn 4 rfl ?_
  refine dr mixed (vs 9 rfl (xD (OD.mk [(42,(V.imap (a2.fitting.map q3l))),(44,(sV x51.iface))] [] [(45,(V.lst 1 (((q6b a2.fitting x51.iface).getD ([]:(List Int))).map q9a)))] []) ⟨⟨rfl,rfl,trivial⟩,trivial⟩ (by exact fun S hn h hh=>q7d _ (V.lst 1 (([]:(List Int)).map q9a)) (V.lst 1 (((q6b a2.fitting x51.iface).getD ([]:(List Int))).map q9a)) z3o q6h z6v (fun _=>.nil _ _ _) q7a h.1 .imm (.con h.2.1) ⟨_,rfl⟩ q0n (q9m a2.fitting x51.iface) (q1f (q6l) (q6b a2.fitting x51.iface) ([]:(List Int))) rfl (q8d ⟨rfl,rfl⟩)) rfl (vs 1 rfl (cD rfl rfl rfl rfl (W164 _ _ _ _ hx54) rfl .nil)))) (by kernel_rfl) ?_
  refine jK h (fun(p:(List Bool)×(List Int))=>(⟨[(0,(V.ptr 0 7 0 0)),(1,(iV a1)),(30,(V.own 4 a6.length)),(31,(iV ((a6.length:Nat):Int))),(32,(iV n47))],[(0,(Ob.arr 170 7 [[(V.iptr (q4a a2) 0),(V.own 1 (p.1).length),(V.own 2 (a4.set a1.toNat true).length),(V.map 3),(V.own 4 a6.length),(V.own 5 a7.length),(V.own 7 (p.2).length)]])),(1,(Ob.arr 4 1 ((p.1).map q9h))),(2,(Ob.arr 4 1 ((a4.set a1.toNat true).map q9h))),(3,(Ob.map (a5.map q8e))),(4,(Ob.arr 304 2 (a6.map q1c))),(5,(Ob.arr 3 1 (a7.map q9a))),(6,Ob.dead),(7,(Ob.arr 3 1 ((p.2).map q9a)))],8⟩:St)) (fun k55 p=>k55 p.1 p.2=some r) (fun k55 h=>?_) ?_
  ·refine spC h rfl (fun hb58 h=>?_) (fun hb58 h=>?_)
   ·obtain⟨y59,hx60,h⟩:=bind_some h
    obtain⟨y61,hx62,h⟩:=bind_some h
    refine q0e q8j ?_
    refine fa ?_
    refine dr mixed (vs 11 rfl (cD rfl rfl rfl rfl (w9t _ _ _ _ _ hx60) rfl (xD (OD.mk [(48,(V.ptr 0 7 0 0)),(59,(iV y59))] [(0,(Ob.arr 170 7 [[(V.iptr (q4a a2) 0),(V.own 1 l48.length),(V.own 2 (a4.set a1.toNat true).length),(V.map 3),(V.own 4 a6.length),(V.own 5 a7.length),(V.own 7 l49.length)]])),(1,(Ob.arr 4 1 (l48.map q9h))),(2,(Ob.arr 4 1 ((a4.set a1.toNat true).map q9h))),(3,(Ob.map (a5.map q8e))),(4,(Ob.arr 304 2 (a6.map q1c))),(5,(Ob.arr 3 1 (a7.map q9a))),(7,(Ob.arr 3 1 (l49.map q9a))),(9,Ob.res)] [(60,(V.tup []))] [(0,(Ob.arr 170 7 [[(V.iptr (q4a a2) 0),(V.own 1 (y61.1).length),(V.own 2 (a4.set a1.toNat true).length),(V.map 3),(V.own 4 a6.length),(V.own 5 a7.length),(V.own 9 (y61.2).length)]])),(1,(Ob.arr 4 1 ((y61.1).map q9h))),(2,(Ob.arr 4 1 ((a4.set a1.toNat true).map q9h))),(3,(Ob.map (a5.map q8e))),(4,(Ob.arr 304 2 (a6.map q1c))),(5,(Ob.arr 3 1 (a7.map q9a))),(7,Ob.dead),(9,(Ob.arr 3 1 ((y61.2).map q9a)))]) ⟨⟨rfl,rfl,trivial⟩,⟨rfl,rfl,rfl,rfl,rfl,rfl,rfl,rfl,trivial⟩⟩ (by exact fun S hn h hh=>q4s [9] hn (List.forall_mem_cons.2 ⟨hh.2.2.2.2.2.2.2.1,(fun _ hx=>nomatch hx)⟩) (V.tup []) [(V.ptr 0 7 0 0),(iV y59)] (fun i=>([0,1,2,3,4,5,7]:List Nat).getD i 0) (fun i=>([0,1,2,3,4,5,7,9]:List Nat).getD i 0) [(0,(Ob.arr 170 7 [[(V.iptr (q4a a2) 0),(V.own 1 (y61.1).length),(V.own 2 (a4.set a1.toNat true).length),(V.map 3),(V.own 4 a6.length),(V.own 5 a7.length),(V.own 9 (y61.2).length)]])),(1,(Ob.arr 4 1 ((y61.1).map q9h))),(2,(Ob.arr 4 1 ((a4.set a1.toNat true).map q9h))),(3,(Ob.map (a5.map q8e))),(4,(Ob.arr 304 2 (a6.map q1c))),(5,(Ob.arr 3 1 (a7.map q9a))),(7,Ob.dead),(9,(Ob.arr 3 1 ((y61.2).map q9a)))] v4b q7a rfl (q4f h.1 (q4f h.2.1 q8k)) (.cons (Sub.ptr rfl rfl) (.cons (Sub.imm (Imm.con _)) .nil)) (q6i.consE (id:=0) rfl hh.1 (q4b.box (.cons (Sub.imm (Imm.iptr _ _)) (.cons (Sub.own rfl rfl) (.cons (Sub.own rfl rfl) (.cons (Sub.map rfl rfl) (.cons (Sub.own rfl rfl) (.cons (Sub.own rfl rfl) (.cons (Sub.own rfl rfl) .nil)))))))) (q6i.consE (id:=1) rfl hh.2.1 (q4b.rows (q3b q2f)) (q6i.consE (id:=2) rfl hh.2.2.1 (q4b.rows (q3b q2f)) (q6i.consE (id:=3) rfl hh.2.2.2.1 (q4b.maps q2g) (q6i.consE (id:=4) rfl hh.2.2.2.2.1 (q4b.rows (q3b q4e)) (q6i.consE (id:=5) rfl hh.2.2.2.2.2.1 (q4b.rows (q3b q7b)) (q6i.consE (id:=6) rfl hh.2.2.2.2.2.2.1 (q4b.rows (q3b q7b)) .nil))))))) (W148 F y59 a2 l48 (a4.set a1.toNat true) a5 a6 a7 l49 y61 hx62) rfl rfl rfl rfl (Sub.immT (Imm.tup .nil)) (.cons rfl (q4b.box (.cons (Sub.immT (Imm.iptr _ _)) (.cons (Sub.ownT rfl rfl) (.cons (Sub.ownT rfl rfl) (.cons (Sub.mapT rfl rfl) (.cons (Sub.ownT rfl rfl) (.cons (Sub.ownT rfl rfl) (.cons (Sub.ownT rfl rfl) .nil)))))))) (.cons rfl (q4b.rowsT (q3b q2f)) (.cons rfl (q4b.rowsT (q3b q2f)) (.cons rfl (q4b.mapsT q2g) (.cons rfl (q4b.rowsT (q3b q4e)) (.cons rfl (q4b.rowsT (q3b q7b)) (.cons rfl q4b.deadT (.cons rfl (q4b.rowsT (q3b q7b)) .nil)))))))) (q8d ⟨rfl,rfl⟩)) rfl .nil))) (by kernel_rfl) ?_
    exact jX ((y61.1),(y61.2)) h (gr [0,1,2,3,4,5,6,9] rfl (hB rfl rfl rfl (hR rfl rfl (hR rfl rfl (hM rfl rfl (hR rfl rfl (hR rfl rfl (hD rfl (hR rfl rfl .nil)))))))) rfl)
   refine rn 1 rfl ?_
   exact jX (l48,l49) h (gr [0,1,2,3,4,5,6,7] rfl (hB rfl rfl rfl (hR rfl rfl (hR rfl rfl (hM rfl rfl (hR rfl rfl (hR rfl rfl (hD rfl (hR rfl rfl .nil)))))))) rfl)
  rintro⟨l56,l57⟩ h
  refine rn 5 rfl ?_
  exact jX ((w64 (n47+1)),l56,l57) (hk1 _ h) (gr [0,1,2,3,4,5,6,7] rfl (hB rfl rfl rfl (hR rfl rfl (hR rfl rfl (hM rfl rfl (hR rfl rfl (hR rfl rfl (hD rfl (hR rfl rfl .nil)))))))) rfl)
 replace h:=RG.f h hb50
 unfold z4f at h
 refine rn 1 rfl ?_
 replace h:=Option.some.inj h
 subst h
 exact wE ⟨.inr rfl,[],(gr [0,1,2,3,4,5,6,7] rfl (hB rfl rfl rfl (hR rfl rfl (hR rfl rfl (hM rfl rfl (hR rfl rfl (hR rfl rfl (hD rfl (hR rfl rfl .nil)))))))) rfl),.nil⟩
theorem W150(F:Nat)(a1:q6c)(a2:q1b)(a3:List Bool)(a4:List Bool)(a5:List (q2a×Bool))(a6:List q2a)(a7:List Int)(a8:List Int)(r:((List Bool)×(List (q2a×Bool))×(List q2a)×(List Int)))(h:M150 F a1 a2 a3 a4 a5 a6 a7 a8=some r):Mut Tryz.prog 150 [(V.ptr 0 7 0 0),(V.agg (q6d a1))] 7 [(0,(Ob.arr 170 7 [[(V.iptr (q4a a2) 0),(V.own 1 a3.length),(V.own 2 a4.length),(V.map 3),(V.own 4 a6.length),(V.own 5 a7.length),(V.own 6 a8.length)]])),(1,(Ob.arr 4 1 (a3.map q9h))),(2,(Ob.arr 4 1 (a4.map q9h))),(3,(Ob.map (a5.map q8e))),(4,(Ob.arr 304 2 (a6.map q1c))),(5,(Ob.arr 3 1 (a7.map q9a))),(6,(Ob.arr 3 1 (a8.map q9a)))] (v5s []) 9 [(0,(Ob.arr 170 7 [[(V.iptr (q4a a2) 0),(V.own 1 (r.1).length),(V.own 2 a4.length),(V.map 3),(V.own 7 (r.2.2.1).length),(V.own 5 a7.length),(V.own 8 (r.2.2.2).length)]])),(1,(Ob.arr 4 1 ((r.1).map q9h))),(2,(Ob.arr 4 1 (a4.map q9h))),(3,(Ob.map ((r.2.1).map q8e))),(4,Ob.dead),(5,(Ob.arr 3 1 (a7.map q9a))),(6,Ob.dead),(7,(Ob.arr 304 2 ((r.2.2.1).map q1c))),(8,(Ob.arr 3 1 ((r.2.2.2).map q9a)))]:=by
 refine z5d Tryz.func150 rfl rfl (l:=[]) rfl rfl [(0,(V.ptr 0 7 0 0)),(1,(V.agg (q6d a1)))] rfl (fun w0 m0 β0 hg=>en ?_)
 unfold M150 at h
 refine rn 11 rfl ?_
 refine spC h rfl (fun hb46 h=>?_) (fun hb46 h=>?_)
 ·obtain⟨y47,hx48,h⟩:=bind_some h
  refine rn 1 rfl ?_
  refine q0e q8j ?_
  refine fa ?_
  refine dr mixed (vs 10 rfl (xD (OD.mk [(17,(V.imap (a2.funcs.map q9d))),(19,(sV a1.Target))] [] [(20,(iV ((q6b a2.funcs a1.Target).getD 0)))] []) ⟨⟨rfl,rfl,trivial⟩,trivial⟩ (by exact fun S hn h hh=>q7d _ (iV 0) (iV ((q6b a2.funcs a1.Target).getD 0)) q1o q6h j5m (q9f _) q7a h.1 .imm (.con h.2.1) ⟨_,rfl⟩ q7f (q8g a2.funcs a1.Target) (q1f (q1g) (q6b a2.funcs a1.Target) 0) rfl (q8d ⟨rfl,rfl⟩)) rfl (xD (OD.mk [(10,(V.ptr 0 7 0 0)),(20,(iV ((q6b a2.funcs a1.Target).getD 0)))] [(0,(Ob.arr 170 7 [[(V.iptr (q4a a2) 0),(V.own 1 a3.length),(V.own 2 a4.length),(V.map 3),(V.own 4 a6.length),(V.own 5 a7.length),(V.own 6 a8.length)]])),(1,(Ob.arr 4 1 (a3.map q9h))),(2,(Ob.arr 4 1 (a4.map q9h))),(3,(Ob.map (a5.map q8e))),(4,(Ob.arr 304 2 (a6.map q1c))),(5,(Ob.arr 3 1 (a7.map q9a))),(6,(Ob.arr 3 1 (a8.map q9a))),(8,Ob.res)] [(21,(V.tup []))] [(0,(Ob.arr 170 7 [[(V.iptr (q4a a2) 0),(V.own 1 (y47.1).length),(V.own 2 a4.length),(V.map 3),(V.own 4 a6.length),(V.own 5 a7.length),(V.own 8 (y47.2).length)]])),(1,(Ob.arr 4 1 ((y47.1).map q9h))),(2,(Ob.arr 4 1 (a4.map q9h))),(3,(Ob.map (a5.map q8e))),(4,(Ob.arr 304 2 (a6.map q1c))),(5,(Ob.arr 3 1 (a7.map q9a))),(6,Ob.dead),(8,(Ob.arr 3 1 ((y47.2).map q9a)))]) ⟨⟨rfl,rfl,trivial⟩,⟨rfl,rfl,rfl,rfl,rfl,rfl,rfl,rfl,trivial⟩⟩ (by exact fun S hn h hh=>q4s [8] hn (List.forall_mem_cons.2 ⟨hh.2.2.2.2.2.2.2.1,(fun _ hx=>nomatch hx)⟩) (V.tup []) [(V.ptr 0 7 0 0),(iV ((q6b a2.funcs a1.Target).getD 0))] (fun i=>([0,1,2,3,4,5,6]:List Nat).getD i 0) (fun i=>([0,1,2,3,4,5,6,8]:List Nat).getD i 0) [(0,(Ob.arr 170 7 [[(V.iptr (q4a a2) 0),(V.own 1 (y47.1).length),(V.own 2 a4.length),(V.map 3),(V.own 4 a6.length),(V.own 5 a7.length),(V.own 8 (y47.2).length)]])),(1,(Ob.arr 4 1 ((y47.1).map q9h))),(2,(Ob.arr 4 1 (a4.map q9h))),(3,(Ob.map (a5.map q8e))),(4,(Ob.arr 304 2 (a6.map q1c))),(5,(Ob.arr 3 1 (a7.map q9a))),(6,Ob.dead),(8,(Ob.arr 3 1 ((y47.2).map q9a)))] v4b q7a rfl (q4f h.1 (q4f h.2.1 q8k)) (.cons (Sub.ptr rfl rfl) (.cons (Sub.imm (Imm.con _)) .nil)) (q6i.consE (id:=0) rfl hh.1 (q4b.box (.cons (Sub.imm (Imm.iptr _ _)) (.cons (Sub.own rfl rfl) (.cons (Sub.own rfl rfl) (.cons (Sub.map rfl rfl) (.cons (Sub.own rfl rfl) (.cons (Sub.own rfl rfl) (.cons (Sub.own rfl rfl) .nil)))))))) (q6i.consE (id:=1) rfl hh.2.1 (q4b.rows (q3b q2f)) (q6i.consE (id:=2) rfl hh.2.2.1 (q4b.rows (q3b q2f)) (q6i.consE (id:=3) rfl hh.2.2.2.1 (q4b.maps q2g) (q6i.consE (id:=4) rfl hh.2.2.2.2.1 (q4b.rows (q3b q4e)) (q6i.consE (id:=5) rfl hh.2.2.2.2.2.1 (q4b.rows (q3b q7b)) (q6i.consE (id:=6) rfl hh.2.2.2.2.2.2.1 (q4b.rows (q3b q7b)) .nil))))))) (W148 F ((q6b a2.funcs a1.Target).getD 0) a2 a3 a4 a5 a6 a7 a8 y47 hx48) rfl rfl rfl rfl (Sub.immT (Imm.tup .nil)) (.cons rfl (q4b.box (.cons (Sub.immT (Imm.iptr _ _)) (.cons (Sub.ownT rfl rfl) (.cons (Sub.ownT rfl rfl) (.cons (Sub.mapT rfl rfl) (.cons (Sub.ownT rfl rfl) (.cons (Sub.ownT rfl rfl) (.cons (Sub.ownT rfl rfl) .nil)))))))) (.cons rfl (q4b.rowsT (q3b q2f)) (.cons rfl (q4b.rowsT (q3b q2f)) (.cons rfl (q4b.mapsT q2g) (.cons rfl (q4b.rowsT (q3b q4e)) (.cons rfl (q4b.rowsT (q3b q7b)) (.cons rfl q4b.deadT (.cons rfl (q4b.rowsT (q3b q7b)) .nil)))))))) (q8d ⟨rfl,rfl⟩)) rfl .nil))) (by kernel_rfl) ?_
  replace h:=Option.some.inj h
  subst h
  exact wR ⟨.inl rfl,[],(q8h.trans (q9s 4 0 9 304 2 (Ob.arr 170 7 [[(V.iptr (q4a a2) 0),(V.own 1 (y47.1).length),(V.own 2 a4.length),(V.map 3),(V.own 9 a6.length),(V.own 5 a7.length),(V.own 8 (y47.2).length)]]) rfl rfl rfl (q4b.box (.cons Sub.keepMv (.cons Sub.keepMv (.cons Sub.keepMv (.cons Sub.keepMv (.cons Sub.mv (.cons Sub.keepMv (.cons Sub.keepMv .nil)))))))) rfl rfl) (gr [0,1,2,3,4,5,6,9,8] rfl (hB rfl rfl rfl (hR rfl rfl (hR rfl rfl (hM rfl rfl (hD rfl (hR rfl rfl (hD rfl (hR rfl rfl (hR rfl rfl .nil))))))))) rfl)),.nil⟩
 refine rn 13 rfl ?_
 refine dr mixed (vs 5 rfl (xD (OD.mk [(30,(V.map 3)),(31,(V.agg [(sV a1.Target),(sV a1.Method)]))] [(3,(Ob.map (a5.map q8e)))] [(32,(bV ((q6b a5 (q2a.mk a1.Target a1.Method)).getD false)))] []) ⟨⟨rfl,rfl,trivial⟩,⟨rfl,trivial⟩⟩ (by exact fun S hn h hh=>q7d _ (bV false) (bV ((q6b a5 (q2a.mk a1.Target a1.Method)).getD false)) v6x v8x j4m (q9f _) q7a h.1 (.own hh.1) (.agg (z3q (q2a.mk a1.Target a1.Method)) h.2.1) ⟨_,rfl⟩ z7k (j3l a5 (q2a.mk a1.Target a1.Method)) (q1f (q8q) (q6b a5 (q2a.mk a1.Target a1.Method)) false) rfl (q8d ⟨rfl,rfl⟩)) rfl .nil)) (by kernel_rfl) ?_
 refine spC h rfl (fun hb49 h=>?_) (fun hb49 h=>?_)
 ·replace h:=Option.some.inj h
  subst h
  exact wR ⟨.inl rfl,[],(q8h.trans (q9s 4 0 9 304 2 (Ob.arr 170 7 [[(V.iptr (q4a a2) 0),(V.own 1 a3.length),(V.own 2 a4.length),(V.map 3),(V.own 9 a6.length),(V.own 5 a7.length),(V.own 6 a8.length)]]) rfl rfl rfl (q4b.box (.cons Sub.keepMv (.cons Sub.keepMv (.cons Sub.keepMv (.cons Sub.keepMv (.cons Sub.mv (.cons Sub.keepMv (.cons Sub.keepMv .nil)))))))) rfl rfl) (q8h.trans (q9s 6 0 10 3 1 (Ob.arr 170 7 [[(V.iptr (q4a a2) 0),(V.own 1 a3.length),(V.own 2 a4.length),(V.map 3),(V.own 9 a6.length),(V.own 5 a7.length),(V.own 10 a8.length)]]) rfl rfl rfl (q4b.box (.cons Sub.keepMv (.cons Sub.keepMv (.cons Sub.keepMv (.cons Sub.keepMv (.cons Sub.keepMv (.cons Sub.keepMv (.cons Sub.mv .nil)))))))) rfl rfl) (gr [0,1,2,3,4,5,6,9,10] rfl (hB rfl rfl rfl (hR rfl rfl (hR rfl rfl (hM rfl rfl (hD rfl (hR rfl rfl (hD rfl (hR rfl rfl (hR rfl rfl .nil))))))))) rfl))),.nil⟩
 refine rn 2 rfl ?_
 refine dr mixed (vs 5 rfl (xD (OD.mk [(36,(V.map 3)),(37,(V.agg [(sV a1.Target),(sV a1.Method)]))] [(3,(Ob.map (a5.map q8e)))] [] [(3,(Ob.map ((q0g a5 (q2a.mk a1.Target a1.Method) true).map q8e)))]) ⟨⟨rfl,rfl,trivial⟩,⟨rfl,trivial⟩⟩ (by exact fun S hn h hh=>q3f (es:=a5.map q8e) ((q0g a5 (q2a.mk a1.Target a1.Method) true).map q8e) v6x v8x q7a h.1 hh.1 (.agg (z3q (q2a.mk a1.Target a1.Method)) h.2.1) ⟨_,rfl⟩ z7k rfl (j2l a5 (q2a.mk a1.Target a1.Method) true) (q8d ⟨rfl,rfl⟩)) rfl .nil)) (by kernel_rfl) ?_
 refine rn 1 rfl ?_
 refine ck h (fun hc50 h=>?_)
 refine q0e q8j ?_
 refine fa ?_
 refine dr mixed (vs 6 rfl (xD (OD.mk [(43,(V.agg [(sV a1.Target),(sV a1.Method)]))] [] [(44,(V.lst 2 (([(q2a.mk a1.Target a1.Method)]:List q2a).map q1c)))] []) ⟨⟨rfl,trivial⟩,trivial⟩ (by exact fun S hn h hh=>q6g [(0,(V.agg [(sV a1.Target),(sV a1.Method)]))] [[(sV a1.Target),(sV a1.Method)]] w4r tZ304 q7a rfl rfl rfl rfl (q7g h.1 q5i) rfl rfl (by simp) (q7j (.cons (.cons (Imm.con _) (.cons (Imm.con _) .nil)) .nil)) rfl (q8d ⟨rfl,rfl⟩)) rfl (xD (OD.mk [(42,(V.own 4 a6.length)),(44,(V.lst 2 (([(q2a.mk a1.Target a1.Method)]:List q2a).map q1c)))] [(4,(Ob.arr 304 2 (a6.map q1c))),(9,Ob.res)] [(45,(V.own 9 (a6++([(q2a.mk a1.Target a1.Method)]:List q2a)).length))] [(9,(Ob.arr 304 2 ((a6++([(q2a.mk a1.Target a1.Method)]:List q2a)).map q1c))),(4,Ob.dead)]) ⟨⟨rfl,rfl,trivial⟩,⟨rfl,rfl,trivial⟩⟩ (by exact fun S hn h hh=>q7k 9 rfl hn hh.2.1 (([(q2a.mk a1.Target a1.Method)]:List q2a).map q1c) ((a6++([(q2a.mk a1.Target a1.Method)]:List q2a)).map q1c) w4r v7l rfl rfl q7a h.1 hh.1 (by simp) h.2.1 (.lst (q0s q2x)) (q1s q1c a6 ([(q2a.mk a1.Target a1.Method)]:List q2a)) (List.length_map ..) hc50 rfl (q8d ⟨rfl,rfl⟩)) rfl (vs 3 rfl .nil)))) (by kernel_rfl) ?_
 refine rn 1 rfl ?_
 refine dr mixed (vs 9 rfl (xD (OD.mk [(54,(V.imap (a2.fitting.map q3l))),(56,(sV a1.Target))] [] [(57,(V.lst 1 (((q6b a2.fitting a1.Target).getD ([]:(List Int))).map q9a)))] []) ⟨⟨rfl,rfl,trivial⟩,trivial⟩ (by exact fun S hn h hh=>q7d _ (V.lst 1 (([]:(List Int)).map q9a)) (V.lst 1 (((q6b a2.fitting a1.Target).getD ([]:(List Int))).map q9a)) z3o q6h z6v (fun _=>.nil _ _ _) q7a h.1 .imm (.con h.2.1) ⟨_,rfl⟩ q0n (q9m a2.fitting a1.Target) (q1f (q6l) (q6b a2.fitting a1.Target) ([]:(List Int))) rfl (q8d ⟨rfl,rfl⟩)) rfl (nD rfl rfl rfl (vs 1 rfl .nil)))) (by kernel_rfl) ?_
 refine rn 1 rfl ?_
 refine wl (A:=((q6b a2.fitting a1.Target).getD ([]:(List Int)))) 57 rfl (fun hA78=>?_)
 refine lC (fun(p:Int×(List Bool)×(List Int))=>(⟨[(0,(V.ptr 0 7 0 0)),(3,(V.ptr 7 4 0 0)),(57,(V.lst 1 (((q6b a2.fitting a1.Target).getD ([]:(List Int))).map q9a))),(58,(iV ((((q6b a2.fitting a1.Target).getD ([]:(List Int))).length:Nat):Int))),(59,(iV (p.1)))],[(0,(Ob.arr 170 7 [[(V.iptr (q4a a2) 0),(V.own 1 (p.2.1).length),(V.own 2 a4.length),(V.map 3),(V.own 8 (a6++([(q2a.mk a1.Target a1.Method)]:List q2a)).length),(V.own 5 a7.length),(V.own 9 (p.2.2).length)]])),(1,(Ob.arr 4 1 ((p.2.1).map q9h))),(2,(Ob.arr 4 1 (a4.map q9h))),(3,(Ob.map ((q0g a5 (q2a.mk a1.Target a1.Method) true).map q8e))),(4,Ob.dead),(5,(Ob.arr 3 1 (a7.map q9a))),(6,Ob.dead),(7,(Ob.arr 109 4 [(q6d a1)])),(8,(Ob.arr 304 2 ((a6++([(q2a.mk a1.Target a1.Method)]:List q2a)).map q1c))),(9,(Ob.arr 3 1 ((p.2.2).map q9a)))],10⟩:St)) (fun n p=>RG ((q6b a2.fitting a1.Target).getD ([]:(List Int))) (fun tl nn=>z0c F a1 a2 a4 a5 a6 a7 tl p.2.1 p.2.2=some r) n p.1) (fun p h=>RG.zero h) (((q6b a2.fitting a1.Target).getD ([]:(List Int))).length+1) (0,a3,a8) (RG.start h) (q8h.trans (q9s 6 0 10 3 1 (Ob.arr 170 7 [[(V.iptr (q4a a2) 0),(V.own 1 a3.length),(V.own 2 a4.length),(V.map 3),(V.own 9 (a6++([(q2a.mk a1.Target a1.Method)]:List q2a)).length),(V.own 5 a7.length),(V.own 10 a8.length)]]) rfl rfl rfl (q4b.box (.cons Sub.keepMv (.cons Sub.keepMv (.cons Sub.keepMv (.cons Sub.keepMv (.cons Sub.keepMv (.cons Sub.keepMv (.cons Sub.mv .nil)))))))) rfl rfl) (gr [0,1,2,3,4,5,6,7,9,10] rfl (hB rfl rfl rfl (hR rfl rfl (hR rfl rfl (hM rfl rfl (hD rfl (hR rfl rfl (hD rfl (hB rfl rfl rfl (hR rfl rfl (hR rfl rfl .nil)))))))))) rfl)) (fun n p h=>?_)
 obtain⟨n54,l55,l56⟩:=p
 refine rn 5 rfl ?_
 refine spL rfl (fun hb57=>?_) (fun hb57=>?_)
 ·obtain⟨x61,tl,hx62,h,hk1⟩:=RG.t hA78 h hb57
  unfold z0c at h
  refine rn 2 rfl ?_
  refine jK h (fun(p:(List Bool)×(List Int))=>(⟨[(0,(V.ptr 0 7 0 0)),(3,(V.ptr 7 4 0 0)),(57,(V.lst 1 (((q6b a2.fitting a1.Target).getD ([]:(List Int))).map q9a))),(58,(iV ((((q6b a2.fitting a1.Target).getD ([]:(List Int))).length:Nat):Int))),(59,(iV n54))],[(0,(Ob.arr 170 7 [[(V.iptr (q4a a2) 0),(V.own 1 (p.1).length),(V.own 2 a4.length),(V.map 3),(V.own 8 (a6++([(q2a.mk a1.Target a1.Method)]:List q2a)).length),(V.own 5 a7.length),(V.own 9 (p.2).length)]])),(1,(Ob.arr 4 1 ((p.1).map q9h))),(2,(Ob.arr 4 1 (a4.map q9h))),(3,(Ob.map ((q0g a5 (q2a.mk a1.Target a1.Method) true).map q8e))),(4,Ob.dead),(5,(Ob.arr 3 1 (a7.map q9a))),(6,Ob.dead),(7,(Ob.arr 109 4 [(q6d a1)])),(8,(Ob.arr 304 2 ((a6++([(q2a.mk a1.Target a1.Method)]:List q2a)).map q1c))),(9,(Ob.arr 3 1 ((p.2).map q9a)))],10⟩:St)) (fun k58 p=>k58 p.1 p.2=some r) (fun k58 h=>?_) ?_
  ·refine rn 3 rfl ?_
   refine ixh hx62 rfl rfl ?_
   refine rn 14 rfl ?_
   refine spO 71 h rfl (fun hb63 h=>?_) (fun hb63 h=>?_)
   ·obtain⟨y64,hx65,h⟩:=bind_some h
    obtain⟨y66,hx67,h⟩:=bind_some h
    refine rn 10 rfl ?_
    refine q0e q8j ?_
    refine fa ?_
    refine dr mixed (vs 7 rfl (cD rfl rfl rfl rfl (w9t _ _ _ _ _ hx65) rfl (xD (OD.mk [(80,(V.ptr 0 7 0 0)),(87,(iV y64))] [(0,(Ob.arr 170 7 [[(V.iptr (q4a a2) 0),(V.own 1 l55.length),(V.own 2 a4.length),(V.map 3),(V.own 8 (a6++([(q2a.mk a1.Target a1.Method)]:List q2a)).length),(V.own 5 a7.length),(V.own 9 l56.length)]])),(1,(Ob.arr 4 1 (l55.map q9h))),(2,(Ob.arr 4 1 (a4.map q9h))),(3,(Ob.map ((q0g a5 (q2a.mk a1.Target a1.Method) true).map q8e))),(8,(Ob.arr 304 2 ((a6++([(q2a.mk a1.Target a1.Method)]:List q2a)).map q1c))),(5,(Ob.arr 3 1 (a7.map q9a))),(9,(Ob.arr 3 1 (l56.map q9a))),(10,Ob.res)] [(88,(V.tup []))] [(0,(Ob.arr 170 7 [[(V.iptr (q4a a2) 0),(V.own 1 (y66.1).length),(V.own 2 a4.length),(V.map 3),(V.own 8 (a6++([(q2a.mk a1.Target a1.Method)]:List q2a)).length),(V.own 5 a7.length),(V.own 10 (y66.2).length)]])),(1,(Ob.arr 4 1 ((y66.1).map q9h))),(2,(Ob.arr 4 1 (a4.map q9h))),(3,(Ob.map ((q0g a5 (q2a.mk a1.Target a1.Method) true).map q8e))),(8,(Ob.arr 304 2 ((a6++([(q2a.mk a1.Target a1.Method)]:List q2a)).map q1c))),(5,(Ob.arr 3 1 (a7.map q9a))),(9,Ob.dead),(10,(Ob.arr 3 1 ((y66.2).map q9a)))]) ⟨⟨rfl,rfl,trivial⟩,⟨rfl,rfl,rfl,rfl,rfl,rfl,rfl,rfl,trivial⟩⟩ (by exact fun S hn h hh=>q4s [10] hn (List.forall_mem_cons.2 ⟨hh.2.2.2.2.2.2.2.1,(fun _ hx=>nomatch hx)⟩) (V.tup []) [(V.ptr 0 7 0 0),(iV y64)] (fun i=>([0,1,2,3,8,5,9]:List Nat).getD i 0) (fun i=>([0,1,2,3,8,5,9,10]:List Nat).getD i 0) [(0,(Ob.arr 170 7 [[(V.iptr (q4a a2) 0),(V.own 1 (y66.1).length),(V.own 2 a4.length),(V.map 3),(V.own 8 (a6++([(q2a.mk a1.Target a1.Method)]:List q2a)).length),(V.own 5 a7.length),(V.own 10 (y66.2).length)]])),(1,(Ob.arr 4 1 ((y66.1).map q9h))),(2,(Ob.arr 4 1 (a4.map q9h))),(3,(Ob.map ((q0g a5 (q2a.mk a1.Target a1.Method) true).map q8e))),(8,(Ob.arr 304 2 ((a6++([(q2a.mk a1.Target a1.Method)]:List q2a)).map q1c))),(5,(Ob.arr 3 1 (a7.map q9a))),(9,Ob.dead),(10,(Ob.arr 3 1 ((y66.2).map q9a)))] v4b q7a rfl (q4f h.1 (q4f h.2.1 q8k)) (.cons (Sub.ptr rfl rfl) (.cons (Sub.imm (Imm.con _)) .nil)) (q6i.consE (id:=0) rfl hh.1 (q4b.box (.cons (Sub.imm (Imm.iptr _ _)) (.cons (Sub.own rfl rfl) (.cons (Sub.own rfl rfl) (.cons (Sub.map rfl rfl) (.cons (Sub.own rfl rfl) (.cons (Sub.own rfl rfl) (.cons (Sub.own rfl rfl) .nil)))))))) (q6i.consE (id:=1) rfl hh.2.1 (q4b.rows (q3b q2f)) (q6i.consE (id:=2) rfl hh.2.2.1 (q4b.rows (q3b q2f)) (q6i.consE (id:=3) rfl hh.2.2.2.1 (q4b.maps q2g) (q6i.consE (id:=4) rfl hh.2.2.2.2.1 (q4b.rows (q3b q4e)) (q6i.consE (id:=5) rfl hh.2.2.2.2.2.1 (q4b.rows (q3b q7b)) (q6i.consE (id:=6) rfl hh.2.2.2.2.2.2.1 (q4b.rows (q3b q7b)) .nil))))))) (W148 F y64 a2 l55 a4 (q0g a5 (q2a.mk a1.Target a1.Method) true) (a6++([(q2a.mk a1.Target a1.Method)]:List q2a)) a7 l56 y66 hx67) rfl rfl rfl rfl (Sub.immT (Imm.tup .nil)) (.cons rfl (q4b.box (.cons (Sub.immT (Imm.iptr _ _)) (.cons (Sub.ownT rfl rfl) (.cons (Sub.ownT rfl rfl) (.cons (Sub.mapT rfl rfl) (.cons (Sub.ownT rfl rfl) (.cons (Sub.ownT rfl rfl) (.cons (Sub.ownT rfl rfl) .nil)))))))) (.cons rfl (q4b.rowsT (q3b q2f)) (.cons rfl (q4b.rowsT (q3b q2f)) (.cons rfl (q4b.mapsT q2g) (.cons rfl (q4b.rowsT (q3b q4e)) (.cons rfl (q4b.rowsT (q3b q7b)) (.cons rfl q4b.deadT (.cons rfl (q4b.rowsT (q3b q7b)) .nil)))))))) (q8d ⟨rfl,rfl⟩)) rfl .nil))) (by kernel_rfl) ?_
    refine rn 1 rfl ?_
    exact jX ((y66.1),(y66.2)) h (gr [0,1,2,3,4,5,6,7,8,10] rfl (hB rfl rfl rfl (hR rfl rfl (hR rfl rfl (hM rfl rfl (hD rfl (hR rfl rfl (hD rfl (hB rfl rfl rfl (hR rfl rfl (hR rfl rfl .nil)))))))))) rfl)
   refine rn 5 rfl ?_
   refine ixo (a:=a4) h rfl rfl rfl (fun x68 hx69 h=>?_)
   refine ldp hx69 rfl rfl rfl rfl ?_
   refine rn 2 rfl ?_
   refine jK h (fun(p:(List Bool)×(List Int))=>(⟨[(0,(V.ptr 0 7 0 0)),(3,(V.ptr 7 4 0 0)),(57,(V.lst 1 (((q6b a2.fitting a1.Target).getD ([]:(List Int))).map q9a))),(58,(iV ((((q6b a2.fitting a1.Target).getD ([]:(List Int))).length:Nat):Int))),(59,(iV n54)),(78,(bV x68))],[(0,(Ob.arr 170 7 [[(V.iptr (q4a a2) 0),(V.own 1 (p.1).length),(V.own 2 a4.length),(V.map 3),(V.own 8 (a6++([(q2a.mk a1.Target a1.Method)]:List q2a)).length),(V.own 5 a7.length),(V.own 9 (p.2).length)]])),(1,(Ob.arr 4 1 ((p.1).map q9h))),(2,(Ob.arr 4 1 (a4.map q9h))),(3,(Ob.map ((q0g a5 (q2a.mk a1.Target a1.Method) true).map q8e))),(4,Ob.dead),(5,(Ob.arr 3 1 (a7.map q9a))),(6,Ob.dead),(7,(Ob.arr 109 4 [(q6d a1)])),(8,(Ob.arr 304 2 ((a6++([(q2a.mk a1.Target a1.Method)]:List q2a)).map q1c))),(9,(Ob.arr 3 1 ((p.2).map q9a)))],10⟩:St)) (fun k70 p=>k70 p.1 p.2=some r) (fun k70 h=>?_) ?_
   ·refine spC h rfl (fun hb73 h=>?_) (fun hb73 h=>?_)
    ·obtain⟨y74,hx75,h⟩:=bind_some h
     obtain⟨y76,hx77,h⟩:=bind_some h
     refine q0e q8j ?_
     refine fa ?_
     refine dr mixed (vs 7 rfl (cD rfl rfl rfl rfl (w9t _ _ _ _ _ hx75) rfl (xD (OD.mk [(80,(V.ptr 0 7 0 0)),(87,(iV y74))] [(0,(Ob.arr 170 7 [[(V.iptr (q4a a2) 0),(V.own 1 l55.length),(V.own 2 a4.length),(V.map 3),(V.own 8 (a6++([(q2a.mk a1.Target a1.Method)]:List q2a)).length),(V.own 5 a7.length),(V.own 9 l56.length)]])),(1,(Ob.arr 4 1 (l55.map q9h))),(2,(Ob.arr 4 1 (a4.map q9h))),(3,(Ob.map ((q0g a5 (q2a.mk a1.Target a1.Method) true).map q8e))),(8,(Ob.arr 304 2 ((a6++([(q2a.mk a1.Target a1.Method)]:List q2a)).map q1c))),(5,(Ob.arr 3 1 (a7.map q9a))),(9,(Ob.arr 3 1 (l56.map q9a))),(10,Ob.res)] [(88,(V.tup []))] [(0,(Ob.arr 170 7 [[(V.iptr (q4a a2) 0),(V.own 1 (y76.1).length),(V.own 2 a4.length),(V.map 3),(V.own 8 (a6++([(q2a.mk a1.Target a1.Method)]:List q2a)).length),(V.own 5 a7.length),(V.own 10 (y76.2).length)]])),(1,(Ob.arr 4 1 ((y76.1).map q9h))),(2,(Ob.arr 4 1 (a4.map q9h))),(3,(Ob.map ((q0g a5 (q2a.mk a1.Target a1.Method) true).map q8e))),(8,(Ob.arr 304 2 ((a6++([(q2a.mk a1.Target a1.Method)]:List q2a)).map q1c))),(5,(Ob.arr 3 1 (a7.map q9a))),(9,Ob.dead),(10,(Ob.arr 3 1 ((y76.2).map q9a)))]) ⟨⟨rfl,rfl,trivial⟩,⟨rfl,rfl,rfl,rfl,rfl,rfl,rfl,rfl,trivial⟩⟩ (by exact fun S hn h hh=>q4s [10] hn (List.forall_mem_cons.2 ⟨hh.2.2.2.2.2.2.2.1,(fun _ hx=>nomatch hx)⟩) (V.tup []) [(V.ptr 0 7 0 0),(iV y74)] (fun i=>([0,1,2,3,8,5,9]:List Nat).getD i 0) (fun i=>([0,1,2,3,8,5,9,10]:List Nat).getD i 0) [(0,(Ob.arr 170 7 [[(V.iptr (q4a a2) 0),(V.own 1 (y76.1).length),(V.own 2 a4.length),(V.map 3),(V.own 8 (a6++([(q2a.mk a1.Target a1.Method)]:List q2a)).length),(V.own 5 a7.length),(V.own 10 (y76.2).length)]])),(1,(Ob.arr 4 1 ((y76.1).map q9h))),(2,(Ob.arr 4 1 (a4.map q9h))),(3,(Ob.map ((q0g a5 (q2a.mk a1.Target a1.Method) true).map q8e))),(8,(Ob.arr 304 2 ((a6++([(q2a.mk a1.Target a1.Method)]:List q2a)).map q1c))),(5,(Ob.arr 3 1 (a7.map q9a))),(9,Ob.dead),(10,(Ob.arr 3 1 ((y76.2).map q9a)))] v4b q7a rfl (q4f h.1 (q4f h.2.1 q8k)) (.cons (Sub.ptr rfl rfl) (.cons (Sub.imm (Imm.con _)) .nil)) (q6i.consE (id:=0) rfl hh.1 (q4b.box (.cons (Sub.imm (Imm.iptr _ _)) (.cons (Sub.own rfl rfl) (.cons (Sub.own rfl rfl) (.cons (Sub.map rfl rfl) (.cons (Sub.own rfl rfl) (.cons (Sub.own rfl rfl) (.cons (Sub.own rfl rfl) .nil)))))))) (q6i.consE (id:=1) rfl hh.2.1 (q4b.rows (q3b q2f)) (q6i.consE (id:=2) rfl hh.2.2.1 (q4b.rows (q3b q2f)) (q6i.consE (id:=3) rfl hh.2.2.2.1 (q4b.maps q2g) (q6i.consE (id:=4) rfl hh.2.2.2.2.1 (q4b.rows (q3b q4e)) (q6i.consE (id:=5) rfl hh.2.2.2.2.2.1 (q4b.rows (q3b q7b)) (q6i.consE (id:=6) rfl hh.2.2.2.2.2.2.1 (q4b.rows (q3b q7b)) .nil))))))) (W148 F y74 a2 l55 a4 (q0g a5 (q2a.mk a1.Target a1.Method) true) (a6++([(q2a.mk a1.Target a1.Method)]:List q2a)) a7 l56 y76 hx77) rfl rfl rfl rfl (Sub.immT (Imm.tup .nil)) (.cons rfl (q4b.box (.cons (Sub.immT (Imm.iptr _ _)) (.cons (Sub.ownT rfl rfl) (.cons (Sub.ownT rfl rfl) (.cons (Sub.mapT rfl rfl) (.cons (Sub.ownT rfl rfl) (.cons (Sub.ownT rfl rfl) (.cons (Sub.ownT rfl rfl) .nil)))))))) (.cons rfl (q4b.rowsT (q3b q2f)) (.cons rfl (q4b.rowsT (q3b q2f)) (.cons rfl (q4b.mapsT q2g) (.cons rfl (q4b.rowsT (q3b q4e)) (.cons rfl (q4b.rowsT (q3b q7b)) (.cons rfl q4b.deadT (.cons rfl (q4b.rowsT (q3b q7b)) .nil)))))))) (q8d ⟨rfl,rfl⟩)) rfl .nil))) (by kernel_rfl) ?_
     exact jX ((y76.1),(y76.2)) h (gr [0,1,2,3,4,5,6,7,8,10] rfl (hB rfl rfl rfl (hR rfl rfl (hR rfl rfl (hM rfl rfl (hD rfl (hR rfl rfl (hD rfl (hB rfl rfl rfl (hR rfl rfl (hR rfl rfl .nil)))))))))) rfl)
    refine rn 1 rfl ?_
    exact jX (l55,l56) h (gr [0,1,2,3,4,5,6,7,8,9] rfl (hB rfl rfl rfl (hR rfl rfl (hR rfl rfl (hM rfl rfl (hD rfl (hR rfl rfl (hD rfl (hB rfl rfl rfl (hR rfl rfl (hR rfl rfl .nil)))))))))) rfl)
   rintro⟨l71,l72⟩ h
   refine rn 1 rfl ?_
   exact jX (l71,l72) h (gr [0,1,2,3,4,5,6,7,8,9] rfl (hB rfl rfl rfl (hR rfl rfl (hR rfl rfl (hM rfl rfl (hD rfl (hR rfl rfl (hD rfl (hB rfl rfl rfl (hR rfl rfl (hR rfl rfl .nil)))))))))) rfl)
  rintro⟨l59,l60⟩ h
  refine rn 4 rfl ?_
  exact jX ((w64 (n54+1)),l59,l60) (hk1 _ h) (gr [0,1,2,3,4,5,6,7,8,9] rfl (hB rfl rfl rfl (hR rfl rfl (hR rfl rfl (hM rfl rfl (hD rfl (hR rfl rfl (hD rfl (hB rfl rfl rfl (hR rfl rfl (hR rfl rfl .nil)))))))))) rfl)
 replace h:=RG.f h hb57
 unfold z0c at h
 refine rn 1 rfl ?_
 replace h:=Option.some.inj h
 subst h
 exact wE ⟨.inr rfl,[],(gr [0,1,2,3,4,5,6,8,9] rfl (hB rfl rfl rfl (hR rfl rfl (hR rfl rfl (hM rfl rfl (hD rfl (hR rfl rfl (hD rfl (hR rfl rfl (hR rfl rfl .nil))))))))) rfl),.nil⟩
theorem W89(F:Nat)(a1:q1b)(a2:Int)(r:(Option q5c))(h:M89 F a1 a2=some r):q5n Tryz.prog 89 [(V.iptr (q4a a1) 0),(iV a2)] (v7n q2c r):=by
 refine pin (fun r=>(v7n q2c r)) r rfl Tryz.func89 rfl rfl rfl rfl rfl (fun w0 m0 hg=>?_)
 unfold M89 at h
 refine rn 6 rfl ?_
 refine ck h (fun hc3 h=>?_)
 refine ck h (fun hc4 h=>?_)
 refine q0e q8j ?_
 refine q0e q8j ?_
 refine q0e q8j ?_
 refine q0e q8j ?_
 refine fa ?_
 refine dr mixed (vs 6 rfl (nD rfl rfl rfl (xD (OD.mk [(19,(iV ((a1.g.Funcs.length:Nat):Int)))] [(0,Ob.res)] [(20,(V.own 0 (List.replicate (((a1.g.Funcs.length:Nat):Int)).toNat (false:Bool)).length))] [(0,(Ob.arr 4 1 ((List.replicate (((a1.g.Funcs.length:Nat):Int)).toNat (false:Bool)).map q9h)))]) ⟨⟨rfl,trivial⟩,⟨rfl,trivial⟩⟩ (by exact fun S hn h hh=>q5z 0 rfl hn hh.1 (ln:=(List.replicate (((a1.g.Funcs.length:Nat):Int)).toNat (false:Bool)).length) ((List.replicate (((a1.g.Funcs.length:Nat):Int)).toNat (false:Bool)).map q9h) j7m tZ4 rfl rfl hc3 List.map_replicate List.length_replicate q7a h.1 rfl (q8d ⟨rfl,rfl⟩)) rfl (vs 5 rfl (nD rfl rfl rfl (xD (OD.mk [(26,(iV ((a1.g.Types.length:Nat):Int)))] [(1,Ob.res)] [(27,(V.own 1 (List.replicate (((a1.g.Types.length:Nat):Int)).toNat (false:Bool)).length))] [(1,(Ob.arr 4 1 ((List.replicate (((a1.g.Types.length:Nat):Int)).toNat (false:Bool)).map q9h)))]) ⟨⟨rfl,trivial⟩,⟨rfl,trivial⟩⟩ (by exact fun S hn h hh=>q5z 1 rfl hn hh.1 (ln:=(List.replicate (((a1.g.Types.length:Nat):Int)).toNat (false:Bool)).length) ((List.replicate (((a1.g.Types.length:Nat):Int)).toNat (false:Bool)).map q9h) j7m tZ4 rfl rfl hc4 List.map_replicate List.length_replicate q7a h.1 rfl (q8d ⟨rfl,rfl⟩)) rfl (xD (OD.mk [] [(2,Ob.res)] [(28,(V.map 2))] [(2,(Ob.map (([]:List (q2a×Bool)).map q8e)))]) ⟨trivial,⟨rfl,trivial⟩⟩ (by exact fun S hn h hh=>j2f 2 rfl hn hh.1 q7a rfl (q8d ⟨rfl,rfl⟩)) rfl (vs 1 rfl (xD (OD.mk [(29,(V.agg [(V.iptr (q4a a1) 0),(V.own 0 (List.replicate (((a1.g.Funcs.length:Nat):Int)).toNat (false:Bool)).length),(V.own 1 (List.replicate (((a1.g.Types.length:Nat):Int)).toNat (false:Bool)).length),(V.map 2),nV,nV,nV]))] [(3,Ob.res)] [(30,(V.ptr 3 7 0 0))] [(3,(Ob.arr 170 7 [[(V.iptr (q4a a1) 0),(V.own 0 (List.replicate (((a1.g.Funcs.length:Nat):Int)).toNat (false:Bool)).length),(V.own 1 (List.replicate (((a1.g.Types.length:Nat):Int)).toNat (false:Bool)).length),(V.map 2),nV,nV,nV]]))]) ⟨⟨rfl,trivial⟩,⟨rfl,trivial⟩⟩ (by exact fun S hn h hh=>v5k 3 rfl hn hh.1 [(V.iptr (q4a a1) 0),(V.own 0 (List.replicate (((a1.g.Funcs.length:Nat):Int)).toNat (false:Bool)).length),(V.own 1 (List.replicate (((a1.g.Types.length:Nat):Int)).toNat (false:Bool)).length),(V.map 2),nV,nV,nV] q7a h.1 rfl rfl rfl (q8d ⟨rfl,rfl⟩)) rfl (vs 1 rfl .nil)))))))))) (by kernel_rfl) ?_
 refine rn 8 rfl ?_
 refine ln rfl rfl ?_
 refine rn 2 rfl ?_
 refine jK h (fun(p:(List Bool)×(List Int))=>(⟨[(0,(V.iptr (q4a a1) 0)),(1,(iV a2)),(5,(V.ptr 0 7 0 0))],[(0,(Ob.arr 170 7 [[(V.iptr (q4a a1) 0),(V.own 1 (p.1).length),(V.own 2 (List.replicate (((a1.g.Types.length:Nat):Int)).toNat (false:Bool)).length),(V.map 3),(V.own 4 ([]:List q2a).length),(V.own 5 ([]:List Int).length),(V.own 6 (p.2).length)]])),(1,(Ob.arr 4 1 ((p.1).map q9h))),(2,(Ob.arr 4 1 ((List.replicate (((a1.g.Types.length:Nat):Int)).toNat (false:Bool)).map q9h))),(3,(Ob.map (([]:List (q2a×Bool)).map q8e))),(4,(Ob.arr 304 2 (([]:List q2a).map q1c))),(5,(Ob.arr 3 1 (([]:List Int).map q9a))),(6,(Ob.arr 3 1 ((p.2).map q9a)))],7⟩:St)) (fun k5 p=>k5 p.1 p.2=some r) (fun k5 h=>?_) ?_
 ·refine rn 1 rfl ?_
  refine wl (A:=a1.g.Entries) 35 rfl (fun hA19=>?_)
  refine lC (fun(p:Int×(List Bool)×(List Int))=>(⟨[(0,(V.iptr (q4a a1) 0)),(1,(iV a2)),(5,(V.ptr 0 7 0 0)),(35,(V.lst 1 (a1.g.Entries.map q6f))),(36,(iV ((a1.g.Entries.length:Nat):Int))),(37,(iV (p.1)))],[(0,(Ob.arr 170 7 [[(V.iptr (q4a a1) 0),(V.own 1 (p.2.1).length),(V.own 2 (List.replicate (((a1.g.Types.length:Nat):Int)).toNat (false:Bool)).length),(V.map 3),(V.own 4 ([]:List q2a).length),(V.own 5 ([]:List Int).length),(V.own 6 (p.2.2).length)]])),(1,(Ob.arr 4 1 ((p.2.1).map q9h))),(2,(Ob.arr 4 1 ((List.replicate (((a1.g.Types.length:Nat):Int)).toNat (false:Bool)).map q9h))),(3,(Ob.map (([]:List (q2a×Bool)).map q8e))),(4,(Ob.arr 304 2 (([]:List q2a).map q1c))),(5,(Ob.arr 3 1 (([]:List Int).map q9a))),(6,(Ob.arr 3 1 ((p.2.2).map q9a)))],7⟩:St)) (fun n p=>RG a1.g.Entries (fun tl nn=>j2h F a1 k5 tl p.2.1 p.2.2=some r) n p.1) (fun p h=>RG.zero h) (a1.g.Entries.length+1) (0,(List.replicate (((a1.g.Funcs.length:Nat):Int)).toNat (false:Bool)),([]:List Int)) (RG.start h) (q8h.trans (q7r 3 304 2 (Ob.arr 170 7 [[(V.iptr (q4a a1) 0),(V.own 0 (List.replicate (((a1.g.Funcs.length:Nat):Int)).toNat (false:Bool)).length),(V.own 1 (List.replicate (((a1.g.Types.length:Nat):Int)).toNat (false:Bool)).length),(V.map 2),(V.own 4 0),nV,nV]]) (q4b.box (.cons Sub.keepNil (.cons Sub.keepNil (.cons Sub.keepNil (.cons Sub.keepNil (.cons Sub.mkNil (.cons Sub.keepNil (.cons Sub.keepNil .nil))))))))) (q8h.trans (q7r 3 3 1 (Ob.arr 170 7 [[(V.iptr (q4a a1) 0),(V.own 0 (List.replicate (((a1.g.Funcs.length:Nat):Int)).toNat (false:Bool)).length),(V.own 1 (List.replicate (((a1.g.Types.length:Nat):Int)).toNat (false:Bool)).length),(V.map 2),(V.own 4 0),(V.own 5 0),nV]]) (q4b.box (.cons Sub.keepNil (.cons Sub.keepNil (.cons Sub.keepNil (.cons Sub.keepNil (.cons Sub.keepNil (.cons Sub.mkNil (.cons Sub.keepNil .nil))))))))) (q8h.trans (q7r 3 3 1 (Ob.arr 170 7 [[(V.iptr (q4a a1) 0),(V.own 0 (List.replicate (((a1.g.Funcs.length:Nat):Int)).toNat (false:Bool)).length),(V.own 1 (List.replicate (((a1.g.Types.length:Nat):Int)).toNat (false:Bool)).length),(V.map 2),(V.own 4 0),(V.own 5 0),(V.own 6 0)]]) (q4b.box (.cons Sub.keepNil (.cons Sub.keepNil (.cons Sub.keepNil (.cons Sub.keepNil (.cons Sub.keepNil (.cons Sub.keepNil (.cons Sub.mkNil .nil))))))))) (q9g 7 (fun i=>([3,0,1,2,4,5,6]:List Nat).getD i 0) _ _ (by decide) (q9k.get (.cons (Sub.imm (Imm.iptr _ _)) (.cons (Sub.imm (Imm.con _)) (.cons (Sub.ptr rfl rfl) (.cons (Sub.imm (Imm.lst _ _)) (.cons (Sub.imm (Imm.con _)) (.cons (Sub.imm (Imm.con _)) .nil))))))) (q6i.get (.cons rfl (q4b.box (.cons (Sub.imm (Imm.iptr _ _)) (.cons (Sub.own rfl rfl) (.cons (Sub.own rfl rfl) (.cons (Sub.map rfl rfl) (.cons (Sub.ownE rfl rfl (by simp)) (.cons (Sub.ownE rfl rfl (by simp)) (.cons (Sub.ownE rfl rfl (by simp)) .nil)))))))) (.cons rfl (q4b.rows (q3b q2f)) (.cons rfl (q4b.rows (q3b q2f)) (.cons rfl (q4b.maps q2g) (.cons rfl (q4b.rows (q3b q4e)) (.cons rfl (q4b.rows (q3b q7b)) (.cons rfl (q4b.rows (q3b q7b)) .nil)))))))) rfl)))) (fun n p h=>?_)
  obtain⟨n11,l12,l13⟩:=p
  refine rn 5 rfl ?_
  refine spL rfl (fun hb14=>?_) (fun hb14=>?_)
  ·obtain⟨x15,tl,hx16,h,hk1⟩:=RG.t hA19 h hb14
   unfold j2h at h
   refine rn 5 rfl ?_
   refine ixh hx16 rfl rfl ?_
   refine rn 10 rfl ?_
   refine q7d _ (iV 0) (iV ((q6b a1.funcs x15).getD 0)) q1o q6h j5m (q9f _) q7a rfl .imm (.con rfl) ⟨_,rfl⟩ q7f (q8g a1.funcs x15) (q1f (q1g) (q6b a1.funcs x15) 0) rfl ?_
   obtain⟨y17,hx18,h⟩:=bind_some h
   refine q0k (V.tup []) [(V.ptr 0 7 0 0),(iV ((q6b a1.funcs x15).getD 0))] (fun i=>([0,1,2,3,4,5,6]:List Nat).getD i 0) (fun i=>([0,1,2,3,4,5,6,7]:List Nat).getD i 0) 7 8 [(0,(Ob.arr 170 7 [[(V.iptr (q4a a1) 0),(V.own 1 (y17.1).length),(V.own 2 (List.replicate (((a1.g.Types.length:Nat):Int)).toNat (false:Bool)).length),(V.map 3),(V.own 4 ([]:List q2a).length),(V.own 5 ([]:List Int).length),(V.own 7 (y17.2).length)]])),(1,(Ob.arr 4 1 ((y17.1).map q9h))),(2,(Ob.arr 4 1 ((List.replicate (((a1.g.Types.length:Nat):Int)).toNat (false:Bool)).map q9h))),(3,(Ob.map (([]:List (q2a×Bool)).map q8e))),(4,(Ob.arr 304 2 (([]:List q2a).map q1c))),(5,(Ob.arr 3 1 (([]:List Int).map q9a))),(6,Ob.dead),(7,(Ob.arr 3 1 ((y17.2).map q9a)))] v4b q7a rfl (q4f rfl (q4f rfl q8k)) (.cons (Sub.ptr rfl rfl) (.cons (Sub.imm (Imm.con _)) .nil)) (.cons rfl (q4b.box (.cons (Sub.imm (Imm.iptr _ _)) (.cons (Sub.own rfl rfl) (.cons (Sub.own rfl rfl) (.cons (Sub.map rfl rfl) (.cons (Sub.own rfl rfl) (.cons (Sub.own rfl rfl) (.cons (Sub.own rfl rfl) .nil)))))))) (.cons rfl (q4b.rows (q3b q2f)) (.cons rfl (q4b.rows (q3b q2f)) (.cons rfl (q4b.maps q2g) (.cons rfl (q4b.rows (q3b q4e)) (.cons rfl (q4b.rows (q3b q7b)) (.cons rfl (q4b.rows (q3b q7b)) .nil))))))) (W148 F ((q6b a1.funcs x15).getD 0) a1 l12 (List.replicate (((a1.g.Types.length:Nat):Int)).toNat (false:Bool)) ([]:List (q2a×Bool)) ([]:List q2a) ([]:List Int) l13 y17 hx18) rfl rfl rfl rfl (Sub.immT (Imm.tup .nil)) (.cons rfl (q4b.box (.cons (Sub.immT (Imm.iptr _ _)) (.cons (Sub.ownT rfl rfl) (.cons (Sub.ownT rfl rfl) (.cons (Sub.mapT rfl rfl) (.cons (Sub.ownT rfl rfl) (.cons (Sub.ownT rfl rfl) (.cons (Sub.ownT rfl rfl) .nil)))))))) (.cons rfl (q4b.rowsT (q3b q2f)) (.cons rfl (q4b.rowsT (q3b q2f)) (.cons rfl (q4b.mapsT q2g) (.cons rfl (q4b.rowsT (q3b q4e)) (.cons rfl (q4b.rowsT (q3b q7b)) (.cons rfl q4b.deadT (.cons rfl (q4b.rowsT (q3b q7b)) .nil)))))))) _ rfl ?_
   refine fo (rn 6 rfl ?_)
   exact jX ((w64 (n11+1)),(y17.1),(y17.2)) (hk1 _ h) (gr [0,1,2,3,4,5,7] rfl (hB rfl rfl rfl (hR rfl rfl (hR rfl rfl (hM rfl rfl (hR rfl rfl (hR rfl rfl (hR rfl rfl .nil))))))) rfl)
  replace h:=RG.f h hb14
  unfold j2h at h
  refine rn 1 rfl ?_
  exact jX (l12,l13) h (gr [0,1,2,3,4,5,6] rfl (hB rfl rfl rfl (hR rfl rfl (hR rfl rfl (hM rfl rfl (hR rfl rfl (hR rfl rfl (hR rfl rfl .nil))))))) rfl)
 rintro⟨l6,l7⟩ h
 refine rn 3 rfl ?_
 refine jK h (fun(p:(List Bool)×(List Bool)×(List (q2a×Bool))×(List q2a)×(List Int))=>(⟨[(5,(V.ptr 0 7 0 0))],[(0,(Ob.arr 170 7 [[(V.iptr (q4a a1) 0),(V.own 1 (p.1).length),(V.own 2 (p.2.1).length),(V.map 3),(V.own 4 (p.2.2.2.1).length),(V.own 5 ([]:List Int).length),(V.own 6 (p.2.2.2.2).length)]])),(1,(Ob.arr 4 1 ((p.1).map q9h))),(2,(Ob.arr 4 1 ((p.2.1).map q9h))),(3,(Ob.map ((p.2.2.1).map q8e))),(4,(Ob.arr 304 2 ((p.2.2.2.1).map q1c))),(5,(Ob.arr 3 1 (([]:List Int).map q9a))),(6,(Ob.arr 3 1 ((p.2.2.2.2).map q9a)))],7⟩:St)) (fun k20 p=>k20 p.1 p.2.1 p.2.2.1 p.2.2.2.1 p.2.2.2.2=some r) (fun k20 h=>?_) ?_
 ·refine rn 1 rfl ?_
  refine lC (fun(p:(List Bool)×(List Bool)×(List (q2a×Bool))×(List q2a)×(List Int))=>(⟨[(0,(V.iptr (q4a a1) 0)),(1,(iV a2)),(5,(V.ptr 0 7 0 0))],[(0,(Ob.arr 170 7 [[(V.iptr (q4a a1) 0),(V.own 1 (p.1).length),(V.own 2 (p.2.1).length),(V.map 3),(V.own 4 (p.2.2.2.1).length),(V.own 5 ([]:List Int).length),(V.own 6 (p.2.2.2.2).length)]])),(1,(Ob.arr 4 1 ((p.1).map q9h))),(2,(Ob.arr 4 1 ((p.2.1).map q9h))),(3,(Ob.map ((p.2.2.1).map q8e))),(4,(Ob.arr 304 2 ((p.2.2.2.1).map q1c))),(5,(Ob.arr 3 1 (([]:List Int).map q9a))),(6,(Ob.arr 3 1 ((p.2.2.2.2).map q9a)))],7⟩:St)) (fun n p=>z2f F a1 a2 k20 n p.1 p.2.1 p.2.2.1 p.2.2.2.1 p.2.2.2.2=some r) (fun p h=>by simp[z2f] at h) F (l6,(List.replicate (((a1.g.Types.length:Nat):Int)).toNat (false:Bool)),([]:List (q2a×Bool)),([]:List q2a),l7) h (gr [0,1,2,3,4,5,6] rfl (hB rfl rfl rfl (hR rfl rfl (hR rfl rfl (hM rfl rfl (hR rfl rfl (hR rfl rfl (hR rfl rfl .nil))))))) rfl) (fun n p h=>?_)
  obtain⟨l31,l32,m33,l34,l35⟩:=p
  unfold z2f at h
  refine rn 10 rfl ?_
  refine spC h rfl (fun hb36 h=>?_) (fun hb36 h=>?_)
  ·refine rn 1 rfl ?_
   refine jK h (fun(p:(List Bool)×(List Bool)×(List (q2a×Bool))×(List q2a)×(List Int))=>(⟨[(0,(V.iptr (q4a a1) 0)),(1,(iV a2)),(5,(V.ptr 0 7 0 0))],[(0,(Ob.arr 170 7 [[(V.iptr (q4a a1) 0),(V.own 1 (p.1).length),(V.own 2 (p.2.1).length),(V.map 3),(V.own 4 (p.2.2.2.1).length),(V.own 5 ([]:List Int).length),(V.own 6 (p.2.2.2.2).length)]])),(1,(Ob.arr 4 1 ((p.1).map q9h))),(2,(Ob.arr 4 1 ((p.2.1).map q9h))),(3,(Ob.map ((p.2.2.1).map q8e))),(4,(Ob.arr 304 2 ((p.2.2.2.1).map q1c))),(5,(Ob.arr 3 1 (([]:List Int).map q9a))),(6,(Ob.arr 3 1 ((p.2.2.2.2).map q9a)))],7⟩:St)) (fun k37 p=>k37 p.1 p.2.1 p.2.2.1 p.2.2.2.1 p.2.2.2.2=some r) (fun k37 h=>?_) ?_
   ·refine rn 7 rfl ?_
    refine ixo (a:=l35) h rfl rfl rfl (fun x43 hx44 h=>?_)
    refine ldp hx44 rfl rfl rfl rfl ?_
    refine rn 9 rfl ?_
    refine ck h (fun hc45 h=>?_)
    refine z6e (nx:=7) (1) (l35.length) ((l35.drop 1).length) ((l35.drop 1).map q9a) v3x q7a rfl rfl (by simp) rfl ⟨_,rfl⟩ rfl hc45 (Nat.le_refl _) (List.map_drop ..).symm (by simp) (v7o (q3b q7b)) rfl ?_
    refine fo (rn 11 rfl ?_)
    refine spC h rfl (fun hb46 h=>?_) (fun hb46 h=>?_)
    ·refine rn 1 rfl ?_
     exact jX (l31,l32,m33,l34,(l35.drop 1)) h (gr [0,1,2,3,4,5,7] rfl (hB rfl rfl rfl (hR rfl rfl (hR rfl rfl (hM rfl rfl (hR rfl rfl (hR rfl rfl (hR rfl rfl .nil))))))) rfl)
    refine rn 10 rfl ?_
    refine ixl h rfl rfl (fun x47 hx48 h=>?_)
    refine rn 2 rfl ?_
    refine ln rfl rfl ?_
    refine rn 2 rfl ?_
    refine jK h (fun(p:(List Bool)×(List Bool)×(List Int))=>(⟨[(0,(V.iptr (q4a a1) 0)),(1,(iV a2)),(5,(V.ptr 0 7 0 0)),(8,(iV x43))],[(0,(Ob.arr 170 7 [[(V.iptr (q4a a1) 0),(V.own 1 (p.1).length),(V.own 2 (p.2.1).length),(V.map 3),(V.own 4 l34.length),(V.own 5 ([]:List Int).length),(V.own 6 (p.2.2).length)]])),(1,(Ob.arr 4 1 ((p.1).map q9h))),(2,(Ob.arr 4 1 ((p.2.1).map q9h))),(3,(Ob.map (m33.map q8e))),(4,(Ob.arr 304 2 (l34.map q1c))),(5,(Ob.arr 3 1 (([]:List Int).map q9a))),(6,(Ob.arr 3 1 ((p.2.2).map q9a)))],7⟩:St)) (fun k49 p=>k49 p.1 p.2.1 p.2.2=some r) (fun k49 h=>?_) ?_
    ·refine rn 1 rfl ?_
     refine wl (A:=x47.Makes) 81 rfl (fun hA66=>?_)
     refine lC (fun(p:Int×(List Bool)×(List Bool)×(List Int))=>(⟨[(0,(V.iptr (q4a a1) 0)),(1,(iV a2)),(5,(V.ptr 0 7 0 0)),(8,(iV x43)),(81,(V.lst 1 (x47.Makes.map q6f))),(82,(iV ((x47.Makes.length:Nat):Int))),(83,(iV (p.1)))],[(0,(Ob.arr 170 7 [[(V.iptr (q4a a1) 0),(V.own 1 (p.2.1).length),(V.own 2 (p.2.2.1).length),(V.map 3),(V.own 4 l34.length),(V.own 5 ([]:List Int).length),(V.own 6 (p.2.2.2).length)]])),(1,(Ob.arr 4 1 ((p.2.1).map q9h))),(2,(Ob.arr 4 1 ((p.2.2.1).map q9h))),(3,(Ob.map (m33.map q8e))),(4,(Ob.arr 304 2 (l34.map q1c))),(5,(Ob.arr 3 1 (([]:List Int).map q9a))),(6,(Ob.arr 3 1 ((p.2.2.2).map q9a)))],7⟩:St)) (fun n p=>RG x47.Makes (fun tl nn=>j1h F a1 m33 l34 k49 tl p.2.1 p.2.2.1 p.2.2.2=some r) n p.1) (fun p h=>RG.zero h) (x47.Makes.length+1) (0,l31,l32,(l35.drop 1)) (RG.start h) (gr [0,1,2,3,4,5,7] rfl (hB rfl rfl rfl (hR rfl rfl (hR rfl rfl (hM rfl rfl (hR rfl rfl (hR rfl rfl (hR rfl rfl .nil))))))) rfl) (fun n p h=>?_)
     obtain⟨n57,l58,l59,l60⟩:=p
     refine rn 5 rfl ?_
     refine spL rfl (fun hb61=>?_) (fun hb61=>?_)
     ·obtain⟨x62,tl,hx63,h,hk3⟩:=RG.t hA66 h hb61
      unfold j1h at h
      refine rn 5 rfl ?_
      refine ixh hx63 rfl rfl ?_
      refine rn 10 rfl ?_
      refine q7d _ (iV 0) (iV ((q6b a1.types x62).getD 0)) q1o q6h j5m (q9f _) q7a rfl .imm (.con rfl) ⟨_,rfl⟩ q7f (q8g a1.types x62) (q1f (q1g) (q6b a1.types x62) 0) rfl ?_
      obtain⟨y64,hx65,h⟩:=bind_some h
      refine q0k (V.tup []) [(V.ptr 0 7 0 0),(iV ((q6b a1.types x62).getD 0))] (fun i=>([0,1,2,3,4,5,6]:List Nat).getD i 0) (fun i=>([0,1,2,3,4,5,6,7]:List Nat).getD i 0) 7 8 [(0,(Ob.arr 170 7 [[(V.iptr (q4a a1) 0),(V.own 1 (y64.1).length),(V.own 2 (y64.2.1).length),(V.map 3),(V.own 4 l34.length),(V.own 5 ([]:List Int).length),(V.own 7 (y64.2.2).length)]])),(1,(Ob.arr 4 1 ((y64.1).map q9h))),(2,(Ob.arr 4 1 ((y64.2.1).map q9h))),(3,(Ob.map (m33.map q8e))),(4,(Ob.arr 304 2 (l34.map q1c))),(5,(Ob.arr 3 1 (([]:List Int).map q9a))),(6,Ob.dead),(7,(Ob.arr 3 1 ((y64.2.2).map q9a)))] fOk149 q7a rfl (q4f rfl (q4f rfl q8k)) (.cons (Sub.ptr rfl rfl) (.cons (Sub.imm (Imm.con _)) .nil)) (.cons rfl (q4b.box (.cons (Sub.imm (Imm.iptr _ _)) (.cons (Sub.own rfl rfl) (.cons (Sub.own rfl rfl) (.cons (Sub.map rfl rfl) (.cons (Sub.own rfl rfl) (.cons (Sub.own rfl rfl) (.cons (Sub.own rfl rfl) .nil)))))))) (.cons rfl (q4b.rows (q3b q2f)) (.cons rfl (q4b.rows (q3b q2f)) (.cons rfl (q4b.maps q2g) (.cons rfl (q4b.rows (q3b q4e)) (.cons rfl (q4b.rows (q3b q7b)) (.cons rfl (q4b.rows (q3b q7b)) .nil))))))) (W149 F ((q6b a1.types x62).getD 0) a1 l58 l59 m33 l34 ([]:List Int) l60 y64 hx65) rfl rfl rfl rfl (Sub.immT (Imm.tup .nil)) (.cons rfl (q4b.box (.cons (Sub.immT (Imm.iptr _ _)) (.cons (Sub.ownT rfl rfl) (.cons (Sub.ownT rfl rfl) (.cons (Sub.mapT rfl rfl) (.cons (Sub.ownT rfl rfl) (.cons (Sub.ownT rfl rfl) (.cons (Sub.ownT rfl rfl) .nil)))))))) (.cons rfl (q4b.rowsT (q3b q2f)) (.cons rfl (q4b.rowsT (q3b q2f)) (.cons rfl (q4b.mapsT q2g) (.cons rfl (q4b.rowsT (q3b q4e)) (.cons rfl (q4b.rowsT (q3b q7b)) (.cons rfl q4b.deadT (.cons rfl (q4b.rowsT (q3b q7b)) .nil)))))))) _ rfl ?_
      refine fo (rn 6 rfl ?_)
      exact jX ((w64 (n57+1)),(y64.1),(y64.2.1),(y64.2.2)) (hk3 _ h) (gr [0,1,2,3,4,5,7] rfl (hB rfl rfl rfl (hR rfl rfl (hR rfl rfl (hM rfl rfl (hR rfl rfl (hR rfl rfl (hR rfl rfl .nil))))))) rfl)
     replace h:=RG.f h hb61
     unfold j1h at h
     refine rn 1 rfl ?_
     exact jX (l58,l59,l60) h (gr [0,1,2,3,4,5,6] rfl (hB rfl rfl rfl (hR rfl rfl (hR rfl rfl (hM rfl rfl (hR rfl rfl (hR rfl rfl (hR rfl rfl .nil))))))) rfl)
    rintro⟨l50,l51,l52⟩ h
    refine rn 8 rfl ?_
    refine ixl h rfl rfl (fun x67 hx68 h=>?_)
    refine rn 2 rfl ?_
    refine ln rfl rfl ?_
    refine rn 2 rfl ?_
    refine jK h (fun(p:(List Bool)×(List (q2a×Bool))×(List q2a)×(List Int))=>(⟨[(0,(V.iptr (q4a a1) 0)),(1,(iV a2)),(5,(V.ptr 0 7 0 0))],[(0,(Ob.arr 170 7 [[(V.iptr (q4a a1) 0),(V.own 1 (p.1).length),(V.own 2 l51.length),(V.map 3),(V.own 4 (p.2.2.1).length),(V.own 5 ([]:List Int).length),(V.own 6 (p.2.2.2).length)]])),(1,(Ob.arr 4 1 ((p.1).map q9h))),(2,(Ob.arr 4 1 (l51.map q9h))),(3,(Ob.map ((p.2.1).map q8e))),(4,(Ob.arr 304 2 ((p.2.2.1).map q1c))),(5,(Ob.arr 3 1 (([]:List Int).map q9a))),(6,(Ob.arr 3 1 ((p.2.2.2).map q9a)))],7⟩:St)) (fun k69 p=>k69 p.1 p.2.1 p.2.2.1 p.2.2.2=some r) (fun k69 h=>?_) ?_
    ·refine rn 1 rfl ?_
     refine wl (A:=x67.Calls) 104 rfl (fun hA99=>?_)
     refine lC (fun(p:Int×(List Bool)×(List (q2a×Bool))×(List q2a)×(List Int))=>(⟨[(0,(V.iptr (q4a a1) 0)),(1,(iV a2)),(5,(V.ptr 0 7 0 0)),(104,(V.lst 4 (x67.Calls.map q6d))),(105,(iV ((x67.Calls.length:Nat):Int))),(106,(iV (p.1)))],[(0,(Ob.arr 170 7 [[(V.iptr (q4a a1) 0),(V.own 1 (p.2.1).length),(V.own 2 l51.length),(V.map 3),(V.own 4 (p.2.2.2.1).length),(V.own 5 ([]:List Int).length),(V.own 6 (p.2.2.2.2).length)]])),(1,(Ob.arr 4 1 ((p.2.1).map q9h))),(2,(Ob.arr 4 1 (l51.map q9h))),(3,(Ob.map ((p.2.2.1).map q8e))),(4,(Ob.arr 304 2 ((p.2.2.2.1).map q1c))),(5,(Ob.arr 3 1 (([]:List Int).map q9a))),(6,(Ob.arr 3 1 ((p.2.2.2.2).map q9a)))],7⟩:St)) (fun n p=>RG x67.Calls (fun tl nn=>z8w F a1 a2 l51 k20 k69 tl p.2.1 p.2.2.1 p.2.2.2.1 p.2.2.2.2=some r) n p.1) (fun p h=>RG.zero h) (x67.Calls.length+1) (0,l50,m33,l34,l52) (RG.start h) (gr [0,1,2,3,4,5,6] rfl (hB rfl rfl rfl (hR rfl rfl (hR rfl rfl (hM rfl rfl (hR rfl rfl (hR rfl rfl (hR rfl rfl .nil))))))) rfl) (fun n p h=>?_)
     obtain⟨n79,l80,m81,l82,l83⟩:=p
     refine rn 5 rfl ?_
     refine spL rfl (fun hb84=>?_) (fun hb84=>?_)
     ·obtain⟨x90,tl,hx91,h,hk4⟩:=RG.t hA99 h hb84
      unfold z8w at h
      refine rn 2 rfl ?_
      refine jK h (fun(p:(List Bool)×(List (q2a×Bool))×(List q2a)×(List Int))=>(⟨[(0,(V.iptr (q4a a1) 0)),(1,(iV a2)),(5,(V.ptr 0 7 0 0)),(104,(V.lst 4 (x67.Calls.map q6d))),(105,(iV ((x67.Calls.length:Nat):Int))),(106,(iV n79))],[(0,(Ob.arr 170 7 [[(V.iptr (q4a a1) 0),(V.own 1 (p.1).length),(V.own 2 l51.length),(V.map 3),(V.own 4 (p.2.2.1).length),(V.own 5 ([]:List Int).length),(V.own 6 (p.2.2.2).length)]])),(1,(Ob.arr 4 1 ((p.1).map q9h))),(2,(Ob.arr 4 1 (l51.map q9h))),(3,(Ob.map ((p.2.1).map q8e))),(4,(Ob.arr 304 2 ((p.2.2.1).map q1c))),(5,(Ob.arr 3 1 (([]:List Int).map q9a))),(6,(Ob.arr 3 1 ((p.2.2.2).map q9a)))],7⟩:St)) (fun k85 p=>k85 p.1 p.2.1 p.2.2.1 p.2.2.2=some r) (fun k85 h=>?_) ?_
      ·refine rn 3 rfl ?_
       refine ixh hx91 rfl rfl ?_
       refine rn 6 rfl ?_
       refine dr mixed (vs 6 rfl (xD (OD.mk [(113,(V.imap (a1.on.map q5b))),(115,(sV x90.Feature))] [] [(116,(bV ((q6b a1.on x90.Feature).getD false)))] []) ⟨⟨rfl,rfl,trivial⟩,trivial⟩ (by exact fun S hn h hh=>q7d _ (bV false) (bV ((q6b a1.on x90.Feature).getD false)) q4j q6h j4m (q9f _) q7a h.1 .imm (.con h.2.1) ⟨_,rfl⟩ q7e (q3h a1.on x90.Feature) (q1f (q5g) (q6b a1.on x90.Feature) false) rfl (q8d ⟨rfl,rfl⟩)) rfl (vs 1 rfl .nil))) (by kernel_rfl) ?_
       refine spC h rfl (fun hb92 h=>?_) (fun hb92 h=>?_)
       ·refine rn 1 rfl ?_
        exact jX (l80,m81,l82,l83) h (gr [0,1,2,3,4,5,6] rfl (hB rfl rfl rfl (hR rfl rfl (hR rfl rfl (hM rfl rfl (hR rfl rfl (hR rfl rfl (hR rfl rfl .nil))))))) rfl)
       obtain⟨y93,hx94,h⟩:=bind_some h
       refine rn 5 rfl ?_
       refine q0k (V.tup []) [(V.ptr 0 7 0 0),(V.agg (q6d x90))] (fun i=>([0,1,2,3,4,5,6]:List Nat).getD i 0) (fun i=>([0,1,2,3,4,5,6,8,9]:List Nat).getD i 0) 8 10 [(0,(Ob.arr 170 7 [[(V.iptr (q4a a1) 0),(V.own 1 (y93.1).length),(V.own 2 l51.length),(V.map 3),(V.own 8 (y93.2.2.1).length),(V.own 5 ([]:List Int).length),(V.own 9 (y93.2.2.2).length)]])),(1,(Ob.arr 4 1 ((y93.1).map q9h))),(2,(Ob.arr 4 1 (l51.map q9h))),(3,(Ob.map ((y93.2.1).map q8e))),(4,Ob.dead),(5,(Ob.arr 3 1 (([]:List Int).map q9a))),(6,Ob.dead),(8,(Ob.arr 304 2 ((y93.2.2.1).map q1c))),(9,(Ob.arr 3 1 ((y93.2.2.2).map q9a)))] fOk150 q7a rfl (q4f rfl (q4f rfl q8k)) (.cons (Sub.ptr rfl rfl) (.cons (Sub.imm (Imm.agg (z4p _))) .nil)) (.cons rfl (q4b.box (.cons (Sub.imm (Imm.iptr _ _)) (.cons (Sub.own rfl rfl) (.cons (Sub.own rfl rfl) (.cons (Sub.map rfl rfl) (.cons (Sub.own rfl rfl) (.cons (Sub.own rfl rfl) (.cons (Sub.own rfl rfl) .nil)))))))) (.cons rfl (q4b.rows (q3b q2f)) (.cons rfl (q4b.rows (q3b q2f)) (.cons rfl (q4b.maps q2g) (.cons rfl (q4b.rows (q3b q4e)) (.cons rfl (q4b.rows (q3b q7b)) (.cons rfl (q4b.rows (q3b q7b)) .nil))))))) (W150 F x90 a1 l80 l51 m81 l82 ([]:List Int) l83 y93 hx94) rfl rfl rfl rfl (Sub.immT (Imm.tup .nil)) (.cons rfl (q4b.box (.cons (Sub.immT (Imm.iptr _ _)) (.cons (Sub.ownT rfl rfl) (.cons (Sub.ownT rfl rfl) (.cons (Sub.mapT rfl rfl) (.cons (Sub.ownT rfl rfl) (.cons (Sub.ownT rfl rfl) (.cons (Sub.ownT rfl rfl) .nil)))))))) (.cons rfl (q4b.rowsT (q3b q2f)) (.cons rfl (q4b.rowsT (q3b q2f)) (.cons rfl (q4b.mapsT q2g) (.cons rfl q4b.deadT (.cons rfl (q4b.rowsT (q3b q7b)) (.cons rfl q4b.deadT (.cons rfl (q4b.rowsT (q3b q4e)) (.cons rfl (q4b.rowsT (q3b q7b)) .nil))))))))) _ rfl ?_
       refine fo (rn 6 rfl ?_)
       refine spO 123 h rfl (fun hb95 h=>?_) (fun hb95 h=>?_)
       ·refine rn 5 rfl ?_
        refine ixo (a:=(y93.1)) h rfl rfl rfl (fun x96 hx97 h=>?_)
        refine ldp hx97 rfl rfl rfl rfl ?_
        refine rn 2 rfl ?_
        refine spC h rfl (fun hb98 h=>?_) (fun hb98 h=>?_)
        ·refine rn 1 rfl ?_
         exact jX ((y93.1),l51,(y93.2.1),(y93.2.2.1),(y93.2.2.2)) h (gr [0,1,2,3,8,5,9] rfl (hB rfl rfl rfl (hR rfl rfl (hR rfl rfl (hM rfl rfl (hR rfl rfl (hR rfl rfl (hR rfl rfl .nil))))))) rfl)
        refine rn 2 rfl ?_
        exact jX ((y93.1),(y93.2.1),(y93.2.2.1),(y93.2.2.2)) h (gr [0,1,2,3,8,5,9] rfl (hB rfl rfl rfl (hR rfl rfl (hR rfl rfl (hM rfl rfl (hR rfl rfl (hR rfl rfl (hR rfl rfl .nil))))))) rfl)
       refine rn 12 rfl ?_
       exact jX ((y93.1),(y93.2.1),(y93.2.2.1),(y93.2.2.2)) h (gr [0,1,2,3,8,5,9] rfl (hB rfl rfl rfl (hR rfl rfl (hR rfl rfl (hM rfl rfl (hR rfl rfl (hR rfl rfl (hR rfl rfl .nil))))))) rfl)
      rintro⟨l86,m87,l88,l89⟩ h
      refine rn 4 rfl ?_
      exact jX ((w64 (n79+1)),l86,m87,l88,l89) (hk4 _ h) (gr [0,1,2,3,4,5,6] rfl (hB rfl rfl rfl (hR rfl rfl (hR rfl rfl (hM rfl rfl (hR rfl rfl (hR rfl rfl (hR rfl rfl .nil))))))) rfl)
     replace h:=RG.f h hb84
     unfold z8w at h
     refine rn 1 rfl ?_
     exact jX (l80,m81,l82,l83) h (gr [0,1,2,3,4,5,6] rfl (hB rfl rfl rfl (hR rfl rfl (hR rfl rfl (hM rfl rfl (hR rfl rfl (hR rfl rfl (hR rfl rfl .nil))))))) rfl)
    rintro⟨l70,m71,l72,l73⟩ h
    refine rn 1 rfl ?_
    exact jX (l70,l51,m71,l72,l73) h (gr [0,1,2,3,4,5,6] rfl (hB rfl rfl rfl (hR rfl rfl (hR rfl rfl (hM rfl rfl (hR rfl rfl (hR rfl rfl (hR rfl rfl .nil))))))) rfl)
   rintro⟨l38,l39,m40,l41,l42⟩ h
   exact jX (l38,l39,m40,l41,l42) h (gr [0,1,2,3,4,5,6] rfl (hB rfl rfl rfl (hR rfl rfl (hR rfl rfl (hM rfl rfl (hR rfl rfl (hR rfl rfl (hR rfl rfl .nil))))))) rfl)
  refine rn 1 rfl ?_
  exact jX (l31,l32,m33,l34,l35) h (gr [0,1,2,3,4,5,6] rfl (hB rfl rfl rfl (hR rfl rfl (hR rfl rfl (hM rfl rfl (hR rfl rfl (hR rfl rfl (hR rfl rfl .nil))))))) rfl)
 rintro⟨l21,l22,m23,l24,l25⟩ h
 refine rn 5 rfl ?_
 refine q0e (q7m 1 0 (Ob.arr 170 7 [[(V.iptr (q4a a1) 0),(V.lst 1 (l21.map q9h)),(V.own 2 l22.length),(V.map 3),(V.own 4 l24.length),(V.own 5 ([]:List Int).length),(V.own 6 l25.length)]]) rfl (q3b q2f) (q4b.box (.cons Sub.keep (.cons (Sub.frzAll (rows:=l21.map q9h) (List.length_map ..).symm) (.cons Sub.keep (.cons Sub.keep (.cons Sub.keep (.cons Sub.keep (.cons Sub.keep .nil))))))))) ?_
 refine q0e (q7m 2 0 (Ob.arr 170 7 [[(V.iptr (q4a a1) 0),(V.lst 1 (l21.map q9h)),(V.lst 1 (l22.map q9h)),(V.map 3),(V.own 4 l24.length),(V.own 5 ([]:List Int).length),(V.own 6 l25.length)]]) rfl (q3b q2f) (q4b.box (.cons Sub.keep (.cons Sub.keep (.cons (Sub.frzAll (rows:=l22.map q9h) (List.length_map ..).symm) (.cons Sub.keep (.cons Sub.keep (.cons Sub.keep (.cons Sub.keep .nil))))))))) ?_
 refine q0e (q1l 3 0 (Ob.arr 170 7 [[(V.iptr (q4a a1) 0),(V.lst 1 (l21.map q9h)),(V.lst 1 (l22.map q9h)),(V.imap (m23.map q8e)),(V.own 4 l24.length),(V.own 5 ([]:List Int).length),(V.own 6 l25.length)]]) rfl q2g (q4b.box (.cons Sub.keepM (.cons Sub.keepM (.cons Sub.keepM (.cons Sub.frzM (.cons Sub.keepM (.cons Sub.keepM (.cons Sub.keepM .nil))))))))) ?_
 refine q0e (q7m 4 0 (Ob.arr 170 7 [[(V.iptr (q4a a1) 0),(V.lst 1 (l21.map q9h)),(V.lst 1 (l22.map q9h)),(V.imap (m23.map q8e)),(V.lst 2 (l24.map q1c)),(V.own 5 ([]:List Int).length),(V.own 6 l25.length)]]) rfl (q3b q4e) (q4b.box (.cons Sub.keep (.cons Sub.keep (.cons Sub.keep (.cons Sub.keep (.cons (Sub.frzAll (rows:=l24.map q1c) (List.length_map ..).symm) (.cons Sub.keep (.cons Sub.keep .nil))))))))) ?_
 refine q0e (q7m 5 0 (Ob.arr 170 7 [[(V.iptr (q4a a1) 0),(V.lst 1 (l21.map q9h)),(V.lst 1 (l22.map q9h)),(V.imap (m23.map q8e)),(V.lst 2 (l24.map q1c)),(V.lst 1 (([]:List Int).map q9a)),(V.own 6 l25.length)]]) rfl (q3b q7b) (q4b.box (.cons Sub.keep (.cons Sub.keep (.cons Sub.keep (.cons Sub.keep (.cons Sub.keep (.cons (Sub.frzAll (rows:=([]:List Int).map q9a) (List.length_map ..).symm) (.cons Sub.keep .nil))))))))) ?_
 refine q0e (q7m 6 0 (Ob.arr 170 7 [[(V.iptr (q4a a1) 0),(V.lst 1 (l21.map q9h)),(V.lst 1 (l22.map q9h)),(V.imap (m23.map q8e)),(V.lst 2 (l24.map q1c)),(V.lst 1 (([]:List Int).map q9a)),(V.lst 1 (l25.map q9a))]]) rfl (q3b q7b) (q4b.box (.cons Sub.keep (.cons Sub.keep (.cons Sub.keep (.cons Sub.keep (.cons Sub.keep (.cons Sub.keep (.cons (Sub.frzAll (rows:=l25.map q9a) (List.length_map ..).symm) .nil))))))))) ?_
 refine q0e (j0p 0 4 rfl (q7j (.cons (.cons (Imm.iptr _ _) (.cons (Imm.lst _ _) (.cons (Imm.lst _ _) (.cons (Imm.imap _) (.cons (Imm.lst _ _) (.cons (Imm.lst _ _) (.cons (Imm.lst _ _) .nil))))))) .nil)) rfl rfl) ?_
 refine fa ?_
 exact rt h rfl
theorem W156(F:Nat)(a1:q1b)(a2:q5c)(r:(List Bool))(h:M156 F a1 a2=some r):q5n Tryz.prog 156 [(V.iptr (q4a a1) 0),(V.iptr (q2c a2) 0)] (V.lst 1 (r.map q9h)):=by
 refine pin (fun r=>(V.lst 1 (r.map q9h))) r rfl Tryz.func156 rfl rfl rfl rfl rfl (fun w0 m0 hg=>?_)
 unfold M156 at h
 refine rn 12 rfl ?_
 refine spC h rfl (fun hb3 h=>?_) (fun hb3 h=>?_)
 ·refine rn 8 rfl ?_
  exact rt h rfl
 refine rn 5 rfl ?_
 exact rt h rfl
theorem W152(F:Nat)(a1:List Int)(r:List Int)(h:w7u F a1=some r):Mut Tryz.prog 152 [(V.own 0 a1.length)] 1 [(0,(Ob.arr 3 1 (a1.map q9a)))] (v5s []) 1 [(0,(Ob.arr 3 1 (r.map q9a)))]:=by
 unfold w7u at h
 by_cases hc:a1.length<4611686018427387904
 ·rw[if_pos hc] at h
  replace h:=Option.some.inj h
  subst h
  refine(w2m a1 (v6a a1) rfl (List.length_mergeSort _) (fun w b off cap hH hb=>?_) (fun w p h0=>?_)).heap z5p
  ·exact Go.Proofs.Tryz.slices_Sort_int b off cap a1 w hH hb hc
  ·refine(Go.Proofs.Tryz.slices_Sort_int_none p 0 w).mono ?_
   rintro e w' ⟨rfl,rfl⟩
   exact⟨rfl,Go.RowKit.Below.refl _ _,Nat.le_refl _⟩
 ·rw[if_neg hc] at h;simp at h
theorem W153(F:Nat)(a1:List Int)(r:List Int)(h:w6u F a1=some r):Mut Tryz.prog 153 [(V.own 0 a1.length)] 1 [(0,(Ob.arr 3 1 (a1.map q9a)))] (v5s [(V.own 0 r.length)]) 1 [(0,(Ob.arr 3 1 (r.map q9a)))]:=by
 unfold w6u at h
 by_cases hc:a1.length<=140737488355328
 ·rw[if_pos hc] at h
  replace h:=Option.some.inj h
  subst h
  exact(j7z (Value.int .i64) (fun _=>rfl) 0 a1 rfl (fun b off cap a w hH h1 h2=>Go.Proofs.Tryz.slices_Compact_int b off cap a w hH h1 h2) (fun p w=>Go.Proofs.Tryz.slices_Compact_int_empty p 0 w) hc).heap z5p
 ·rw[if_neg hc] at h;simp at h
theorem W92(F:Nat)(a1:q1b)(a2:q6c)(a3:(List Bool))(r:(List Int))(h:M92 F a1 a2 a3=some r):q5n Tryz.prog 92 [(V.iptr (q4a a1) 0),(V.agg (q6d a2)),(V.lst 1 (a3.map q9h))] (V.lst 1 (r.map q9a)):=by
 refine pin (fun r=>(V.lst 1 (r.map q9a))) r rfl Tryz.func92 rfl rfl rfl rfl rfl (fun w0 m0 hg=>?_)
 unfold M92 at h
 refine rn 12 rfl ?_
 refine spC h rfl (fun hb4 h=>?_) (fun hb4 h=>?_)
 ·refine rn 1 rfl ?_
  refine dr mixed (vs 6 rfl (xD (OD.mk [(16,(V.imap (a1.funcs.map q9d))),(18,(sV a2.Target))] [] [(19,(iV ((q6b a1.funcs a2.Target).getD 0)))] []) ⟨⟨rfl,rfl,trivial⟩,trivial⟩ (by exact fun S hn h hh=>q7d _ (iV 0) (iV ((q6b a1.funcs a2.Target).getD 0)) q1o q6h j5m (q9f _) q7a h.1 .imm (.con h.2.1) ⟨_,rfl⟩ q7f (q8g a1.funcs a2.Target) (q1f (q1g) (q6b a1.funcs a2.Target) 0) rfl (q8d ⟨rfl,rfl⟩)) rfl (xD (OD.mk [(19,(iV ((q6b a1.funcs a2.Target).getD 0)))] [] [(20,(V.lst 1 (([((q6b a1.funcs a2.Target).getD 0)]:List Int).map q9a)))] []) ⟨⟨rfl,trivial⟩,trivial⟩ (by exact fun S hn h hh=>q6g [(0,(iV ((q6b a1.funcs a2.Target).getD 0)))] [[(iV ((q6b a1.funcs a2.Target).getD 0))]] q3v tZ3 q7a rfl rfl rfl rfl (q7g h.1 q5i) rfl rfl (by simp) (q7j (.cons (.cons (Imm.con _) .nil) .nil)) rfl (q8d ⟨rfl,rfl⟩)) rfl (vs 1 rfl .nil)))) (by kernel_rfl) ?_
  exact rt h rfl
 refine rn 7 rfl ?_
 refine dr mixed (vs 6 rfl (xD (OD.mk [(24,(V.imap (a1.fitting.map q3l))),(26,(sV a2.Target))] [] [(27,(V.lst 1 (((q6b a1.fitting a2.Target).getD ([]:(List Int))).map q9a)))] []) ⟨⟨rfl,rfl,trivial⟩,trivial⟩ (by exact fun S hn h hh=>q7d _ (V.lst 1 (([]:(List Int)).map q9a)) (V.lst 1 (((q6b a1.fitting a2.Target).getD ([]:(List Int))).map q9a)) z3o q6h z6v (fun _=>.nil _ _ _) q7a h.1 .imm (.con h.2.1) ⟨_,rfl⟩ q0n (q9m a1.fitting a2.Target) (q1f (q6l) (q6b a1.fitting a2.Target) ([]:(List Int))) rfl (q8d ⟨rfl,rfl⟩)) rfl (nD rfl rfl rfl (vs 1 rfl .nil)))) (by kernel_rfl) ?_
 refine jK h (fun(p:(List Int))=>(⟨[(7,(V.own 0 p.length))],[(0,(Ob.arr 3 1 (p.map q9a)))],1⟩:St)) (fun k5 p=>k5 p=some r) (fun k5 h=>?_) ?_
 ·refine rn 1 rfl ?_
  refine wl (A:=((q6b a1.fitting a2.Target).getD ([]:(List Int)))) 27 rfl (fun hA30=>?_)
  refine lC (fun(p:Int×(List Int))=>(⟨[(0,(V.iptr (q4a a1) 0)),(2,(V.lst 1 (a3.map q9h))),(4,(V.ptr 0 4 0 0)),(7,(V.own 1 (p.2).length)),(27,(V.lst 1 (((q6b a1.fitting a2.Target).getD ([]:(List Int))).map q9a))),(28,(iV ((((q6b a1.fitting a2.Target).getD ([]:(List Int))).length:Nat):Int))),(29,(iV (p.1)))],[(0,(Ob.arr 109 4 [(q6d a2)])),(1,(Ob.arr 3 1 ((p.2).map q9a)))],2⟩:St)) (fun n p=>RG ((q6b a1.fitting a2.Target).getD ([]:(List Int))) (fun tl nn=>z7w F a1 a2 a3 k5 tl p.2=some r) n p.1) (fun p h=>RG.zero h) (((q6b a1.fitting a2.Target).getD ([]:(List Int))).length+1) (0,([]:List Int)) (RG.start h) (q8h.trans (q7n 7 3 1 rfl) (q9g 2 (fun i=>([0,1]:List Nat).getD i 0) _ _ (by decide) (q9k.get (.cons (Sub.imm (Imm.iptr _ _)) (.cons (Sub.imm (Imm.lst _ _)) (.cons (Sub.ptr rfl rfl) (.cons (Sub.ownE rfl rfl (by simp)) (.cons (Sub.imm (Imm.lst _ _)) (.cons (Sub.imm (Imm.con _)) (.cons (Sub.imm (Imm.con _)) .nil)))))))) (q6i.get (.cons rfl (q4b.box (.cons (Sub.imm (Imm.con _)) (.cons (Sub.imm (Imm.con _)) (.cons (Sub.imm (Imm.con _)) (.cons (Sub.imm (Imm.con _)) .nil))))) (.cons rfl (q4b.rows (q3b q7b)) .nil))) rfl)) (fun n p h=>?_)
  obtain⟨n9,l10⟩:=p
  refine rn 5 rfl ?_
  refine spL rfl (fun hb11=>?_) (fun hb11=>?_)
  ·obtain⟨x14,tl,hx15,h,hk1⟩:=RG.t hA30 h hb11
   unfold z7w at h
   refine rn 2 rfl ?_
   refine jK h (fun(p:(List Int))=>(⟨[(0,(V.iptr (q4a a1) 0)),(2,(V.lst 1 (a3.map q9h))),(4,(V.ptr 0 4 0 0)),(7,(V.own 1 p.length)),(27,(V.lst 1 (((q6b a1.fitting a2.Target).getD ([]:(List Int))).map q9a))),(28,(iV ((((q6b a1.fitting a2.Target).getD ([]:(List Int))).length:Nat):Int))),(29,(iV n9))],[(0,(Ob.arr 109 4 [(q6d a2)])),(1,(Ob.arr 3 1 (p.map q9a)))],2⟩:St)) (fun k12 p=>k12 p=some r) (fun k12 h=>?_) ?_
   ·refine rn 3 rfl ?_
    refine ixh hx15 rfl rfl ?_
    refine rn 6 rfl ?_
    refine z4u (n:=a3.length) false v9l q7a rfl rfl (congrArg some (List.length_map ..)) rfl (fun b16 hn17=>?_)
    replace h:=j1c h hn17
    refine fo (rn 1 rfl ?_)
    refine spO 35 h rfl (fun hb18 h=>?_) (fun hb18 h=>?_)
    ·refine rn 12 rfl ?_
     refine cl h rfl rfl rfl (w9t _ _ _ _) rfl (fun y19 hx20 h=>?_)
     refine q9e [(0,(iV y19))] [[(iV y19)]] q3v tZ3 rfl rfl rfl rfl q7a (q7g rfl q5i) rfl rfl (by simp) rfl ?_
     refine fo ?_
     refine apO q9a h rfl rfl rfl rfl rfl rfl rfl rfl (fun h=>?_)
     refine rn 3 rfl ?_
     exact jX (l10++([y19]:List Int)) h (gr [0,3] rfl (hB rfl rfl rfl (hR rfl rfl .nil)) rfl)
    refine rn 2 rfl ?_
    refine ixl h rfl rfl (fun x22 hx23 h=>?_)
    refine rn 3 rfl ?_
    refine jK h (fun(p:(List Int))=>(⟨[(0,(V.iptr (q4a a1) 0)),(2,(V.lst 1 (a3.map q9h))),(4,(V.ptr 0 4 0 0)),(7,(V.own 1 p.length)),(27,(V.lst 1 (((q6b a1.fitting a2.Target).getD ([]:(List Int))).map q9a))),(28,(iV ((((q6b a1.fitting a2.Target).getD ([]:(List Int))).length:Nat):Int))),(29,(iV n9)),(39,(bV x22))],[(0,(Ob.arr 109 4 [(q6d a2)])),(1,(Ob.arr 3 1 (p.map q9a)))],2⟩:St)) (fun k24 p=>k24 p=some r) (fun k24 h=>?_) ?_
    ·refine spC h rfl (fun hb26 h=>?_) (fun hb26 h=>?_)
     ·refine rn 5 rfl ?_
      refine cl h rfl rfl rfl (w9t _ _ _ _) rfl (fun y27 hx28 h=>?_)
      refine q9e [(0,(iV y27))] [[(iV y27)]] q3v tZ3 rfl rfl rfl rfl q7a (q7g rfl q5i) rfl rfl (by simp) rfl ?_
      refine fo ?_
      refine apO q9a h rfl rfl rfl rfl rfl rfl rfl rfl (fun h=>?_)
      refine rn 2 rfl ?_
      exact jX (l10++([y27]:List Int)) h (gr [0,3] rfl (hB rfl rfl rfl (hR rfl rfl .nil)) rfl)
     refine rn 1 rfl ?_
     exact jX l10 h (gr [0,1] rfl (hB rfl rfl rfl (hR rfl rfl .nil)) rfl)
    intro l25 h
    refine rn 1 rfl ?_
    exact jX l25 h (gr [0,1] rfl (hB rfl rfl rfl (hR rfl rfl .nil)) rfl)
   intro l13 h
   refine rn 4 rfl ?_
   exact jX ((w64 (n9+1)),l13) (hk1 _ h) (gr [0,1] rfl (hB rfl rfl rfl (hR rfl rfl .nil)) rfl)
  replace h:=RG.f h hb11
  unfold z7w at h
  refine rn 1 rfl ?_
  exact jX l10 h (gr [1] rfl (hR rfl rfl .nil) rfl)
 intro l6 h
 obtain⟨y31,hx32,h⟩:=bind_some h
 refine rn 3 rfl ?_
 refine ck h (fun hc33 h=>?_)
 refine q0k (V.tup []) [(V.own 0 l6.length)] (fun i=>([0]:List Nat).getD i 0) (fun i=>([0]:List Nat).getD i 0) 1 1 [(0,(Ob.arr 3 1 (y31.map q9a)))] w2t q7a rfl (q4f rfl q8k) (.cons (Sub.own rfl rfl) .nil) (.cons rfl (q4b.rows (q3b q7b)) .nil) (W152 F l6 y31 hx32) rfl rfl rfl rfl (Sub.immT (Imm.tup .nil)) (.cons rfl (q4b.rowsT (q3b q7b)) .nil) _ rfl ?_
 refine q8f (q0q 7 (V.own 0 y31.length) rfl (Sub.ownI hc33)) ?_
 refine q8f (q0q 49 (V.own 0 y31.length) rfl (Sub.ownI hc33)) ?_
 obtain⟨y34,hx35,h⟩:=bind_some h
 refine fo (rn 4 rfl ?_)
 refine q0k (V.own 0 y34.length) [(V.own 0 y31.length)] (fun i=>([0]:List Nat).getD i 0) (fun i=>([0]:List Nat).getD i 0) 1 1 [(0,(Ob.arr 3 1 (y34.map q9a)))] w1t q7a rfl (q4f rfl q8k) (.cons (Sub.own rfl rfl) .nil) (.cons rfl (q4b.rows (q3b q7b)) .nil) (W153 F y31 y34 hx35) rfl rfl rfl rfl (Sub.ownT rfl rfl) (.cons rfl (q4b.rowsT (q3b q7b)) .nil) _ rfl ?_
 refine fo (rn 2 rfl ?_)
 refine q0e (q8l 0 [6,52] rfl (q3b q7b) (List.forall_mem_cons.2 ⟨rfl,(List.forall_mem_cons.2 ⟨rfl,(fun _ hx=>nomatch hx)⟩)⟩) (List.length_map ..).symm) ?_
 refine fa ?_
 exact rt h rfl
theorem w1q(F:Nat)(a1:q1b)(a2:q6c)(r:(List Int))(h:j0h F a1 a2=some r):q5n Tryz.prog 92 [(V.iptr (q4a a1) 0),(V.agg (q6d a2)),nV] (V.lst 1 (r.map q9a)):=by
 refine pin (fun r=>(V.lst 1 (r.map q9a))) r rfl Tryz.func92 rfl rfl rfl rfl rfl (fun w0 m0 hg=>?_)
 unfold j0h at h
 refine rn 12 rfl ?_
 refine spC h rfl (fun hb3 h=>?_) (fun hb3 h=>?_)
 ·refine rn 1 rfl ?_
  refine dr mixed (vs 6 rfl (xD (OD.mk [(16,(V.imap (a1.funcs.map q9d))),(18,(sV a2.Target))] [] [(19,(iV ((q6b a1.funcs a2.Target).getD 0)))] []) ⟨⟨rfl,rfl,trivial⟩,trivial⟩ (by exact fun S hn h hh=>q7d _ (iV 0) (iV ((q6b a1.funcs a2.Target).getD 0)) q1o q6h j5m (q9f _) q7a h.1 .imm (.con h.2.1) ⟨_,rfl⟩ q7f (q8g a1.funcs a2.Target) (q1f (q1g) (q6b a1.funcs a2.Target) 0) rfl (q8d ⟨rfl,rfl⟩)) rfl (xD (OD.mk [(19,(iV ((q6b a1.funcs a2.Target).getD 0)))] [] [(20,(V.lst 1 (([((q6b a1.funcs a2.Target).getD 0)]:List Int).map q9a)))] []) ⟨⟨rfl,trivial⟩,trivial⟩ (by exact fun S hn h hh=>q6g [(0,(iV ((q6b a1.funcs a2.Target).getD 0)))] [[(iV ((q6b a1.funcs a2.Target).getD 0))]] q3v tZ3 q7a rfl rfl rfl rfl (q7g h.1 q5i) rfl rfl (by simp) (q7j (.cons (.cons (Imm.con _) .nil) .nil)) rfl (q8d ⟨rfl,rfl⟩)) rfl (vs 1 rfl .nil)))) (by kernel_rfl) ?_
  exact rt h rfl
 refine rn 7 rfl ?_
 refine dr mixed (vs 6 rfl (xD (OD.mk [(24,(V.imap (a1.fitting.map q3l))),(26,(sV a2.Target))] [] [(27,(V.lst 1 (((q6b a1.fitting a2.Target).getD ([]:(List Int))).map q9a)))] []) ⟨⟨rfl,rfl,trivial⟩,trivial⟩ (by exact fun S hn h hh=>q7d _ (V.lst 1 (([]:(List Int)).map q9a)) (V.lst 1 (((q6b a1.fitting a2.Target).getD ([]:(List Int))).map q9a)) z3o q6h z6v (fun _=>.nil _ _ _) q7a h.1 .imm (.con h.2.1) ⟨_,rfl⟩ q0n (q9m a1.fitting a2.Target) (q1f (q6l) (q6b a1.fitting a2.Target) ([]:(List Int))) rfl (q8d ⟨rfl,rfl⟩)) rfl (nD rfl rfl rfl (vs 1 rfl .nil)))) (by kernel_rfl) ?_
 refine jK h (fun(p:(List Int))=>(⟨[(7,(V.own 0 p.length))],[(0,(Ob.arr 3 1 (p.map q9a)))],1⟩:St)) (fun k4 p=>k4 p=some r) (fun k4 h=>?_) ?_
 ·refine rn 1 rfl ?_
  refine wl (A:=((q6b a1.fitting a2.Target).getD ([]:(List Int)))) 27 rfl (fun hA16=>?_)
  refine lC (fun(p:Int×(List Int))=>(⟨[(0,(V.iptr (q4a a1) 0)),(2,nV),(4,(V.ptr 0 4 0 0)),(7,(V.own 1 (p.2).length)),(27,(V.lst 1 (((q6b a1.fitting a2.Target).getD ([]:(List Int))).map q9a))),(28,(iV ((((q6b a1.fitting a2.Target).getD ([]:(List Int))).length:Nat):Int))),(29,(iV (p.1)))],[(0,(Ob.arr 109 4 [(q6d a2)])),(1,(Ob.arr 3 1 ((p.2).map q9a)))],2⟩:St)) (fun n p=>RG ((q6b a1.fitting a2.Target).getD ([]:(List Int))) (fun tl nn=>q8x F a1 a2 k4 tl p.2=some r) n p.1) (fun p h=>RG.zero h) (((q6b a1.fitting a2.Target).getD ([]:(List Int))).length+1) (0,([]:List Int)) (RG.start h) (q8h.trans (q7n 7 3 1 rfl) (q9g 2 (fun i=>([0,1]:List Nat).getD i 0) _ _ (by decide) (q9k.get (.cons (Sub.imm (Imm.iptr _ _)) (.cons (Sub.imm (Imm.con _)) (.cons (Sub.ptr rfl rfl) (.cons (Sub.ownE rfl rfl (by simp)) (.cons (Sub.imm (Imm.lst _ _)) (.cons (Sub.imm (Imm.con _)) (.cons (Sub.imm (Imm.con _)) .nil)))))))) (q6i.get (.cons rfl (q4b.box (.cons (Sub.imm (Imm.con _)) (.cons (Sub.imm (Imm.con _)) (.cons (Sub.imm (Imm.con _)) (.cons (Sub.imm (Imm.con _)) .nil))))) (.cons rfl (q4b.rows (q3b q7b)) .nil))) rfl)) (fun n p h=>?_)
  obtain⟨n8,l9⟩:=p
  refine rn 5 rfl ?_
  refine spL rfl (fun hb10=>?_) (fun hb10=>?_)
  ·obtain⟨x11,tl,hx12,h,hk1⟩:=RG.t hA16 h hb10
   unfold q8x at h
   refine rn 5 rfl ?_
   refine ixh hx12 rfl rfl ?_
   refine rn 20 rfl ?_
   refine cl h rfl rfl rfl (w9t _ _ _ _) rfl (fun y13 hx14 h=>?_)
   refine q9e [(0,(iV y13))] [[(iV y13)]] q3v tZ3 rfl rfl rfl rfl q7a (q7g rfl q5i) rfl rfl (by simp) rfl ?_
   refine fo ?_
   refine apO q9a h rfl rfl rfl rfl rfl rfl rfl rfl (fun h=>?_)
   refine rn 7 rfl ?_
   exact jX ((w64 (n8+1)),(l9++([y13]:List Int))) (hk1 _ h) (gr [0,3] rfl (hB rfl rfl rfl (hR rfl rfl .nil)) rfl)
  replace h:=RG.f h hb10
  unfold q8x at h
  refine rn 1 rfl ?_
  exact jX l9 h (gr [1] rfl (hR rfl rfl .nil) rfl)
 intro l5 h
 obtain⟨y17,hx18,h⟩:=bind_some h
 refine rn 3 rfl ?_
 refine ck h (fun hc19 h=>?_)
 refine q0k (V.tup []) [(V.own 0 l5.length)] (fun i=>([0]:List Nat).getD i 0) (fun i=>([0]:List Nat).getD i 0) 1 1 [(0,(Ob.arr 3 1 (y17.map q9a)))] w2t q7a rfl (q4f rfl q8k) (.cons (Sub.own rfl rfl) .nil) (.cons rfl (q4b.rows (q3b q7b)) .nil) (W152 F l5 y17 hx18) rfl rfl rfl rfl (Sub.immT (Imm.tup .nil)) (.cons rfl (q4b.rowsT (q3b q7b)) .nil) _ rfl ?_
 refine q8f (q0q 7 (V.own 0 y17.length) rfl (Sub.ownI hc19)) ?_
 refine q8f (q0q 49 (V.own 0 y17.length) rfl (Sub.ownI hc19)) ?_
 obtain⟨y20,hx21,h⟩:=bind_some h
 refine fo (rn 4 rfl ?_)
 refine q0k (V.own 0 y20.length) [(V.own 0 y17.length)] (fun i=>([0]:List Nat).getD i 0) (fun i=>([0]:List Nat).getD i 0) 1 1 [(0,(Ob.arr 3 1 (y20.map q9a)))] w1t q7a rfl (q4f rfl q8k) (.cons (Sub.own rfl rfl) .nil) (.cons rfl (q4b.rows (q3b q7b)) .nil) (W153 F y17 y20 hx21) rfl rfl rfl rfl (Sub.ownT rfl rfl) (.cons rfl (q4b.rowsT (q3b q7b)) .nil) _ rfl ?_
 refine fo (rn 2 rfl ?_)
 refine q0e (q8l 0 [6,52] rfl (q3b q7b) (List.forall_mem_cons.2 ⟨rfl,(List.forall_mem_cons.2 ⟨rfl,(fun _ hx=>nomatch hx)⟩)⟩) (List.length_map ..).symm) ?_
 refine fa ?_
 exact rt h rfl
theorem W94(F:Nat)(a1:q1b)(a2:q5c)(a3:Int)(r:(List Int))(h:M94 F a1 a2 a3=some r):q5n Tryz.prog 94 [(V.iptr (q4a a1) 0),(V.iptr (q2c a2) 0),(iV a3)] (V.lst 1 (r.map q9a)):=by
 refine pin (fun r=>(V.lst 1 (r.map q9a))) r rfl Tryz.func94 rfl rfl rfl rfl rfl (fun w0 m0 hg=>?_)
 unfold M94 at h
 refine rn 11 rfl ?_
 refine ln rfl rfl ?_
 refine ck h (fun hc4 h=>?_)
 refine j1f (e2:=3) (k2:=1) (ln:=(List.replicate (((a1.g.Funcs.length:Nat):Int)).toNat (([]:(List Int)):(List Int))).length) q9a ((List.replicate (((a1.g.Funcs.length:Nat):Int)).toNat (([]:(List Int)):(List Int))).map (q6u 3 1 q9a)) tEl264 tZ165 rfl rfl rfl hc4 rfl List.length_replicate q7a rfl rfl ?_
 refine fo (rn 10 rfl ?_)
 refine ln rfl rfl ?_
 refine rn 2 rfl ?_
 refine jK h (fun(p:(List (List Int)))=>(⟨[(0,(V.iptr (q4a a1) 0)),(2,(iV a3)),(7,(V.own 0 p.length))],[(0,(Ob.arr 165 1 (p.map (q6u 3 1 q9a))))],1⟩:St)) (fun k5 p=>k5 p=some r) (fun k5 h=>?_) ?_
 ·refine rn 1 rfl ?_
  refine wl (A:=a1.g.Funcs) 24 rfl (fun hA65=>?_)
  refine lC (fun(p:Int×(List (List Int)))=>(⟨[(0,(V.iptr (q4a a1) 0)),(1,(V.iptr (q2c a2) 0)),(2,(iV a3)),(7,(V.own 0 (p.2).length)),(31,(V.lst 4 (a1.g.Funcs.map q8c))),(32,(iV ((a1.g.Funcs.length:Nat):Int))),(33,(iV (p.1)))],[(0,(Ob.arr 165 1 ((p.2).map (q6u 3 1 q9a))))],1⟩:St)) (fun n p=>RG a1.g.Funcs (fun tl nn=>z6w F a1 a2 k5 tl nn p.2=some r) n p.1) (fun p h=>RG.zero h) (a1.g.Funcs.length+1) (0,(List.replicate (((a1.g.Funcs.length:Nat):Int)).toNat (([]:(List Int)):(List Int)))) (RG.start h) (gr [0] rfl (hR rfl rfl .nil) rfl) (fun n p h=>?_)
  obtain⟨n9,l10⟩:=p
  refine rn 5 rfl ?_
  refine spL rfl (fun hb11=>?_) (fun hb11=>?_)
  ·obtain⟨x14,tl,hx15,h,hk1⟩:=RG.t hA65 h hb11
   unfold z6w at h
   refine rn 2 rfl ?_
   refine jK h (fun(p:(List (List Int)))=>(⟨[(0,(V.iptr (q4a a1) 0)),(1,(V.iptr (q2c a2) 0)),(2,(iV a3)),(7,(V.own 0 p.length)),(31,(V.lst 4 (a1.g.Funcs.map q8c))),(32,(iV ((a1.g.Funcs.length:Nat):Int))),(33,(iV n9))],[(0,(Ob.arr 165 1 (p.map (q6u 3 1 q9a))))],1⟩:St)) (fun k12 p=>k12 p=some r) (fun k12 h=>?_) ?_
   ·refine rn 4 rfl ?_
    refine ixh hx15 rfl rfl ?_
    refine rn 13 rfl ?_
    refine ixl h rfl rfl (fun x16 hx17 h=>?_)
    refine rn 3 rfl ?_
    refine spC h rfl (fun hb18 h=>?_) (fun hb18 h=>?_)
    ·refine rn 1 rfl ?_
     exact jX l10 h (gr [0] rfl (hR rfl rfl .nil) rfl)
    refine rn 5 rfl ?_
    refine ln rfl rfl ?_
    refine rn 2 rfl ?_
    refine jK h (fun(p:(List (List Int)))=>(⟨[(0,(V.iptr (q4a a1) 0)),(1,(V.iptr (q2c a2) 0)),(2,(iV a3)),(7,(V.own 0 p.length)),(31,(V.lst 4 (a1.g.Funcs.map q8c))),(32,(iV ((a1.g.Funcs.length:Nat):Int))),(33,(iV n9))],[(0,(Ob.arr 165 1 (p.map (q6u 3 1 q9a))))],1⟩:St)) (fun k19 p=>k19 p=some r) (fun k19 h=>?_) ?_
    ·refine rn 1 rfl ?_
     refine wl (A:=x14.Calls) 47 rfl (fun hA64=>?_)
     refine lC (fun(p:Int×(List (List Int)))=>(⟨[(0,(V.iptr (q4a a1) 0)),(1,(V.iptr (q2c a2) 0)),(2,(iV a3)),(7,(V.own 0 (p.2).length)),(8,(iV n9)),(31,(V.lst 4 (a1.g.Funcs.map q8c))),(32,(iV ((a1.g.Funcs.length:Nat):Int))),(33,(iV n9)),(47,(V.lst 4 (x14.Calls.map q6d))),(48,(iV ((x14.Calls.length:Nat):Int))),(49,(iV (p.1)))],[(0,(Ob.arr 165 1 ((p.2).map (q6u 3 1 q9a))))],1⟩:St)) (fun n p=>RG x14.Calls (fun tl nn=>z5w F a1 a2 n9 k19 tl p.2=some r) n p.1) (fun p h=>RG.zero h) (x14.Calls.length+1) (0,l10) (RG.start h) (gr [0] rfl (hR rfl rfl .nil) rfl) (fun n p h=>?_)
     obtain⟨n23,l24⟩:=p
     refine rn 5 rfl ?_
     refine spL rfl (fun hb25=>?_) (fun hb25=>?_)
     ·obtain⟨x28,tl,hx29,h,hk2⟩:=RG.t hA64 h hb25
      unfold z5w at h
      refine rn 2 rfl ?_
      refine jK h (fun(p:(List (List Int)))=>(⟨[(0,(V.iptr (q4a a1) 0)),(1,(V.iptr (q2c a2) 0)),(2,(iV a3)),(7,(V.own 0 p.length)),(8,(iV n9)),(31,(V.lst 4 (a1.g.Funcs.map q8c))),(32,(iV ((a1.g.Funcs.length:Nat):Int))),(33,(iV n9)),(47,(V.lst 4 (x14.Calls.map q6d))),(48,(iV ((x14.Calls.length:Nat):Int))),(49,(iV n23))],[(0,(Ob.arr 165 1 (p.map (q6u 3 1 q9a))))],1⟩:St)) (fun k26 p=>k26 p=some r) (fun k26 h=>?_) ?_
      ·refine rn 3 rfl ?_
       refine ixh hx29 rfl rfl ?_
       refine rn 5 rfl ?_
       refine dr mixed (vs 6 rfl (xD (OD.mk [(56,(V.imap (a1.on.map q5b))),(58,(sV x28.Feature))] [] [(59,(bV ((q6b a1.on x28.Feature).getD false)))] []) ⟨⟨rfl,rfl,trivial⟩,trivial⟩ (by exact fun S hn h hh=>q7d _ (bV false) (bV ((q6b a1.on x28.Feature).getD false)) q4j q6h j4m (q9f _) q7a h.1 .imm (.con h.2.1) ⟨_,rfl⟩ q7e (q3h a1.on x28.Feature) (q1f (q5g) (q6b a1.on x28.Feature) false) rfl (q8d ⟨rfl,rfl⟩)) rfl .nil)) (by kernel_rfl) ?_
       refine jK h (fun(p:(List (List Int)))=>(⟨[(0,(V.iptr (q4a a1) 0)),(1,(V.iptr (q2c a2) 0)),(2,(iV a3)),(7,(V.own 0 p.length)),(8,(iV n9)),(31,(V.lst 4 (a1.g.Funcs.map q8c))),(32,(iV ((a1.g.Funcs.length:Nat):Int))),(33,(iV n9)),(47,(V.lst 4 (x14.Calls.map q6d))),(48,(iV ((x14.Calls.length:Nat):Int))),(49,(iV n23))],[(0,(Ob.arr 165 1 (p.map (q6u 3 1 q9a))))],1⟩:St)) (fun k30 p=>k30 p=some r) (fun k30 h=>?_) ?_
       ·refine spC h rfl (fun hb32 h=>?_) (fun hb32 h=>?_)
        ·refine rn 1 rfl ?_
         refine bs h (fun hb33 h=>?_) (fun hb33 h=>?_)
         ·obtain⟨y34,hx35,h⟩:=bind_some h
          refine dr mixed (vs 4 rfl (cD rfl rfl rfl rfl (W156 F a1 a2 _ (by unfold M156;rw[if_pos hb33])) rfl (cD rfl rfl rfl rfl (W92 _ _ _ _ _ hx35) rfl (nD rfl rfl rfl (vs 1 rfl .nil))))) (by kernel_rfl) ?_
          refine jK h (fun(p:(List (List Int)))=>(⟨[(0,(V.iptr (q4a a1) 0)),(1,(V.iptr (q2c a2) 0)),(2,(iV a3)),(7,(V.own 0 p.length)),(8,(iV n9)),(31,(V.lst 4 (a1.g.Funcs.map q8c))),(32,(iV ((a1.g.Funcs.length:Nat):Int))),(33,(iV n9)),(47,(V.lst 4 (x14.Calls.map q6d))),(48,(iV ((x14.Calls.length:Nat):Int))),(49,(iV n23))],[(0,(Ob.arr 165 1 (p.map (q6u 3 1 q9a))))],1⟩:St)) (fun k36 p=>k36 p=some r) (fun k36 h=>?_) ?_
          ·refine rn 1 rfl ?_
           refine wl (A:=y34) 65 rfl (fun hA48=>?_)
           refine lC (fun(p:Int×(List (List Int)))=>(⟨[(0,(V.iptr (q4a a1) 0)),(1,(V.iptr (q2c a2) 0)),(2,(iV a3)),(7,(V.own 0 (p.2).length)),(8,(iV n9)),(31,(V.lst 4 (a1.g.Funcs.map q8c))),(32,(iV ((a1.g.Funcs.length:Nat):Int))),(33,(iV n9)),(47,(V.lst 4 (x14.Calls.map q6d))),(48,(iV ((x14.Calls.length:Nat):Int))),(49,(iV n23)),(65,(V.lst 1 (y34.map q9a))),(66,(iV ((y34.length:Nat):Int))),(67,(iV (p.1)))],[(0,(Ob.arr 165 1 ((p.2).map (q6u 3 1 q9a))))],1⟩:St)) (fun n p=>RG y34 (fun tl nn=>z3r F n9 k36 tl p.2=some r) n p.1) (fun p h=>RG.zero h) (y34.length+1) (0,l24) (RG.start h) (gr [0] rfl (hR rfl rfl .nil) rfl) (fun n p h=>?_)
           obtain⟨n40,l41⟩:=p
           refine rn 5 rfl ?_
           refine spL rfl (fun hb42=>?_) (fun hb42=>?_)
           ·obtain⟨x43,tl,hx44,h,hk3⟩:=RG.t hA48 h hb42
            unfold z3r at h
            refine rn 5 rfl ?_
            refine ixh hx44 rfl rfl ?_
            refine rn 8 rfl ?_
            refine ixo (a:=l41) h rfl rfl rfl (fun x45 hx46 h=>?_)
            refine z7e q9a w9z q7a rfl rfl (q5q hx46).2 rfl rfl ?_
            refine fo (rn 1 rfl ?_)
            refine q9e [(0,(iV n9))] [[(iV n9)]] q3v tZ3 rfl rfl rfl rfl q7a (q7g rfl q5i) rfl rfl (by simp) rfl ?_
            refine fo ?_
            refine apO q9a h rfl rfl rfl rfl rfl rfl rfl rfl (fun h=>?_)
            refine q2y v2x q7a rfl rfl (q5q hx46).1 (by simpa using j8o hx46) rfl ?_
            refine q7x q9a (fun z=>(q7b z).keep) (l41.set x43.toNat (x45++([n9]:List Int))) w7v q7a rfl rfl rfl rfl (by simpa using j8o hx46) rfl (by simp) rfl rfl ?_
            refine fo (rn 6 rfl ?_)
            exact jX ((w64 (n40+1)),(l41.set x43.toNat (x45++([n9]:List Int)))) (hk3 _ h) (q9g 1 (fun i=>([0]:List Nat).getD i 0) _ _ (by decide) (q9k.get (.cons (Sub.imm (Imm.iptr _ _)) (.cons (Sub.imm (Imm.iptr _ _)) (.cons (Sub.imm (Imm.con _)) (.cons (Sub.ownE rfl rfl (by simp)) (.cons (Sub.imm (Imm.con _)) (.cons (Sub.imm (Imm.lst _ _)) (.cons (Sub.imm (Imm.con _)) (.cons (Sub.imm (Imm.con _)) (.cons (Sub.imm (Imm.lst _ _)) (.cons (Sub.imm (Imm.con _)) (.cons (Sub.imm (Imm.con _)) (.cons (Sub.imm (Imm.lst _ _)) (.cons (Sub.imm (Imm.con _)) (.cons (Sub.imm (Imm.con _)) .nil))))))))))))))) (q6i.get (.cons rfl (q4b.rowsK RK.h) .nil)) rfl)
           replace h:=RG.f h hb42
           unfold z3r at h
           refine rn 1 rfl ?_
           exact jX l41 h (gr [0] rfl (hR rfl rfl .nil) rfl)
          intro l37 h
          exact jX l37 h (gr [0] rfl (hR rfl rfl .nil) rfl)
         obtain⟨y49,hx50,h⟩:=bind_some h
         refine dr mixed (vs 4 rfl (cD rfl rfl rfl rfl (W156n a1 a2 hb33) rfl (cD rfl rfl rfl rfl (w1q _ _ _ _ hx50) rfl (nD rfl rfl rfl (vs 1 rfl .nil))))) (by kernel_rfl) ?_
         refine jK h (fun(p:(List (List Int)))=>(⟨[(0,(V.iptr (q4a a1) 0)),(1,(V.iptr (q2c a2) 0)),(2,(iV a3)),(7,(V.own 0 p.length)),(8,(iV n9)),(31,(V.lst 4 (a1.g.Funcs.map q8c))),(32,(iV ((a1.g.Funcs.length:Nat):Int))),(33,(iV n9)),(47,(V.lst 4 (x14.Calls.map q6d))),(48,(iV ((x14.Calls.length:Nat):Int))),(49,(iV n23))],[(0,(Ob.arr 165 1 (p.map (q6u 3 1 q9a))))],1⟩:St)) (fun k51 p=>k51 p=some r) (fun k51 h=>?_) ?_
         ·refine rn 1 rfl ?_
          refine wl (A:=y49) 65 rfl (fun hA63=>?_)
          refine lC (fun(p:Int×(List (List Int)))=>(⟨[(0,(V.iptr (q4a a1) 0)),(1,(V.iptr (q2c a2) 0)),(2,(iV a3)),(7,(V.own 0 (p.2).length)),(8,(iV n9)),(31,(V.lst 4 (a1.g.Funcs.map q8c))),(32,(iV ((a1.g.Funcs.length:Nat):Int))),(33,(iV n9)),(47,(V.lst 4 (x14.Calls.map q6d))),(48,(iV ((x14.Calls.length:Nat):Int))),(49,(iV n23)),(65,(V.lst 1 (y49.map q9a))),(66,(iV ((y49.length:Nat):Int))),(67,(iV (p.1)))],[(0,(Ob.arr 165 1 ((p.2).map (q6u 3 1 q9a))))],1⟩:St)) (fun n p=>RG y49 (fun tl nn=>j6g F n9 k51 tl p.2=some r) n p.1) (fun p h=>RG.zero h) (y49.length+1) (0,l24) (RG.start h) (gr [0] rfl (hR rfl rfl .nil) rfl) (fun n p h=>?_)
          obtain⟨n55,l56⟩:=p
          refine rn 5 rfl ?_
          refine spL rfl (fun hb57=>?_) (fun hb57=>?_)
          ·obtain⟨x58,tl,hx59,h,hk4⟩:=RG.t hA63 h hb57
           unfold j6g at h
           refine rn 5 rfl ?_
           refine ixh hx59 rfl rfl ?_
           refine rn 8 rfl ?_
           refine ixo (a:=l56) h rfl rfl rfl (fun x60 hx61 h=>?_)
           refine z7e q9a w9z q7a rfl rfl (q5q hx61).2 rfl rfl ?_
           refine fo (rn 1 rfl ?_)
           refine q9e [(0,(iV n9))] [[(iV n9)]] q3v tZ3 rfl rfl rfl rfl q7a (q7g rfl q5i) rfl rfl (by simp) rfl ?_
           refine fo ?_
           refine apO q9a h rfl rfl rfl rfl rfl rfl rfl rfl (fun h=>?_)
           refine q2y v2x q7a rfl rfl (q5q hx61).1 (by simpa using j8o hx61) rfl ?_
           refine q7x q9a (fun z=>(q7b z).keep) (l56.set x58.toNat (x60++([n9]:List Int))) w7v q7a rfl rfl rfl rfl (by simpa using j8o hx61) rfl (by simp) rfl rfl ?_
           refine fo (rn 6 rfl ?_)
           exact jX ((w64 (n55+1)),(l56.set x58.toNat (x60++([n9]:List Int)))) (hk4 _ h) (q9g 1 (fun i=>([0]:List Nat).getD i 0) _ _ (by decide) (q9k.get (.cons (Sub.imm (Imm.iptr _ _)) (.cons (Sub.imm (Imm.iptr _ _)) (.cons (Sub.imm (Imm.con _)) (.cons (Sub.ownE rfl rfl (by simp)) (.cons (Sub.imm (Imm.con _)) (.cons (Sub.imm (Imm.lst _ _)) (.cons (Sub.imm (Imm.con _)) (.cons (Sub.imm (Imm.con _)) (.cons (Sub.imm (Imm.lst _ _)) (.cons (Sub.imm (Imm.con _)) (.cons (Sub.imm (Imm.con _)) (.cons (Sub.imm (Imm.lst _ _)) (.cons (Sub.imm (Imm.con _)) (.cons (Sub.imm (Imm.con _)) .nil))))))))))))))) (q6i.get (.cons rfl (q4b.rowsK RK.h) .nil)) rfl)
          replace h:=RG.f h hb57
          unfold j6g at h
          refine rn 1 rfl ?_
          exact jX l56 h (gr [0] rfl (hR rfl rfl .nil) rfl)
         intro l52 h
         exact jX l52 h (gr [0] rfl (hR rfl rfl .nil) rfl)
        refine rn 1 rfl ?_
        exact jX l24 h (gr [0] rfl (hR rfl rfl .nil) rfl)
       intro l31 h
       refine rn 1 rfl ?_
       exact jX l31 h (gr [0] rfl (hR rfl rfl .nil) rfl)
      intro l27 h
      refine rn 4 rfl ?_
      exact jX ((w64 (n23+1)),l27) (hk2 _ h) (gr [0] rfl (hR rfl rfl .nil) rfl)
     replace h:=RG.f h hb25
     unfold z5w at h
     refine rn 1 rfl ?_
     exact jX l24 h (gr [0] rfl (hR rfl rfl .nil) rfl)
    intro l20 h
    refine rn 1 rfl ?_
    exact jX l20 h (gr [0] rfl (hR rfl rfl .nil) rfl)
   intro l13 h
   refine rn 4 rfl ?_
   exact jX ((w64 (n9+1)),l13) (hk1 _ h) (gr [0] rfl (hR rfl rfl .nil) rfl)
  replace h:=RG.f h hb11
  unfold z6w at h
  refine rn 1 rfl ?_
  exact jX l10 h (gr [0] rfl (hR rfl rfl .nil) rfl)
 intro l6 h
 refine rn 1 rfl ?_
 refine q0e (v4j 0 7 q9a (fun _=>q7b _) j1e (fun _=>rfl) rfl rfl (by simp)) ?_
 refine fa (rn 6 rfl ?_)
 refine ln rfl rfl ?_
 refine ck h (fun hc66 h=>?_)
 refine q8n (ln:=(List.replicate (((a1.g.Funcs.length:Nat):Int)).toNat (0:Int)).length) ((List.replicate (((a1.g.Funcs.length:Nat):Int)).toNat (0:Int)).map q9a) q3v tZ3 rfl rfl hc66 List.map_replicate List.length_replicate q7a rfl rfl ?_
 refine fo (rn 9 rfl ?_)
 refine jK h (fun(p:(List Int))=>(⟨[(2,(iV a3)),(7,(V.lst 1 (l6.map j1e))),(14,(V.own 0 p.length))],[(0,(Ob.arr 3 1 (p.map q9a)))],1⟩:St)) (fun k67 p=>k67 p=some r) (fun k67 h=>?_) ?_
 ·refine rn 1 rfl ?_
  refine wlO (A:=(List.replicate (((a1.g.Funcs.length:Nat):Int)).toNat (0:Int))) 1 rfl (fun hA76=>?_)
  refine lC (fun(p:Int×(List Int))=>(⟨[(2,(iV a3)),(7,(V.lst 1 (l6.map j1e))),(14,(V.own 0 (p.2).length)),(92,(iV (((List.replicate (((a1.g.Funcs.length:Nat):Int)).toNat (0:Int)).length:Nat):Int))),(93,(iV (p.1)))],[(0,(Ob.arr 3 1 ((p.2).map q9a)))],1⟩:St)) (fun n p=>RC (((List.replicate (((a1.g.Funcs.length:Nat):Int)).toNat (0:Int)).length:Nat):Int) (fun tl nn=>z2r F k67 tl nn p.2=some r) n p.1) (fun p h=>RC.zero h) (Int.toNat (((List.replicate (((a1.g.Funcs.length:Nat):Int)).toNat (0:Int)).length:Nat):Int)+1) (0,(List.replicate (((a1.g.Funcs.length:Nat):Int)).toNat (0:Int))) (RC.start h) (gr [1] rfl (hR rfl rfl .nil) rfl) (fun n p h=>?_)
  obtain⟨n71,l72⟩:=p
  refine rn 5 rfl ?_
  refine spL rfl (fun hb73=>?_) (fun hb73=>?_)
  ·obtain⟨tl,h,hk5⟩:=RC.t (by unfold maxLen at hA76;omega) h hb73
   unfold z2r at h
   refine rn 11 rfl ?_
   refine ixo (a:=l72) h rfl rfl rfl (fun x74 hx75 h=>?_)
   refine stS (-1) hx75 rfl rfl rfl rfl rfl rfl ?_
   refine rn 6 rfl ?_
   exact jX ((w64 (n71+1)),(l72.set n71.toNat (-1))) (hk5 _ h) (q9g 1 (fun i=>([0]:List Nat).getD i 0) _ _ (by decide) (q9k.get (.cons (Sub.imm (Imm.con _)) (.cons (Sub.imm (Imm.lst _ _)) (.cons (Sub.ownE rfl rfl (by simp)) (.cons (Sub.imm (Imm.con _)) (.cons (Sub.imm (Imm.con _)) .nil)))))) (q6i.get (.cons rfl (q4b.rows (q3b q7b)) .nil)) rfl)
  replace h:=RC.f h hb73
  unfold z2r at h
  refine rn 1 rfl ?_
  exact jX l72 h (gr [0] rfl (hR rfl rfl .nil) rfl)
 intro l68 h
 refine rn 4 rfl ?_
 refine ixo (a:=l68) h rfl rfl rfl (fun x77 hx78 h=>?_)
 refine stS 0 hx78 rfl rfl rfl rfl rfl rfl ?_
 refine rn 4 rfl ?_
 refine q9e [(0,(iV a3))] [[(iV a3)]] q3v tZ3 rfl rfl rfl rfl q7a (q7g rfl q5i) rfl rfl (by simp) rfl ?_
 refine fo (rn 3 rfl ?_)
 refine jK h (fun(p:(List Int))=>(⟨[(14,(V.own 0 p.length))],[(0,(Ob.arr 3 1 (p.map q9a)))],1⟩:St)) (fun k79 p=>k79 p=some r) (fun k79 h=>?_) ?_
 ·refine rn 1 rfl ?_
  refine lC (fun(p:(List Int)×(List Int))=>(⟨[(7,(V.lst 1 (l6.map j1e))),(14,(V.own 0 (p.1).length)),(16,(V.own 1 (p.2).length))],[(0,(Ob.arr 3 1 ((p.1).map q9a))),(1,(Ob.arr 3 1 ((p.2).map q9a)))],2⟩:St)) (fun n p=>z1f F l6 k79 n p.1 p.2=some r) (fun p h=>by simp[z1f] at h) F ((l68.set a3.toNat 0),([a3]:List Int)) h (q9g 2 (fun i=>([0,1]:List Nat).getD i 0) _ _ (by decide) (q9k.get (.cons (Sub.imm (Imm.lst _ _)) (.cons (Sub.ownE rfl rfl (by simp)) (.cons (Sub.ownE rfl rfl (by simp)) .nil)))) (q6i.get (.cons rfl (q4b.rows (q3b q7b)) (.cons rfl (q4b.rows (q3b q7b)) .nil))) rfl) (fun n p h=>?_)
  obtain⟨l83,l84⟩:=p
  unfold z1f at h
  refine rn 7 rfl ?_
  refine spC h rfl (fun hb85 h=>?_) (fun hb85 h=>?_)
  ·refine rn 1 rfl ?_
   refine jK h (fun(p:(List Int)×(List Int))=>(⟨[(7,(V.lst 1 (l6.map j1e))),(14,(V.own 0 (p.1).length)),(16,(V.own 1 (p.2).length))],[(0,(Ob.arr 3 1 ((p.1).map q9a))),(1,(Ob.arr 3 1 ((p.2).map q9a)))],2⟩:St)) (fun k86 p=>k86 p.1 p.2=some r) (fun k86 h=>?_) ?_
   ·refine rn 4 rfl ?_
    refine ixo (a:=l84) h rfl rfl rfl (fun x89 hx90 h=>?_)
    refine ldp hx90 rfl rfl rfl rfl ?_
    refine rn 5 rfl ?_
    refine ck h (fun hc91 h=>?_)
    refine z6e (nx:=2) (1) (l84.length) ((l84.drop 1).length) ((l84.drop 1).map q9a) v3x q7a rfl rfl (by simp) rfl ⟨_,rfl⟩ rfl hc91 (Nat.le_refl _) (List.map_drop ..).symm (by simp) (v7o (q3b q7b)) rfl ?_
    refine fo (rn 6 rfl ?_)
    refine ixl h rfl rfl (fun x92 hx93 h=>?_)
    refine rn 1 rfl ?_
    refine ln rfl rfl ?_
    refine rn 2 rfl ?_
    refine jK h (fun(p:(List Int)×(List Int))=>(⟨[(7,(V.lst 1 (l6.map j1e))),(14,(V.own 0 (p.1).length)),(16,(V.own 1 (p.2).length))],[(0,(Ob.arr 3 1 ((p.1).map q9a))),(1,(Ob.arr 3 1 ((p.2).map q9a)))],2⟩:St)) (fun k94 p=>k94 p.1 p.2=some r) (fun k94 h=>?_) ?_
    ·refine rn 1 rfl ?_
     refine wl (A:=x92) 116 rfl (fun hA117=>?_)
     refine lC (fun(p:Int×(List Int)×(List Int))=>(⟨[(7,(V.lst 1 (l6.map j1e))),(14,(V.own 0 (p.2.1).length)),(16,(V.own 1 (p.2.2).length)),(17,(iV x89)),(116,(V.lst 1 (x92.map q9a))),(117,(iV ((x92.length:Nat):Int))),(118,(iV (p.1)))],[(0,(Ob.arr 3 1 ((p.2.1).map q9a))),(1,(Ob.arr 3 1 ((p.2.2).map q9a)))],2⟩:St)) (fun n p=>RG x92 (fun tl nn=>z4w F x89 k94 tl p.2.1 p.2.2=some r) n p.1) (fun p h=>RG.zero h) (x92.length+1) (0,l83,(l84.drop 1)) (RG.start h) (gr [0,2] rfl (hR rfl rfl (hR rfl rfl .nil)) rfl) (fun n p h=>?_)
     obtain⟨n100,l101,l102⟩:=p
     refine rn 5 rfl ?_
     refine spL rfl (fun hb103=>?_) (fun hb103=>?_)
     ·obtain⟨x104,tl,hx105,h,hk7⟩:=RG.t hA117 h hb103
      unfold z4w at h
      refine rn 5 rfl ?_
      refine ixh hx105 rfl rfl ?_
      refine rn 7 rfl ?_
      refine ixo (a:=l101) h rfl rfl rfl (fun x106 hx107 h=>?_)
      refine ldp hx107 rfl rfl rfl rfl ?_
      refine rn 2 rfl ?_
      refine jK h (fun(p:(List Int)×(List Int))=>(⟨[(7,(V.lst 1 (l6.map j1e))),(14,(V.own 0 (p.1).length)),(16,(V.own 1 (p.2).length)),(17,(iV x89)),(116,(V.lst 1 (x92.map q9a))),(117,(iV ((x92.length:Nat):Int))),(118,(iV n100))],[(0,(Ob.arr 3 1 ((p.1).map q9a))),(1,(Ob.arr 3 1 ((p.2).map q9a)))],2⟩:St)) (fun k108 p=>k108 p.1 p.2=some r) (fun k108 h=>?_) ?_
      ·refine spC h rfl (fun hb111 h=>?_) (fun hb111 h=>?_)
       ·refine rn 6 rfl ?_
        refine ixo (a:=l101) h rfl rfl rfl (fun x112 hx113 h=>?_)
        refine ldp hx113 rfl rfl rfl rfl ?_
        refine rn 1 rfl ?_
        refine ixo (a:=l101) h rfl rfl rfl (fun x114 hx115 h=>?_)
        refine stS (w64 (x112+1)) hx115 rfl rfl rfl rfl rfl rfl ?_
        refine rn 4 rfl ?_
        refine q9e [(0,(iV x104))] [[(iV x104)]] q3v tZ3 rfl rfl rfl rfl q7a (q7g rfl q5i) rfl rfl (by simp) rfl ?_
        refine fo ?_
        refine apO q9a h rfl rfl rfl rfl rfl rfl rfl rfl (fun h=>?_)
        refine rn 2 rfl ?_
        exact jX ((l101.set x104.toNat (w64 (x112+1))),(l102++([x104]:List Int))) h (q9g 2 (fun i=>([0,3]:List Nat).getD i 0) _ _ (by decide) (q9k.get (.cons (Sub.imm (Imm.lst _ _)) (.cons (Sub.ownE rfl rfl (by simp)) (.cons (Sub.own rfl rfl) (.cons (Sub.imm (Imm.con _)) (.cons (Sub.imm (Imm.lst _ _)) (.cons (Sub.imm (Imm.con _)) (.cons (Sub.imm (Imm.con _)) .nil)))))))) (q6i.get (.cons rfl (q4b.rows (q3b q7b)) (.cons rfl (q4b.rows (q3b q7b)) .nil))) rfl)
       refine rn 1 rfl ?_
       exact jX (l101,l102) h (gr [0,1] rfl (hR rfl rfl (hR rfl rfl .nil)) rfl)
      rintro⟨l109,l110⟩ h
      refine rn 5 rfl ?_
      exact jX ((w64 (n100+1)),l109,l110) (hk7 _ h) (gr [0,1] rfl (hR rfl rfl (hR rfl rfl .nil)) rfl)
     replace h:=RG.f h hb103
     unfold z4w at h
     refine rn 1 rfl ?_
     exact jX (l101,l102) h (gr [0,1] rfl (hR rfl rfl (hR rfl rfl .nil)) rfl)
    rintro⟨l95,l96⟩ h
    refine rn 1 rfl ?_
    exact jX (l95,l96) h (gr [0,1] rfl (hR rfl rfl (hR rfl rfl .nil)) rfl)
   rintro⟨l87,l88⟩ h
   exact jX (l87,l88) h (gr [0,1] rfl (hR rfl rfl (hR rfl rfl .nil)) rfl)
  refine rn 1 rfl ?_
  exact jX l83 h (gr [0] rfl (hR rfl rfl .nil) rfl)
 intro l80 h
 refine rn 5 rfl ?_
 refine q0e (q8l 0 [6,14,140] rfl (q3b q7b) (List.forall_mem_cons.2 ⟨rfl,(List.forall_mem_cons.2 ⟨rfl,(List.forall_mem_cons.2 ⟨rfl,(fun _ hx=>nomatch hx)⟩)⟩)⟩) (List.length_map ..).symm) ?_
 refine fa ?_
 exact rt h rfl
theorem W95(F:Nat)(a1:q1b)(a2:q5c)(a3:(List Int))(a4:Int)(r:(q5j×q6c×Int))(h:M95 F a1 a2 a3 a4=some r):q5n Tryz.prog 95 [(V.iptr (q4a a1) 0),(V.iptr (q2c a2) 0),(V.lst 1 (a3.map q9a)),(iV a4)] (V.tup [(V.agg (q3c (r.1))),(V.agg (q6d (r.2.1))),(iV (r.2.2))]):=by
 refine pin (fun r=>(V.tup [(V.agg (q3c (r.1))),(V.agg (q6d (r.2.1))),(iV (r.2.2))])) r rfl Tryz.func95 rfl rfl rfl rfl rfl (fun w0 m0 hg=>?_)
 unfold M95 at h
 refine rn 15 rfl ?_
 refine ixl h rfl rfl (fun x5 hx6 h=>?_)
 refine rn 2 rfl ?_
 refine ln rfl rfl ?_
 refine rn 2 rfl ?_
 refine jK h (fun _:Unit=>(⟨[(3,(iV a4)),(8,(V.ptr 0 3 0 0)),(9,(V.ptr 1 4 0 0))],[(0,(Ob.arr 80 3 [[(sV ([]:B8)),(iV 0),(sV ([]:B8))]])),(1,(Ob.arr 109 4 [[(iV 0),(sV ([]:B8)),(sV ([]:B8)),(sV ([]:B8))]]))],2⟩:St)) (fun k7 (_:Unit)=>k7=some r) (fun k7 h=>?_) ?_
 ·refine rn 1 rfl ?_
  refine wl (A:=x5.Calls) 23 rfl (fun hA52=>?_)
  refine lC (fun(p:Int)=>(⟨[(0,(V.iptr (q4a a1) 0)),(1,(V.iptr (q2c a2) 0)),(2,(V.lst 1 (a3.map q9a))),(3,(iV a4)),(8,(V.ptr 0 3 0 0)),(9,(V.ptr 1 4 0 0)),(23,(V.lst 4 (x5.Calls.map q6d))),(24,(iV ((x5.Calls.length:Nat):Int))),(25,(iV p))],[(0,(Ob.arr 80 3 [[(sV ([]:B8)),(iV 0),(sV ([]:B8))]])),(1,(Ob.arr 109 4 [[(iV 0),(sV ([]:B8)),(sV ([]:B8)),(sV ([]:B8))]]))],2⟩:St)) (fun n p=>RG x5.Calls (fun tl nn=>z1r F a1 a2 a3 a4 k7 tl nn=some r) n p) (fun p h=>RG.zero h) (x5.Calls.length+1) 0 (RG.start h) (gr [0,1] rfl (hB rfl rfl rfl (hB rfl rfl rfl .nil)) rfl) (fun n n9 h=>?_)
  refine rn 5 rfl ?_
  refine spL rfl (fun hb10=>?_) (fun hb10=>?_)
  ·obtain⟨x12,tl,hx13,h,hk1⟩:=RG.t hA52 h hb10
   unfold z1r at h
   refine rn 2 rfl ?_
   refine jK h (fun _:Unit=>(⟨[(0,(V.iptr (q4a a1) 0)),(1,(V.iptr (q2c a2) 0)),(2,(V.lst 1 (a3.map q9a))),(3,(iV a4)),(8,(V.ptr 0 3 0 0)),(9,(V.ptr 1 4 0 0)),(23,(V.lst 4 (x5.Calls.map q6d))),(24,(iV ((x5.Calls.length:Nat):Int))),(25,(iV n9))],[(0,(Ob.arr 80 3 [[(sV ([]:B8)),(iV 0),(sV ([]:B8))]])),(1,(Ob.arr 109 4 [[(iV 0),(sV ([]:B8)),(sV ([]:B8)),(sV ([]:B8))]]))],2⟩:St)) (fun k11 (_:Unit)=>k11=some r) (fun k11 h=>?_) ?_
   ·refine rn 4 rfl ?_
    refine ixh hx13 rfl rfl ?_
    refine rn 7 rfl ?_
    refine dr mixed (vs 6 rfl (xD (OD.mk [(33,(V.imap (a1.on.map q5b))),(35,(sV x12.Feature))] [] [(36,(bV ((q6b a1.on x12.Feature).getD false)))] []) ⟨⟨rfl,rfl,trivial⟩,trivial⟩ (by exact fun S hn h hh=>q7d _ (bV false) (bV ((q6b a1.on x12.Feature).getD false)) q4j q6h j4m (q9f _) q7a h.1 .imm (.con h.2.1) ⟨_,rfl⟩ q7e (q3h a1.on x12.Feature) (q1f (q5g) (q6b a1.on x12.Feature) false) rfl (q8d ⟨rfl,rfl⟩)) rfl (vs 1 rfl .nil))) (by kernel_rfl) ?_
    refine spC h rfl (fun hb14 h=>?_) (fun hb14 h=>?_)
    ·refine rn 1 rfl ?_
     exact jX () h (gr [0,1] rfl (hB rfl rfl rfl (hB rfl rfl rfl .nil)) rfl)
    refine rn 2 rfl ?_
    refine bs h (fun hb15 h=>?_) (fun hb15 h=>?_)
    ·obtain⟨y16,hx17,h⟩:=bind_some h
     refine dr mixed (vs 4 rfl (cD rfl rfl rfl rfl (W156 F a1 a2 _ (by unfold M156;rw[if_pos hb15])) rfl (cD rfl rfl rfl rfl (W92 _ _ _ _ _ hx17) rfl (nD rfl rfl rfl (vs 1 rfl .nil))))) (by kernel_rfl) ?_
     refine jK h (fun _:Unit=>(⟨[(0,(V.iptr (q4a a1) 0)),(1,(V.iptr (q2c a2) 0)),(2,(V.lst 1 (a3.map q9a))),(3,(iV a4)),(8,(V.ptr 0 3 0 0)),(9,(V.ptr 1 4 0 0)),(23,(V.lst 4 (x5.Calls.map q6d))),(24,(iV ((x5.Calls.length:Nat):Int))),(25,(iV n9))],[(0,(Ob.arr 80 3 [[(sV ([]:B8)),(iV 0),(sV ([]:B8))]])),(1,(Ob.arr 109 4 [[(iV 0),(sV ([]:B8)),(sV ([]:B8)),(sV ([]:B8))]]))],2⟩:St)) (fun k18 (_:Unit)=>k18=some r) (fun k18 h=>?_) ?_
     ·refine rn 1 rfl ?_
      refine wl (A:=y16) 43 rfl (fun hA33=>?_)
      refine lC (fun(p:Int)=>(⟨[(0,(V.iptr (q4a a1) 0)),(1,(V.iptr (q2c a2) 0)),(2,(V.lst 1 (a3.map q9a))),(3,(iV a4)),(8,(V.ptr 0 3 0 0)),(9,(V.ptr 1 4 0 0)),(11,(iV n9)),(12,(V.ptr 2 4 0 0)),(23,(V.lst 4 (x5.Calls.map q6d))),(24,(iV ((x5.Calls.length:Nat):Int))),(25,(iV n9)),(43,(V.lst 1 (y16.map q9a))),(44,(iV ((y16.length:Nat):Int))),(45,(iV p))],[(0,(Ob.arr 80 3 [[(sV ([]:B8)),(iV 0),(sV ([]:B8))]])),(1,(Ob.arr 109 4 [[(iV 0),(sV ([]:B8)),(sV ([]:B8)),(sV ([]:B8))]])),(2,(Ob.arr 109 4 [(q6d x12)]))],3⟩:St)) (fun n p=>RG y16 (fun tl nn=>z1l F a1 a3 a4 n9 x12 k18 tl=some r) n p) (fun p h=>RG.zero h) (y16.length+1) 0 (RG.start h) (gr [0,1,2] rfl (hB rfl rfl rfl (hB rfl rfl rfl (hB rfl rfl rfl .nil))) rfl) (fun n n20 h=>?_)
      refine rn 5 rfl ?_
      refine spL rfl (fun hb21=>?_) (fun hb21=>?_)
      ·obtain⟨x22,tl,hx23,h,hk2⟩:=RG.t hA33 h hb21
       unfold z1l at h
       refine rn 5 rfl ?_
       refine ixh hx23 rfl rfl ?_
       obtain⟨x24,hx25,h⟩:=bind_some h
       obtain⟨x26,hx27,h⟩:=bind_some h
       refine rn 4 rfl ?_
       refine dr mixed (vs 2 rfl (iD hx25 rfl rfl rfl (vs 3 rfl (iD hx27 rfl rfl rfl (vs 3 rfl .nil))))) (by kernel_rfl) ?_
       refine spC h rfl (fun hb28 h=>?_) (fun hb28 h=>?_)
       ·obtain⟨x29,hx30,h⟩:=bind_some h
        obtain⟨x31,hx32,h⟩:=bind_some h
        refine rn 1 rfl ?_
        refine dr mixed (vs 6 rfl (iD hx30 rfl rfl rfl (vs 10 rfl (iD hx32 rfl rfl rfl (vs 8 rfl .nil))))) (by kernel_rfl) ?_
        exact rt h rfl
       refine rn 6 rfl ?_
       exact jX (w64 (n20+1)) (hk2 _ h) (gr [0,1,2] rfl (hB rfl rfl rfl (hB rfl rfl rfl (hB rfl rfl rfl .nil))) rfl)
      replace h:=RG.f h hb21
      unfold z1l at h
      refine rn 1 rfl ?_
      exact jX () h (gr [0,1] rfl (hB rfl rfl rfl (hB rfl rfl rfl .nil)) rfl)
     intro _ h
     refine rn 1 rfl ?_
     exact jX () h (gr [0,1] rfl (hB rfl rfl rfl (hB rfl rfl rfl .nil)) rfl)
    obtain⟨y34,hx35,h⟩:=bind_some h
    refine dr mixed (vs 4 rfl (cD rfl rfl rfl rfl (W156n a1 a2 hb15) rfl (cD rfl rfl rfl rfl (w1q _ _ _ _ hx35) rfl (nD rfl rfl rfl (vs 1 rfl .nil))))) (by kernel_rfl) ?_
    refine jK h (fun _:Unit=>(⟨[(0,(V.iptr (q4a a1) 0)),(1,(V.iptr (q2c a2) 0)),(2,(V.lst 1 (a3.map q9a))),(3,(iV a4)),(8,(V.ptr 0 3 0 0)),(9,(V.ptr 1 4 0 0)),(23,(V.lst 4 (x5.Calls.map q6d))),(24,(iV ((x5.Calls.length:Nat):Int))),(25,(iV n9))],[(0,(Ob.arr 80 3 [[(sV ([]:B8)),(iV 0),(sV ([]:B8))]])),(1,(Ob.arr 109 4 [[(iV 0),(sV ([]:B8)),(sV ([]:B8)),(sV ([]:B8))]]))],2⟩:St)) (fun k36 (_:Unit)=>k36=some r) (fun k36 h=>?_) ?_
    ·refine rn 1 rfl ?_
     refine wl (A:=y34) 43 rfl (fun hA51=>?_)
     refine lC (fun(p:Int)=>(⟨[(0,(V.iptr (q4a a1) 0)),(1,(V.iptr (q2c a2) 0)),(2,(V.lst 1 (a3.map q9a))),(3,(iV a4)),(8,(V.ptr 0 3 0 0)),(9,(V.ptr 1 4 0 0)),(11,(iV n9)),(12,(V.ptr 2 4 0 0)),(23,(V.lst 4 (x5.Calls.map q6d))),(24,(iV ((x5.Calls.length:Nat):Int))),(25,(iV n9)),(43,(V.lst 1 (y34.map q9a))),(44,(iV ((y34.length:Nat):Int))),(45,(iV p))],[(0,(Ob.arr 80 3 [[(sV ([]:B8)),(iV 0),(sV ([]:B8))]])),(1,(Ob.arr 109 4 [[(iV 0),(sV ([]:B8)),(sV ([]:B8)),(sV ([]:B8))]])),(2,(Ob.arr 109 4 [(q6d x12)]))],3⟩:St)) (fun n p=>RG y34 (fun tl nn=>j4g F a1 a3 a4 n9 x12 k36 tl=some r) n p) (fun p h=>RG.zero h) (y34.length+1) 0 (RG.start h) (gr [0,1,2] rfl (hB rfl rfl rfl (hB rfl rfl rfl (hB rfl rfl rfl .nil))) rfl) (fun n n38 h=>?_)
     refine rn 5 rfl ?_
     refine spL rfl (fun hb39=>?_) (fun hb39=>?_)
     ·obtain⟨x40,tl,hx41,h,hk3⟩:=RG.t hA51 h hb39
      unfold j4g at h
      refine rn 5 rfl ?_
      refine ixh hx41 rfl rfl ?_
      obtain⟨x42,hx43,h⟩:=bind_some h
      obtain⟨x44,hx45,h⟩:=bind_some h
      refine rn 4 rfl ?_
      refine dr mixed (vs 2 rfl (iD hx43 rfl rfl rfl (vs 3 rfl (iD hx45 rfl rfl rfl (vs 3 rfl .nil))))) (by kernel_rfl) ?_
      refine spC h rfl (fun hb46 h=>?_) (fun hb46 h=>?_)
      ·obtain⟨x47,hx48,h⟩:=bind_some h
       obtain⟨x49,hx50,h⟩:=bind_some h
       refine rn 1 rfl ?_
       refine dr mixed (vs 6 rfl (iD hx48 rfl rfl rfl (vs 10 rfl (iD hx50 rfl rfl rfl (vs 8 rfl .nil))))) (by kernel_rfl) ?_
       exact rt h rfl
      refine rn 6 rfl ?_
      exact jX (w64 (n38+1)) (hk3 _ h) (gr [0,1,2] rfl (hB rfl rfl rfl (hB rfl rfl rfl (hB rfl rfl rfl .nil))) rfl)
     replace h:=RG.f h hb39
     unfold j4g at h
     refine rn 1 rfl ?_
     exact jX () h (gr [0,1] rfl (hB rfl rfl rfl (hB rfl rfl rfl .nil)) rfl)
    intro _ h
    refine rn 1 rfl ?_
    exact jX () h (gr [0,1] rfl (hB rfl rfl rfl (hB rfl rfl rfl .nil)) rfl)
   intro _ h
   refine rn 4 rfl ?_
   exact jX (w64 (n9+1)) (hk1 _ h) (gr [0,1] rfl (hB rfl rfl rfl (hB rfl rfl rfl .nil)) rfl)
  replace h:=RG.f h hb10
  unfold z1r at h
  refine rn 1 rfl ?_
  exact jX () h (gr [0,1] rfl (hB rfl rfl rfl (hB rfl rfl rfl .nil)) rfl)
 intro _ h
 refine rn 9 rfl ?_
 exact rt h rfl
theorem W96(F:Nat)(a1:q1b)(a2:q5c)(a3:q6c)(a4:Int)(r:B8)(h:M96 F a1 a2 a3 a4=some r):q5n Tryz.prog 96 [(V.iptr (q4a a1) 0),(V.iptr (q2c a2) 0),(V.agg (q6d a3)),(iV a4)] (sV r):=by
 refine pin (fun r=>(sV r)) r rfl Tryz.func96 rfl rfl rfl rfl rfl (fun w0 m0 hg=>?_)
 unfold M96 at h
 refine rn 7 rfl ?_
 refine dr mixed (vs 6 rfl (xD (OD.mk [(14,(V.imap (a1.fitting.map q3l))),(16,(sV a3.Target))] [] [(17,(V.lst 1 (((q6b a1.fitting a3.Target).getD ([]:(List Int))).map q9a)))] []) ⟨⟨rfl,rfl,trivial⟩,trivial⟩ (by exact fun S hn h hh=>q7d _ (V.lst 1 (([]:(List Int)).map q9a)) (V.lst 1 (((q6b a1.fitting a3.Target).getD ([]:(List Int))).map q9a)) z3o q6h z6v (fun _=>.nil _ _ _) q7a h.1 .imm (.con h.2.1) ⟨_,rfl⟩ q0n (q9m a1.fitting a3.Target) (q1f (q6l) (q6b a1.fitting a3.Target) ([]:(List Int))) rfl (q8d ⟨rfl,rfl⟩)) rfl (nD rfl rfl rfl (vs 1 rfl .nil)))) (by kernel_rfl) ?_
 refine jK h (fun _:Unit=>(⟨[],[],0⟩:St)) (fun k5 (_:Unit)=>k5=some r) (fun k5 h=>?_) ?_
 ·refine rn 1 rfl ?_
  refine wl (A:=((q6b a1.fitting a3.Target).getD ([]:(List Int)))) 17 rfl (fun hA20=>?_)
  refine lC (fun(p:Int)=>(⟨[(0,(V.iptr (q4a a1) 0)),(1,(V.iptr (q2c a2) 0)),(3,(iV a4)),(6,(V.ptr 0 4 0 0)),(17,(V.lst 1 (((q6b a1.fitting a3.Target).getD ([]:(List Int))).map q9a))),(18,(iV ((((q6b a1.fitting a3.Target).getD ([]:(List Int))).length:Nat):Int))),(19,(iV p))],[(0,(Ob.arr 109 4 [(q6d a3)]))],1⟩:St)) (fun n p=>RG ((q6b a1.fitting a3.Target).getD ([]:(List Int))) (fun tl nn=>j3g F a1 a2 a3 a4 k5 tl=some r) n p) (fun p h=>RG.zero h) (((q6b a1.fitting a3.Target).getD ([]:(List Int))).length+1) 0 (RG.start h) (gr [0] rfl (hB rfl rfl rfl .nil) rfl) (fun n n7 h=>?_)
  refine rn 5 rfl ?_
  refine spL rfl (fun hb8=>?_) (fun hb8=>?_)
  ·obtain⟨x10,tl,hx11,h,hk1⟩:=RG.t hA20 h hb8
   unfold j3g at h
   refine rn 2 rfl ?_
   refine jK h (fun _:Unit=>(⟨[(0,(V.iptr (q4a a1) 0)),(1,(V.iptr (q2c a2) 0)),(3,(iV a4)),(6,(V.ptr 0 4 0 0)),(17,(V.lst 1 (((q6b a1.fitting a3.Target).getD ([]:(List Int))).map q9a))),(18,(iV ((((q6b a1.fitting a3.Target).getD ([]:(List Int))).length:Nat):Int))),(19,(iV n7))],[(0,(Ob.arr 109 4 [(q6d a3)]))],1⟩:St)) (fun k9 (_:Unit)=>k9=some r) (fun k9 h=>?_) ?_
   ·refine rn 3 rfl ?_
    refine ixh hx11 rfl rfl ?_
    refine rn 10 rfl ?_
    refine ixl h rfl rfl (fun x12 hx13 h=>?_)
    refine rn 2 rfl ?_
    refine spO 30 h rfl (fun hb14 h=>?_) (fun hb14 h=>?_)
    ·refine rn 3 rfl ?_
     refine cl h rfl rfl rfl (w9t _ _ _ _) rfl (fun y15 hx16 h=>?_)
     refine rn 4 rfl ?_
     refine spC h rfl (fun hb17 h=>?_) (fun hb17 h=>?_)
     ·refine rn 8 rfl ?_
      refine ixl h rfl rfl (fun x18 hx19 h=>?_)
      refine rn 4 rfl ?_
      exact rt h rfl
     refine rn 2 rfl ?_
     exact jX () h (gr [0] rfl (hB rfl rfl rfl .nil) rfl)
    refine rn 11 rfl ?_
    exact jX () h (gr [0] rfl (hB rfl rfl rfl .nil) rfl)
   intro _ h
   refine rn 4 rfl ?_
   exact jX (w64 (n7+1)) (hk1 _ h) (gr [0] rfl (hB rfl rfl rfl .nil) rfl)
  replace h:=RG.f h hb8
  unfold j3g at h
  refine rn 1 rfl ?_
  exact jX () h (g0 rfl rfl)
 intro _ h
 refine rn 4 rfl ?_
 exact rt h rfl
theorem W97(F:Nat)(a1:q1b)(a2:q5c)(a3:B8)(r:B8)(h:M97 F a1 a2 a3=some r):q5n Tryz.prog 97 [(V.iptr (q4a a1) 0),(V.iptr (q2c a2) 0),(sV a3)] (sV r):=by
 refine pin (fun r=>(sV r)) r rfl Tryz.func97 rfl rfl rfl rfl rfl (fun w0 m0 hg=>?_)
 unfold M97 at h
 refine rn 12 rfl ?_
 refine ln rfl rfl ?_
 refine rn 2 rfl ?_
 refine jK h (fun _:Unit=>(⟨[],[],0⟩:St)) (fun k4 (_:Unit)=>k4=some r) (fun k4 h=>?_) ?_
 ·refine rn 1 rfl ?_
  refine wl (A:=a1.g.Funcs) 13 rfl (fun hA17=>?_)
  refine lC (fun(p:Int)=>(⟨[(1,(V.iptr (q2c a2) 0)),(2,(sV a3)),(13,(V.lst 4 (a1.g.Funcs.map q8c))),(14,(iV ((a1.g.Funcs.length:Nat):Int))),(15,(iV p))],[],0⟩:St)) (fun n p=>RG a1.g.Funcs (fun tl nn=>j2g F a2 a3 k4 tl nn=some r) n p) (fun p h=>RG.zero h) (a1.g.Funcs.length+1) 0 (RG.start h) (g0 rfl rfl) (fun n n6 h=>?_)
  refine rn 5 rfl ?_
  refine spL rfl (fun hb7=>?_) (fun hb7=>?_)
  ·obtain⟨x9,tl,hx10,h,hk1⟩:=RG.t hA17 h hb7
   unfold j2g at h
   refine rn 2 rfl ?_
   refine jK h (fun _:Unit=>(⟨[(1,(V.iptr (q2c a2) 0)),(2,(sV a3)),(13,(V.lst 4 (a1.g.Funcs.map q8c))),(14,(iV ((a1.g.Funcs.length:Nat):Int))),(15,(iV n6))],[],0⟩:St)) (fun k8 (_:Unit)=>k8=some r) (fun k8 h=>?_) ?_
   ·refine rn 4 rfl ?_
    refine ixh hx10 rfl rfl ?_
    refine rn 12 rfl ?_
    refine ixl h rfl rfl (fun x11 hx12 h=>?_)
    refine rn 2 rfl ?_
    refine spO 27 h rfl (fun hb13 h=>?_) (fun hb13 h=>?_)
    ·refine rn 3 rfl ?_
     refine cl h rfl rfl rfl (W23 _ _ _) rfl (fun y14 hx15 h=>?_)
     refine rn 2 rfl ?_
     refine spC h rfl (fun hb16 h=>?_) (fun hb16 h=>?_)
     ·refine rn 6 rfl ?_
      exact rt h rfl
     refine rn 2 rfl ?_
     exact jX () h (g0 rfl rfl)
    refine rn 9 rfl ?_
    exact jX () h (g0 rfl rfl)
   intro _ h
   refine rn 4 rfl ?_
   exact jX (w64 (n6+1)) (hk1 _ h) (g0 rfl rfl)
  replace h:=RG.f h hb7
  unfold j2g at h
  refine rn 1 rfl ?_
  exact jX () h (g0 rfl rfl)
 intro _ h
 refine rn 4 rfl ?_
 exact rt h rfl
theorem W99(F:Nat)(a1:q0c)(a2:q0c)(r:Int)(h:M99 F a1 a2=some r):q5n Tryz.prog 99 [(V.agg (q9b a1)),(V.agg (q9b a2))] (iV r):=by
 refine pin (fun r=>(iV r)) r rfl Tryz.func99 rfl rfl rfl rfl rfl (fun w0 m0 hg=>?_)
 unfold M99 at h
 refine rn 12 rfl ?_
 refine cl h rfl rfl rfl (W100 _ _ _) rfl (fun y3 hx4 h=>?_)
 refine rn 2 rfl ?_
 exact rt h rfl
theorem W98(F:Nat)(a1:List q0c)(r:List q0c)(h:M98 F a1=some r):Mut Tryz.prog 98 [(V.own 0 a1.length),(V.fn (.func 99) [] [])] 1 [(0,(Ob.arr 76 2 (a1.map q9b)))] (v5s []) 1 [(0,(Ob.arr 76 2 (r.map q9b)))]:=by
 unfold M98 at h
 exact(w1b (g:=99) q9b (fun _=>rfl) (fun x=>(q1h _)) [] .nil (fun x3 y4=>M99 F x3 y4) a1 r rfl h (fun x3 y4 c hc=>W99 F x3 y4 c hc)
  (fun q6u h1 h2 cf h3 cb blk off cap d w h4 h5 h6 h7=>Go.Proofs.Tryz.slices_SortFunc_f98 2 Go.Proofs.Tryz.isAgg76 Go.Proofs.Tryz.sizeOf76 q6u h1 h2 cf h3 99 cb blk off cap d w (Go.Proofs.enters_of Go.Proofs.Tryz.func99 (by kernel_rfl) rfl) h4 h5 h6 h7)
  (fun p cap fv w=>Go.Proofs.Tryz.slices_SortFunc_none_f98 (α:=Nat) p cap fv w)).heap z5p
theorem W28(F:Nat)(a1:q7c)(a2:Int)(a3:(List B8))(a4:B8)(r:(q3e×Bool×Int))(h:M28 F a1 a2 a3 a4=some r):q5n Tryz.prog 28 [(V.agg (q3d a1)),(iV a2),(V.lst 1 (a3.map q6f)),(sV a4)] (V.tup [(V.agg (q0d (r.1))),(bV (r.2.1)),(iV (r.2.2))]):=by
 refine pin (fun r=>(V.tup [(V.agg (q0d (r.1))),(bV (r.2.1)),(iV (r.2.2))])) r rfl Tryz.func28 rfl rfl rfl rfl rfl (fun w0 m0 hg=>?_)
 unfold M28 at h
 refine rn 13 rfl ?_
 refine cl h rfl rfl rfl (W90 _ _ _ _ _) rfl (fun y5 hx6 h=>?_)
 refine rn 14 rfl ?_
 refine spC h rfl (fun hb7 h=>?_) (fun hb7 h=>?_)
 ·refine rn 8 rfl ?_
  exact rt h rfl
 obtain⟨x8,hx9,h⟩:=bind_some h
 refine rn 2 rfl ?_
 refine opC 11 hx9 rfl ?_
 refine rn 2 rfl ?_
 refine cl h rfl rfl rfl (W89 _ _ _) rfl (fun y10 hx11 h=>?_)
 obtain⟨x12,hx13,h⟩:=bind_some h
 refine rn 4 rfl ?_
 refine opC 14 hx13 rfl ?_
 refine rn 6 rfl ?_
 refine ixl h rfl rfl (fun x14 hx15 h=>?_)
 refine rn 3 rfl ?_
 refine spC h rfl (fun hb16 h=>?_) (fun hb16 h=>?_)
 ·refine rn 7 rfl ?_
  exact rt h rfl
 refine rn 6 rfl ?_
 refine cl h rfl rfl rfl (W94 _ _ _ _) rfl (fun y17 hx18 h=>?_)
 refine rn 11 rfl ?_
 refine ln rfl rfl ?_
 refine rn 2 rfl ?_
 refine jK h (fun(p:Int)=>(⟨[(4,(V.ptr 0 4 0 0)),(8,(V.ptr 1 3 0 0)),(11,(V.iptr (q4a x8) 0)),(12,(iV (y5.2.1))),(14,(V.iptr (q2c x12) 0)),(15,(V.lst 1 (y17.map q9a))),(16,(iV p))],[(0,(Ob.arr 27 4 [(q3d a1)])),(1,(Ob.arr 61 3 [[(sV ([]:B8)),nV,nV]]))],2⟩:St)) (fun k19 p=>k19 p=some r) (fun k19 h=>?_) ?_
 ·refine rn 1 rfl ?_
  refine wl (A:=a1.Entries) 58 rfl (fun hA41=>?_)
  refine lC (fun(p:Int×Int)=>(⟨[(4,(V.ptr 0 4 0 0)),(8,(V.ptr 1 3 0 0)),(11,(V.iptr (q4a x8) 0)),(12,(iV (y5.2.1))),(14,(V.iptr (q2c x12) 0)),(15,(V.lst 1 (y17.map q9a))),(16,(iV (p.1))),(58,(V.lst 1 (a1.Entries.map q6f))),(59,(iV ((a1.Entries.length:Nat):Int))),(60,(iV (p.2)))],[(0,(Ob.arr 27 4 [(q3d a1)])),(1,(Ob.arr 61 3 [[(sV ([]:B8)),nV,nV]]))],2⟩:St)) (fun n p=>RG a1.Entries (fun tl nn=>z7r F x8 y17 k19 tl p.1=some r) n p.2) (fun p h=>RG.zero h) (a1.Entries.length+1) ((-1),0) (RG.start h) (gr [0,1] rfl (hB rfl rfl rfl (hB rfl rfl rfl .nil)) rfl) (fun n p h=>?_)
  obtain⟨n23,n24⟩:=p
  refine rn 5 rfl ?_
  refine spL rfl (fun hb25=>?_) (fun hb25=>?_)
  ·obtain⟨x28,tl,hx29,h,hk1⟩:=RG.t hA41 h hb25
   unfold z7r at h
   refine rn 2 rfl ?_
   refine jK h (fun(p:Int)=>(⟨[(4,(V.ptr 0 4 0 0)),(8,(V.ptr 1 3 0 0)),(11,(V.iptr (q4a x8) 0)),(12,(iV (y5.2.1))),(14,(V.iptr (q2c x12) 0)),(15,(V.lst 1 (y17.map q9a))),(16,(iV p)),(58,(V.lst 1 (a1.Entries.map q6f))),(59,(iV ((a1.Entries.length:Nat):Int))),(60,(iV n24))],[(0,(Ob.arr 27 4 [(q3d a1)])),(1,(Ob.arr 61 3 [[(sV ([]:B8)),nV,nV]]))],2⟩:St)) (fun k26 p=>k26 p=some r) (fun k26 h=>?_) ?_
   ·refine rn 3 rfl ?_
    refine ixh hx29 rfl rfl ?_
    refine rn 10 rfl ?_
    refine q7d _ (iV 0) (iV ((q6b x8.funcs x28).getD 0)) q1o q6h j5m (q9f _) q7a rfl .imm (.con rfl) ⟨_,rfl⟩ q7f (q8g x8.funcs x28) (q1f (q1g) (q6b x8.funcs x28) 0) rfl ?_
    obtain⟨x30,hx31,h⟩:=bind_some h
    refine fo (rn 3 rfl ?_)
    refine bs h (fun hb32 h=>?_) (fun hb32 h=>?_)
    ·refine bs h (fun hb33 h=>?_) (fun hb33 h=>?_)
     ·refine dr mixed (vs 2 rfl (iD hx31 rfl rfl rfl (vs 2 rfl (vb hb32 rfl (vs 2 rfl (vb hb33 rfl (vs 11 rfl .nil))))))) (by kernel_rfl) ?_
      refine rn 6 rfl ?_
      exact jX ((q6b x8.funcs x28).getD 0) h (gr [0,1] rfl (hB rfl rfl rfl (hB rfl rfl rfl .nil)) rfl)
     obtain⟨x34,hx35,h⟩:=bind_some h
     obtain⟨x36,hx37,h⟩:=bind_some h
     refine dr mixed (vs 2 rfl (iD hx31 rfl rfl rfl (vs 2 rfl (vb hb32 rfl (vs 2 rfl (vb hb33 rfl (vs 2 rfl (iD hx35 rfl rfl rfl (vs 3 rfl (iD hx37 rfl rfl rfl (vs 4 rfl .nil))))))))))) (by kernel_rfl) ?_
     refine jK h (fun(p:Int)=>(⟨[(4,(V.ptr 0 4 0 0)),(8,(V.ptr 1 3 0 0)),(11,(V.iptr (q4a x8) 0)),(12,(iV (y5.2.1))),(14,(V.iptr (q2c x12) 0)),(15,(V.lst 1 (y17.map q9a))),(16,(iV p)),(58,(V.lst 1 (a1.Entries.map q6f))),(59,(iV ((a1.Entries.length:Nat):Int))),(60,(iV n24)),(87,(bV (decide (x34<x36)))),(88,(bV (decide (x34<x36))))],[(0,(Ob.arr 27 4 [(q3d a1)])),(1,(Ob.arr 61 3 [[(sV ([]:B8)),nV,nV]]))],2⟩:St)) (fun k38 p=>k38 p=some r) (fun k38 h=>?_) ?_
     ·refine spC h rfl (fun hb40 h=>?_) (fun hb40 h=>?_)
      ·refine rn 4 rfl ?_
       exact jX ((q6b x8.funcs x28).getD 0) h (gr [0,1] rfl (hB rfl rfl rfl (hB rfl rfl rfl .nil)) rfl)
      refine rn 1 rfl ?_
      exact jX n23 h (gr [0,1] rfl (hB rfl rfl rfl (hB rfl rfl rfl .nil)) rfl)
     intro n39 h
     refine rn 1 rfl ?_
     exact jX n39 h (gr [0,1] rfl (hB rfl rfl rfl (hB rfl rfl rfl .nil)) rfl)
    refine dr mixed (vs 2 rfl (iD hx31 rfl rfl rfl (vs 2 rfl (vb hb32 rfl (vs 14 rfl .nil))))) (by kernel_rfl) ?_
    refine rn 3 rfl ?_
    exact jX n23 h (gr [0,1] rfl (hB rfl rfl rfl (hB rfl rfl rfl .nil)) rfl)
   intro n27 h
   refine rn 4 rfl ?_
   exact jX (n27,(w64 (n24+1))) (hk1 _ h) (gr [0,1] rfl (hB rfl rfl rfl (hB rfl rfl rfl .nil)) rfl)
  replace h:=RG.f h hb25
  unfold z7r at h
  refine rn 1 rfl ?_
  exact jX n23 h (gr [0,1] rfl (hB rfl rfl rfl (hB rfl rfl rfl .nil)) rfl)
 intro n20 h
 refine rn 5 rfl ?_
 refine ixl h rfl rfl (fun x42 hx43 h=>?_)
 refine rn 17 rfl ?_
 refine jK h (fun(p:(List (B8×B8))×(List q5j))=>(⟨[(8,(V.ptr 0 3 0 0)),(20,(V.ptr 1 3 0 0)),(21,(V.map 2))],[(0,(Ob.arr 61 3 [[(sV ([]:B8)),nV,nV]])),(1,(Ob.arr 61 3 [[(sV x42.Name),(V.own 3 (p.2).length),nV]])),(2,(Ob.map ((p.1).map q8t))),(3,(Ob.arr 80 3 ((p.2).map q3c)))],4⟩:St)) (fun k44 p=>k44 p.1 p.2=some r) (fun k44 h=>?_) ?_
 ·refine rn 1 rfl ?_
  refine lC (fun(p:Int×(List (B8×B8))×(List q5j))=>(⟨[(8,(V.ptr 0 3 0 0)),(11,(V.iptr (q4a x8) 0)),(12,(iV (y5.2.1))),(14,(V.iptr (q2c x12) 0)),(15,(V.lst 1 (y17.map q9a))),(20,(V.ptr 1 3 0 0)),(21,(V.map 2)),(22,(iV (p.1)))],[(0,(Ob.arr 61 3 [[(sV ([]:B8)),nV,nV]])),(1,(Ob.arr 61 3 [[(sV x42.Name),(V.own 3 (p.2.2).length),nV]])),(2,(Ob.map ((p.2.1).map q8t))),(3,(Ob.arr 80 3 ((p.2.2).map q3c)))],4⟩:St)) (fun n p=>z4l F y5 x8 x12 y17 k44 n p.1 p.2.1 p.2.2=some r) (fun p h=>by simp[z4l] at h) F (n20,([]:List (B8×B8)),([]:List q5j)) h (q8h.trans (q7r 2 80 3 (Ob.arr 61 3 [[(sV x42.Name),(V.own 4 0),nV]]) (q4b.box (.cons Sub.keepNil (.cons Sub.mkNil (.cons Sub.keepNil .nil))))) (q9g 4 (fun i=>([1,2,3,4]:List Nat).getD i 0) _ _ (by decide) (q9k.get (.cons (Sub.ptr rfl rfl) (.cons (Sub.imm (Imm.iptr _ _)) (.cons (Sub.imm (Imm.con _)) (.cons (Sub.imm (Imm.iptr _ _)) (.cons (Sub.imm (Imm.lst _ _)) (.cons (Sub.ptr rfl rfl) (.cons (Sub.map rfl rfl) (.cons (Sub.imm (Imm.con _)) .nil))))))))) (q6i.get (.cons rfl (q4b.box (.cons (Sub.imm (Imm.con _)) (.cons (Sub.imm (Imm.con _)) (.cons (Sub.imm (Imm.con _)) .nil)))) (.cons rfl (q4b.box (.cons (Sub.imm (Imm.con _)) (.cons (Sub.ownE rfl rfl (by simp)) (.cons (Sub.imm (Imm.con _)) .nil)))) (.cons rfl (q4b.maps j0e) (.cons rfl (q4b.rows (q3b q7h)) .nil))))) rfl)) (fun n p h=>?_)
  obtain⟨n50,m51,l52⟩:=p
  unfold z4l at h
  refine rn 7 rfl ?_
  refine spC h rfl (fun hb53 h=>?_) (fun hb53 h=>?_)
  ·refine rn 8 rfl ?_
   refine cl h rfl rfl rfl (W95 _ _ _ _ _) rfl (fun y54 hx55 h=>?_)
   refine rn 18 rfl ?_
   refine spO 117 h rfl (fun hb56 h=>?_) (fun hb56 h=>?_)
   ·refine rn 5 rfl ?_
    refine jK h (fun(p:(List (B8×B8)))=>(⟨[(8,(V.ptr 0 3 0 0)),(11,(V.iptr (q4a x8) 0)),(12,(iV (y5.2.1))),(14,(V.iptr (q2c x12) 0)),(15,(V.lst 1 (y17.map q9a))),(20,(V.ptr 1 3 0 0)),(21,(V.map 2)),(23,(V.ptr 3 3 0 0)),(25,(iV (y54.2.2))),(120,(bV ((y54.2.1).Kind==2)))],[(0,(Ob.arr 61 3 [[(sV ([]:B8)),nV,nV]])),(1,(Ob.arr 61 3 [[(sV x42.Name),(V.own 4 l52.length),nV]])),(2,(Ob.map (p.map q8t))),(3,(Ob.arr 80 3 [(q3c (y54.1))])),(4,(Ob.arr 80 3 (l52.map q3c)))],5⟩:St)) (fun k57 p=>k57 p=some r) (fun k57 h=>?_) ?_
    ·refine spC h rfl (fun hb59 h=>?_) (fun hb59 h=>?_)
     ·refine rn 6 rfl ?_
      refine cl h rfl rfl rfl (W96 _ _ _ _ _) rfl (fun y60 hx61 h=>?_)
      refine rn 8 rfl ?_
      refine cl h rfl rfl rfl (W97 _ _ _ _) rfl (fun y62 hx63 h=>?_)
      refine q3f (es:=m51.map q8t) ((q0g m51 y60 y62).map q8t) v5x q6h q7a rfl rfl (.con rfl) ⟨_,rfl⟩ v6b rfl (v5b m51 y60 y62) ?_
      refine fo (rn 1 rfl ?_)
      exact jX (q0g m51 y60 y62) h (gr [0,1,2,4,3] rfl (hB rfl rfl rfl (hB rfl rfl rfl (hM rfl rfl (hB rfl rfl rfl (hR rfl rfl .nil))))) rfl)
     refine rn 1 rfl ?_
     exact jX m51 h (gr [0,1,2,4,3] rfl (hB rfl rfl rfl (hB rfl rfl rfl (hM rfl rfl (hB rfl rfl rfl (hR rfl rfl .nil))))) rfl)
    intro m58 h
    refine rn 4 rfl ?_
    refine q9e [(0,(V.agg (q3c (y54.1))))] [(q3c (y54.1))] v2y tZ80 rfl rfl rfl rfl q7a (q7g rfl q5i) rfl rfl (by simp) rfl ?_
    refine fo ?_
    refine apO q3c h rfl rfl rfl rfl rfl rfl rfl rfl (fun h=>?_)
    refine rn 6 rfl ?_
    exact jX ((y54.2.2),m58,(l52++([(y54.1)]:List q5j))) h (gr [0,1,2,6] rfl (hB rfl rfl rfl (hB rfl rfl rfl (hM rfl rfl (hR rfl rfl .nil)))) rfl)
   refine rn 11 rfl ?_
   refine q9e [(0,(V.agg (q3c (y54.1))))] [(q3c (y54.1))] v2y tZ80 rfl rfl rfl rfl q7a (q7g rfl q5i) rfl rfl (by simp) rfl ?_
   refine fo ?_
   refine apO q3c h rfl rfl rfl rfl rfl rfl rfl rfl (fun h=>?_)
   refine rn 6 rfl ?_
   exact jX ((y54.2.2),m51,(l52++([(y54.1)]:List q5j))) h (gr [0,1,2,7] rfl (hB rfl rfl rfl (hB rfl rfl rfl (hM rfl rfl (hR rfl rfl .nil)))) rfl)
  refine rn 1 rfl ?_
  exact jX (m51,l52) h (gr [0,1,2,3] rfl (hB rfl rfl rfl (hB rfl rfl rfl (hM rfl rfl (hR rfl rfl .nil)))) rfl)
 rintro⟨m45,l46⟩ h
 refine rn 4 rfl ?_
 refine q8f (q0w (es:=m45.map q8t) 2 rfl j0e (.put (t:=140) rfl Sub.frzM (.put (t:=21) rfl Sub.frzM .refl)) .refl) ?_
 refine z9i v5x q7a rfl rfl ?_
 refine fo (rn 2 rfl ?_)
 refine lC (fun(p:(List (B8×B8))×(List q0c))=>(⟨[(8,(V.ptr 0 3 0 0)),(20,(V.ptr 1 3 0 0)),(141,(V.ptr 2 1 0 0))],[(0,(Ob.arr 61 3 [[(sV ([]:B8)),nV,nV]])),(1,(Ob.arr 61 3 [[(sV x42.Name),(V.own 3 l46.length),(V.own 4 (p.2).length)]])),(2,(Ob.iter [] ((p.1).map q8t))),(3,(Ob.arr 80 3 (l46.map q3c))),(4,(Ob.arr 76 2 ((p.2).map q9b)))],5⟩:St)) (fun n p=>RM n p.1 (q5w F x42 l46 p.1 p.2=some r)) (fun p h=>RM.zero h) (m45.length+1) (m45,([]:List q0c)) (RM.start h) (q8h.trans (q7r 1 76 2 (Ob.arr 61 3 [[(sV x42.Name),(V.own 3 l46.length),(V.own 5 0)]]) (q4b.box (.cons Sub.keepNil (.cons Sub.keepNil (.cons Sub.mkNil .nil))))) (q9g 5 (fun i=>([0,1,4,3,5]:List Nat).getD i 0) _ _ (by decide) (q9k.get (.cons (Sub.ptr rfl rfl) (.cons (Sub.ptr rfl rfl) (.cons (Sub.ptr rfl rfl) .nil)))) (q6i.get (.cons rfl (q4b.box (.cons (Sub.imm (Imm.con _)) (.cons (Sub.imm (Imm.con _)) (.cons (Sub.imm (Imm.con _)) .nil)))) (.cons rfl (q4b.box (.cons (Sub.imm (Imm.con _)) (.cons (Sub.own rfl rfl) (.cons (Sub.ownE rfl rfl (by simp)) .nil)))) (.cons rfl q4b.itr (.cons rfl (q4b.rows (q3b q7h)) (.cons rfl (q4b.rows (q3b q1h)) .nil)))))) rfl)) (fun n p h=>?_)
 obtain⟨l68,l69⟩:=p
 refine rn 2 rfl ?_
 refine nxt rfl rfl q7a rfl (fun hl3=>?_) (fun e70 l71 hq3 hp3=>?_)
 ·replace h:=h.2
  subst hl3
  unfold q5w at h
  obtain⟨y73,hx74,h⟩:=bind_some h
  refine rn 9 rfl ?_
  refine ck h (fun hc75 h=>?_)
  refine q0k (V.tup []) [(V.own 4 l69.length),(V.fn (.func 99) [] [])] (fun i=>([4]:List Nat).getD i 0) (fun i=>([4]:List Nat).getD i 0) 5 5 [(4,(Ob.arr 76 2 (y73.map q9b)))] fOk98 q7a rfl (q4f rfl (q4f rfl q8k)) (.cons (Sub.own rfl rfl) (.cons (Sub.imm (Imm.fn .nil .nil)) .nil)) (.cons rfl (q4b.rows (q3b q1h)) .nil) (W98 F l69 y73 hx74) rfl rfl rfl rfl (Sub.immT (Imm.tup .nil)) (.cons rfl (q4b.rowsT (q3b q1h)) .nil) _ rfl ?_
  refine q8f (q0q 156 (V.own 4 y73.length) rfl (Sub.ownI hc75)) ?_
  refine q8f (j8d 1 (Ob.arr 61 3 [[(sV x42.Name),(V.own 3 l46.length),(V.own 4 y73.length)]]) rfl (q4b.box (.cons Sub.keepI (.cons Sub.keepI (.cons (Sub.ownI hc75) .nil))))) ?_
  refine fo (rn 8 rfl ?_)
  refine q0e (q7m 3 0 (Ob.arr 61 3 [[(sV x42.Name),(V.lst 3 (l46.map q3c)),(V.own 4 y73.length)]]) rfl (q3b q7h) (q4b.box (.cons Sub.keep (.cons (Sub.frzAll (rows:=l46.map q3c) (List.length_map ..).symm) (.cons Sub.keep .nil))))) ?_
  refine q0e (q7m 4 0 (Ob.arr 61 3 [[(sV x42.Name),(V.lst 3 (l46.map q3c)),(V.lst 2 (y73.map q9b))]]) rfl (q3b q1h) (q4b.box (.cons Sub.keep (.cons Sub.keep (.cons (Sub.frzAll (rows:=y73.map q9b) (List.length_map ..).symm) .nil))))) ?_
  refine fa ?_
  exact rt h rfl
 have hm3:=h
 replace h:=v8s hp3 h.2
 unfold q5w at h
 refine rn 8 rfl ?_
 refine z0j q7a rfl rfl rfl ?_
 refine fo (rn 11 rfl ?_)
 refine q9e [(0,(V.agg [(sV e70.1),(sV e70.2)]))] [[(sV e70.1),(sV e70.2)]] v1y tZ76 rfl rfl rfl rfl q7a (q7g rfl q5i) rfl rfl (by simp) rfl ?_
 refine fo ?_
 refine apO q9b h rfl rfl rfl rfl rfl rfl rfl rfl (fun h=>?_)
 refine rn 4 rfl ?_
 exact jX (l71,(l69++([(q0c.mk e70.1 e70.2)]:List q0c))) (RM.step hm3 hq3 h) (gr [0,1,2,3,6] rfl (hB rfl rfl rfl (hB rfl rfl rfl (hI rfl rfl (hR rfl rfl (hR rfl rfl .nil))))) rfl)
theorem W72(F:Nat)(a1:q7c)(r:q4d)(h:M72 F a1=some r):q5n Tryz.prog 72 [(V.agg (q3d a1))] (V.agg (q8i r)):=by
 refine pin (fun r=>(V.agg (q8i r))) r rfl Tryz.func72 rfl rfl rfl rfl rfl (fun w0 m0 hg=>?_)
 unfold M72 at h
 refine rn 19 rfl ?_
 refine ln rfl rfl ?_
 refine rn 2 rfl ?_
 refine jK h (fun(p:(List (B8×(List (B8×Bool)))))=>(⟨[(1,(V.ptr 0 4 0 0)),(2,(V.ptr 1 3 0 0)),(3,(V.ptr 2 3 0 0))],[(0,(Ob.arr 27 4 [(q3d a1)])),(1,(Ob.arr 138 3 [[(V.con (.map none)),(V.con (.map none)),(V.con (.map none))]])),(2,(Ob.arr 138 3 [[(V.map 3),(V.map 4),(V.map 5)]])),(3,(Ob.map (p.map q4k))),(4,(Ob.map (([]:List (B8×Bool)).map q5b))),(5,(Ob.map (([]:List (B8×Bool)).map q5b)))],6⟩:St)) (fun k2 p=>k2 p=some r) (fun k2 h=>?_) ?_
 ·refine rn 1 rfl ?_
  refine wl (A:=a1.Ifaces) 17 rfl (fun hA24=>?_)
  refine lC (fun(p:Int×(List (B8×(List (B8×Bool)))))=>(⟨[(1,(V.ptr 0 4 0 0)),(2,(V.ptr 1 3 0 0)),(3,(V.ptr 2 3 0 0)),(17,(V.lst 2 (a1.Ifaces.map q2d))),(18,(iV ((a1.Ifaces.length:Nat):Int))),(19,(iV (p.1)))],[(0,(Ob.arr 27 4 [(q3d a1)])),(1,(Ob.arr 138 3 [[(V.con (.map none)),(V.con (.map none)),(V.con (.map none))]])),(2,(Ob.arr 138 3 [[(V.map 3),(V.map 4),(V.map 5)]])),(3,(Ob.map ((p.2).map q4k))),(4,(Ob.map (([]:List (B8×Bool)).map q5b))),(5,(Ob.map (([]:List (B8×Bool)).map q5b)))],6⟩:St)) (fun n p=>RG a1.Ifaces (fun tl nn=>j1i F k2 tl p.2=some r) n p.1) (fun p h=>RG.zero h) (a1.Ifaces.length+1) (0,([]:List (B8×(List (B8×Bool))))) (RG.start h) (gr [0,1,5,2,3,4] rfl (hB rfl rfl rfl (hB rfl rfl rfl (hB rfl rfl rfl (hM rfl rfl (hM rfl rfl (hM rfl rfl .nil)))))) rfl) (fun n p h=>?_)
  obtain⟨n6,m7⟩:=p
  refine rn 5 rfl ?_
  refine spL rfl (fun hb8=>?_) (fun hb8=>?_)
  ·obtain⟨x11,tl,hx12,h,hk1⟩:=RG.t hA24 h hb8
   unfold j1i at h
   refine rn 2 rfl ?_
   refine jK h (fun(p:(List (B8×(List (B8×Bool)))))=>(⟨[(1,(V.ptr 0 4 0 0)),(2,(V.ptr 1 3 0 0)),(3,(V.ptr 2 3 0 0)),(17,(V.lst 2 (a1.Ifaces.map q2d))),(18,(iV ((a1.Ifaces.length:Nat):Int))),(19,(iV n6))],[(0,(Ob.arr 27 4 [(q3d a1)])),(1,(Ob.arr 138 3 [[(V.con (.map none)),(V.con (.map none)),(V.con (.map none))]])),(2,(Ob.arr 138 3 [[(V.map 3),(V.map 4),(V.map 5)]])),(3,(Ob.map (p.map q4k))),(4,(Ob.map (([]:List (B8×Bool)).map q5b))),(5,(Ob.map (([]:List (B8×Bool)).map q5b)))],6⟩:St)) (fun k9 p=>k9 p=some r) (fun k9 h=>?_) ?_
   ·refine rn 3 rfl ?_
    refine ixh hx12 rfl rfl ?_
    refine rn 11 rfl ?_
    refine q2p (id2:=7) (o:=(V.map 7)) (dv:=(.dmp (([]:List (B8×Bool)).map q5b))) (ob:=(.map (([]:List (B8×Bool)).map q5b))) ((q0g m7 x11.Name ([]:List (B8×Bool))).map q4k) j5t q6h q7a rfl rfl (.con rfl) ⟨_,rfl⟩ z6k rfl (by simp[ovl]) rfl rfl (j9n z6t ([]:List (B8×Bool))) (v1n q4k (fun k=>str k) q5b (fun _=>rfl) q4l x11.Name ([]:List (B8×Bool)) m7) ?_
    refine fo (rn 5 rfl ?_)
    refine ln rfl rfl ?_
    refine rn 2 rfl ?_
    refine jK h (fun(p:(List (B8×(List (B8×Bool)))))=>(⟨[(1,(V.ptr 0 4 0 0)),(2,(V.ptr 1 3 0 0)),(3,(V.ptr 2 3 0 0)),(17,(V.lst 2 (a1.Ifaces.map q2d))),(18,(iV ((a1.Ifaces.length:Nat):Int))),(19,(iV n6))],[(0,(Ob.arr 27 4 [(q3d a1)])),(1,(Ob.arr 138 3 [[(V.con (.map none)),(V.con (.map none)),(V.con (.map none))]])),(2,(Ob.arr 138 3 [[(V.map 3),(V.map 4),(V.map 5)]])),(3,(Ob.map (p.map q4k))),(4,(Ob.map (([]:List (B8×Bool)).map q5b))),(5,(Ob.map (([]:List (B8×Bool)).map q5b)))],6⟩:St)) (fun k13 p=>k13 p=some r) (fun k13 h=>?_) ?_
    ·refine rn 1 rfl ?_
     refine wl (A:=x11.Methods) 29 rfl (fun hA23=>?_)
     refine lC (fun(p:Int×(List (B8×(List (B8×Bool)))))=>(⟨[(1,(V.ptr 0 4 0 0)),(2,(V.ptr 1 3 0 0)),(3,(V.ptr 2 3 0 0)),(5,(V.ptr 3 2 0 0)),(17,(V.lst 2 (a1.Ifaces.map q2d))),(18,(iV ((a1.Ifaces.length:Nat):Int))),(19,(iV n6)),(29,(V.lst 1 (x11.Methods.map q6f))),(30,(iV ((x11.Methods.length:Nat):Int))),(31,(iV (p.1)))],[(0,(Ob.arr 27 4 [(q3d a1)])),(1,(Ob.arr 138 3 [[(V.con (.map none)),(V.con (.map none)),(V.con (.map none))]])),(2,(Ob.arr 138 3 [[(V.map 4),(V.map 5),(V.map 6)]])),(3,(Ob.arr 98 2 [(q2d x11)])),(4,(Ob.map ((p.2).map q4k))),(5,(Ob.map (([]:List (B8×Bool)).map q5b))),(6,(Ob.map (([]:List (B8×Bool)).map q5b)))],7⟩:St)) (fun n p=>RG x11.Methods (fun tl nn=>j0i F x11 k13 tl p.2=some r) n p.1) (fun p h=>RG.zero h) (x11.Methods.length+1) (0,(q0g m7 x11.Name ([]:List (B8×Bool)))) (RG.start h) (gr [0,1,2,6,3,4,5] rfl (hB rfl rfl rfl (hB rfl rfl rfl (hB rfl rfl rfl (hB rfl rfl rfl (hM rfl rfl (hM rfl rfl (hM rfl rfl .nil))))))) rfl) (fun n p h=>?_)
     obtain⟨n17,m18⟩:=p
     refine rn 5 rfl ?_
     refine spL rfl (fun hb19=>?_) (fun hb19=>?_)
     ·obtain⟨x20,tl,hx21,h,hk2⟩:=RG.t hA23 h hb19
      unfold j0i at h
      refine rn 5 rfl ?_
      refine ixh hx21 rfl rfl ?_
      refine rn 8 rfl ?_
      refine ck h (fun hc22 h=>?_)
      refine j3f j5t q6h q7a rfl rfl (.con rfl) ⟨_,rfl⟩ z6k (v1a q4k (fun k=>str k) q5b 7 (fun _=>rfl) q4l x11.Name m18 hc22) rfl rfl ?_
      refine fo (rn 1 rfl ?_)
      refine q3f (es:=((q6b m18 x11.Name).getD []).map q5b) ((q0g ((q6b m18 x11.Name).getD []) x20 true).map q5b) q4j q6h q7a rfl rfl (.con rfl) ⟨_,rfl⟩ q7e rfl (q1i ((q6b m18 x11.Name).getD []) x20 true) ?_
      refine q8f (v6t 4 7 q4k (fun k=>str k) q5b (fun _=>rfl) hc22 rfl rfl rfl z6t) ?_
      refine fo (rn 6 rfl ?_)
      exact jX ((w64 (n17+1)),(q0g m18 x11.Name (q0g ((q6b m18 x11.Name).getD []) x20 true))) (hk2 _ h) (gr [0,1,2,3,4,5,6] rfl (hB rfl rfl rfl (hB rfl rfl rfl (hB rfl rfl rfl (hB rfl rfl rfl (hM rfl rfl (hM rfl rfl (hM rfl rfl .nil))))))) rfl)
     replace h:=RG.f h hb19
     unfold j0i at h
     refine rn 1 rfl ?_
     exact jX m18 h (gr [0,1,2,4,5,6] rfl (hB rfl rfl rfl (hB rfl rfl rfl (hB rfl rfl rfl (hM rfl rfl (hM rfl rfl (hM rfl rfl .nil)))))) rfl)
    intro m14 h
    refine rn 1 rfl ?_
    exact jX m14 h (gr [0,1,2,3,4,5] rfl (hB rfl rfl rfl (hB rfl rfl rfl (hB rfl rfl rfl (hM rfl rfl (hM rfl rfl (hM rfl rfl .nil)))))) rfl)
   intro m10 h
   refine rn 4 rfl ?_
   exact jX ((w64 (n6+1)),m10) (hk1 _ h) (gr [0,1,2,3,4,5] rfl (hB rfl rfl rfl (hB rfl rfl rfl (hB rfl rfl rfl (hM rfl rfl (hM rfl rfl (hM rfl rfl .nil)))))) rfl)
  replace h:=RG.f h hb8
  unfold j1i at h
  refine rn 1 rfl ?_
  exact jX m7 h (gr [0,1,2,3,4,5] rfl (hB rfl rfl rfl (hB rfl rfl rfl (hB rfl rfl rfl (hM rfl rfl (hM rfl rfl (hM rfl rfl .nil)))))) rfl)
 intro m3 h
 refine rn 5 rfl ?_
 refine ln rfl rfl ?_
 refine rn 2 rfl ?_
 refine jK h (fun(p:(List (B8×Bool)))=>(⟨[(1,(V.ptr 0 4 0 0)),(2,(V.ptr 1 3 0 0)),(3,(V.ptr 2 3 0 0))],[(0,(Ob.arr 27 4 [(q3d a1)])),(1,(Ob.arr 138 3 [[(V.con (.map none)),(V.con (.map none)),(V.con (.map none))]])),(2,(Ob.arr 138 3 [[(V.map 3),(V.map 4),(V.map 5)]])),(3,(Ob.map (m3.map q4k))),(4,(Ob.map (p.map q5b))),(5,(Ob.map (([]:List (B8×Bool)).map q5b)))],6⟩:St)) (fun k25 p=>k25 p=some r) (fun k25 h=>?_) ?_
 ·refine rn 1 rfl ?_
  refine wl (A:=a1.Types) 44 rfl (fun hA34=>?_)
  refine lC (fun(p:Int×(List (B8×Bool)))=>(⟨[(1,(V.ptr 0 4 0 0)),(2,(V.ptr 1 3 0 0)),(3,(V.ptr 2 3 0 0)),(44,(V.lst 2 (a1.Types.map q6e))),(45,(iV ((a1.Types.length:Nat):Int))),(46,(iV (p.1)))],[(0,(Ob.arr 27 4 [(q3d a1)])),(1,(Ob.arr 138 3 [[(V.con (.map none)),(V.con (.map none)),(V.con (.map none))]])),(2,(Ob.arr 138 3 [[(V.map 3),(V.map 4),(V.map 5)]])),(3,(Ob.map (m3.map q4k))),(4,(Ob.map ((p.2).map q5b))),(5,(Ob.map (([]:List (B8×Bool)).map q5b)))],6⟩:St)) (fun n p=>RG a1.Types (fun tl nn=>j9h F k25 tl p.2=some r) n p.1) (fun p h=>RG.zero h) (a1.Types.length+1) (0,([]:List (B8×Bool))) (RG.start h) (gr [0,1,2,3,4,5] rfl (hB rfl rfl rfl (hB rfl rfl rfl (hB rfl rfl rfl (hM rfl rfl (hM rfl rfl (hM rfl rfl .nil)))))) rfl) (fun n p h=>?_)
  obtain⟨n29,m30⟩:=p
  refine rn 5 rfl ?_
  refine spL rfl (fun hb31=>?_) (fun hb31=>?_)
  ·obtain⟨x32,tl,hx33,h,hk3⟩:=RG.t hA34 h hb31
   unfold j9h at h
   refine rn 5 rfl ?_
   refine ixh hx33 rfl rfl ?_
   refine rn 9 rfl ?_
   refine q3f (es:=m30.map q5b) ((q0g m30 x32.Name true).map q5b) q4j q6h q7a rfl rfl (.con rfl) ⟨_,rfl⟩ q7e rfl (q1i m30 x32.Name true) ?_
   refine fo (rn 6 rfl ?_)
   exact jX ((w64 (n29+1)),(q0g m30 x32.Name true)) (hk3 _ h) (gr [0,1,2,3,4,5] rfl (hB rfl rfl rfl (hB rfl rfl rfl (hB rfl rfl rfl (hM rfl rfl (hM rfl rfl (hM rfl rfl .nil)))))) rfl)
  replace h:=RG.f h hb31
  unfold j9h at h
  refine rn 1 rfl ?_
  exact jX m30 h (gr [0,1,2,3,4,5] rfl (hB rfl rfl rfl (hB rfl rfl rfl (hB rfl rfl rfl (hM rfl rfl (hM rfl rfl (hM rfl rfl .nil)))))) rfl)
 intro m26 h
 refine rn 5 rfl ?_
 refine ln rfl rfl ?_
 refine rn 2 rfl ?_
 refine jK h (fun(p:(List (B8×Bool)))=>(⟨[(2,(V.ptr 0 3 0 0)),(3,(V.ptr 1 3 0 0))],[(0,(Ob.arr 138 3 [[(V.con (.map none)),(V.con (.map none)),(V.con (.map none))]])),(1,(Ob.arr 138 3 [[(V.map 2),(V.map 3),(V.map 4)]])),(2,(Ob.map (m3.map q4k))),(3,(Ob.map (m26.map q5b))),(4,(Ob.map (p.map q5b)))],5⟩:St)) (fun k35 p=>k35 p=some r) (fun k35 h=>?_) ?_
 ·refine rn 1 rfl ?_
  refine wl (A:=a1.Funcs) 56 rfl (fun hA44=>?_)
  refine lC (fun(p:Int×(List (B8×Bool)))=>(⟨[(2,(V.ptr 0 3 0 0)),(3,(V.ptr 1 3 0 0)),(56,(V.lst 4 (a1.Funcs.map q8c))),(57,(iV ((a1.Funcs.length:Nat):Int))),(58,(iV (p.1)))],[(0,(Ob.arr 138 3 [[(V.con (.map none)),(V.con (.map none)),(V.con (.map none))]])),(1,(Ob.arr 138 3 [[(V.map 2),(V.map 3),(V.map 4)]])),(2,(Ob.map (m3.map q4k))),(3,(Ob.map (m26.map q5b))),(4,(Ob.map ((p.2).map q5b)))],5⟩:St)) (fun n p=>RG a1.Funcs (fun tl nn=>j8h F k35 tl p.2=some r) n p.1) (fun p h=>RG.zero h) (a1.Funcs.length+1) (0,([]:List (B8×Bool))) (RG.start h) (gr [1,2,3,4,5] rfl (hB rfl rfl rfl (hB rfl rfl rfl (hM rfl rfl (hM rfl rfl (hM rfl rfl .nil))))) rfl) (fun n p h=>?_)
  obtain⟨n39,m40⟩:=p
  refine rn 5 rfl ?_
  refine spL rfl (fun hb41=>?_) (fun hb41=>?_)
  ·obtain⟨x42,tl,hx43,h,hk4⟩:=RG.t hA44 h hb41
   unfold j8h at h
   refine rn 5 rfl ?_
   refine ixh hx43 rfl rfl ?_
   refine rn 9 rfl ?_
   refine q3f (es:=m40.map q5b) ((q0g m40 x42.Name true).map q5b) q4j q6h q7a rfl rfl (.con rfl) ⟨_,rfl⟩ q7e rfl (q1i m40 x42.Name true) ?_
   refine fo (rn 6 rfl ?_)
   exact jX ((w64 (n39+1)),(q0g m40 x42.Name true)) (hk4 _ h) (gr [0,1,2,3,4] rfl (hB rfl rfl rfl (hB rfl rfl rfl (hM rfl rfl (hM rfl rfl (hM rfl rfl .nil))))) rfl)
  replace h:=RG.f h hb41
  unfold j8h at h
  refine rn 1 rfl ?_
  exact jX m40 h (gr [0,1,2,3,4] rfl (hB rfl rfl rfl (hB rfl rfl rfl (hM rfl rfl (hM rfl rfl (hM rfl rfl .nil))))) rfl)
 intro m36 h
 refine rn 5 rfl ?_
 refine q0e (z9d 2 0 (m3.map q6q) (Ob.arr 138 3 [[(V.imap (m3.map q6q)),(V.map 3),(V.map 4)]]) rfl (by simp) (v9g z1q _) (q4b.box (.cons Sub.frzM (.cons Sub.keepM (.cons Sub.keepM .nil))))) ?_
 refine q0e (q1l 3 0 (Ob.arr 138 3 [[(V.imap (m3.map q6q)),(V.imap (m26.map q5b)),(V.map 4)]]) rfl q0m (q4b.box (.cons Sub.keepM (.cons Sub.frzM (.cons Sub.keepM .nil))))) ?_
 refine q0e (q1l 4 0 (Ob.arr 138 3 [[(V.imap (m3.map q6q)),(V.imap (m26.map q5b)),(V.imap (m36.map q5b))]]) rfl q0m (q4b.box (.cons Sub.keepM (.cons Sub.keepM (.cons Sub.frzM .nil))))) ?_
 refine fa ?_
 exact rt h rfl
theorem W82(F:Nat)(a1:B8)(r:Bool)(h:M82 F a1=some r):q5n Tryz.prog 82 [(sV a1)] (bV r):=by
 refine pin (fun r=>(bV r)) r rfl Tryz.func82 rfl rfl rfl rfl rfl (fun w0 m0 hg=>?_)
 unfold M82 at h
 refine rn 9 rfl ?_
 refine jK h (fun _:Unit=>(⟨[(0,(sV a1))],[],0⟩:St)) (fun k2 (_:Unit)=>k2=some r) (fun k2 h=>?_) ?_
 ·refine rn 1 rfl ?_
  refine ck h (fun hA15 h=>?_)
  refine lC (fun(p:Int)=>(⟨[(0,(sV a1)),(3,(iV p))],[],0⟩:St)) (fun n p=>RC (a1.length:Int) (fun tl nn=>j6h F a1 k2 tl nn=some r) n p) (fun p h=>RC.zero h) (Int.toNat (a1.length:Int)+1) 0 (RC.start h) (g0 rfl rfl) (fun n n4 h=>?_)
  refine rn 8 rfl ?_
  refine spL rfl (fun hb5=>?_) (fun hb5=>?_)
  ·obtain⟨tl,h,hk1⟩:=RC.t hA15 h hb5
   unfold j6h at h
   refine rn 7 rfl ?_
   refine ixs h rfl rfl (fun c6 hx7 h=>?_)
   refine rn 2 rfl ?_
   refine spO 14 h rfl (fun hb8 h=>?_) (fun hb8 h=>?_)
   ·refine rn 17 rfl ?_
    exact rt h rfl
   refine rn 2 rfl ?_
   refine ixs h rfl rfl (fun c9 hx10 h=>?_)
   refine rn 3 rfl ?_
   refine spO 20 h rfl (fun hb11 h=>?_) (fun hb11 h=>?_)
   ·refine rn 11 rfl ?_
    exact rt h rfl
   refine rn 2 rfl ?_
   refine ixs h rfl rfl (fun c12 hx13 h=>?_)
   refine rn 3 rfl ?_
   refine spC h rfl (fun hb14 h=>?_) (fun hb14 h=>?_)
   ·refine rn 4 rfl ?_
    exact rt h rfl
   refine rn 7 rfl ?_
   exact jX (w64 (n4+1)) (hk1 _ h) (g0 rfl rfl)
  replace h:=RC.f h hb5
  unfold j6h at h
  refine rn 1 rfl ?_
  exact jX () h (g0 rfl rfl)
 intro _ h
 refine rn 6 rfl ?_
 refine spO 29 h rfl (fun hb16 h=>?_) (fun hb16 h=>?_)
 ·refine rn 6 rfl ?_
  exact rt h rfl
 refine rn 6 rfl ?_
 exact rt h rfl
theorem W139(F:Nat)(a1:(List B8))(a2:Int)(r:Int)(h:w2j F a1 a2=some r):q5n Tryz.prog 139 [(V.lst 1 (a1.map q6f)),(iV a2)] (iV r):=by
 refine pin (fun r=>(iV r)) r rfl Tryz.func139 rfl rfl rfl rfl rfl (fun w0 m0 hg=>?_)
 unfold w2j at h
 refine rn 6 rfl ?_
 refine bs h (fun hb3 h=>?_) (fun hb3 h=>?_)
 ·obtain⟨x4,hx5,h⟩:=bind_some h
  obtain⟨x6,hx7,h⟩:=bind_some h
  refine dr mixed (vs 2 rfl (vb hb3 rfl (vs 2 rfl (iD hx5 rfl rfl rfl (vs 4 rfl (iD hx7 rfl rfl rfl (vs 3 rfl .nil))))))) (by kernel_rfl) ?_
  refine spC h rfl (fun hb8 h=>?_) (fun hb8 h=>?_)
  ·refine rn 4 rfl ?_
   exact rt h rfl
  refine rn 5 rfl ?_
  exact rt h rfl
 refine dr mixed (vs 2 rfl (vb hb3 rfl (vs 11 rfl .nil))) (by kernel_rfl) ?_
 refine rn 6 rfl ?_
 exact rt h rfl
end Go.Proofs.YtpbkggamiipdmaaGreat
