/- Part of the proof: R4W4a. -/
import Derived.Test.YtjofofmllnpkpaaGreatDoorSPvQ
import Derived.Test.YtjofofmllnpkpaaGreatDoorSEI
import Derived.Test.YtjofofmllnpkpaaGreatDoorSREr
import Derived.KernelRfl
namespace Go.Proofs.YtjofofmllnpkpaaGreatDoor
open Go Go.Pv
set_option linter.unusedVariables false
set_option maxRecDepth 100000
variable{mx:Int}
theorem W60(F:Nat)(a1:TGraph)(a2:Bool)(r:Treach_checker)(h:M60 F a1 a2=some r):PureG (gl mx) Tryz.prog 60 [(V.agg (encTGraph a1)),(bV a2)] (V.agg (encTreach_checker r)):=by
 refine pin (fun r=>(V.agg (encTreach_checker r))) r rfl Tryz.func60 rfl rfl rfl rfl rfl (fun w0 m0 hg=>?_)
 unfold M60 at h
 refine rn 20 rfl ?_
 refine ln rfl rfl ?_
 refine rn 2 rfl ?_
 refine jK h (fun(p:(List ((List UInt8)×TIface)))=>(⟨[(2,(V.ptr 0 4 0 0)),(4,(V.ptr 1 4 0 0)),(5,(V.ptr 2 4 0 0))],[(0,(Ob.arr 27 4 [(encTGraph a1)])),(1,(Ob.arr 117 4 [[(bV false),(V.con (.map none)),(V.con (.map none)),(V.con (.map none))]])),(2,(Ob.arr 117 4 [[(bV a2),(V.map 3),(V.map 4),(V.map 5)]])),(3,(Ob.map (p.map encM9_56))),(4,(Ob.map (([]:List ((List UInt8)×Bool)).map encM9_4))),(5,(Ob.map (([]:List ((List UInt8)×Bool)).map encM9_4)))],6⟩:St)) (fun k3 p=>k3 p=some r) (fun k3 h=>?_) ?_
 ·refine rn 1 rfl ?_
  refine wl (A:=a1.Ifaces) 18 rfl (fun hA12=>?_)
  refine lC (fun(p:Int×(List ((List UInt8)×TIface)))=>(⟨[(2,(V.ptr 0 4 0 0)),(4,(V.ptr 1 4 0 0)),(5,(V.ptr 2 4 0 0)),(18,(V.lst 2 (a1.Ifaces.map encTIface))),(19,(iV ((a1.Ifaces.length:Nat):Int))),(20,(iV (p.1)))],[(0,(Ob.arr 27 4 [(encTGraph a1)])),(1,(Ob.arr 117 4 [[(bV false),(V.con (.map none)),(V.con (.map none)),(V.con (.map none))]])),(2,(Ob.arr 117 4 [[(bV a2),(V.map 3),(V.map 4),(V.map 5)]])),(3,(Ob.map ((p.2).map encM9_56))),(4,(Ob.map (([]:List ((List UInt8)×Bool)).map encM9_4))),(5,(Ob.map (([]:List ((List UInt8)×Bool)).map encM9_4)))],6⟩:St)) (fun n p=>RG a1.Ifaces (fun tl nn=>M60_L1 F k3 tl p.2=some r) n p.1) (fun p h=>RG.zero h) (a1.Ifaces.length+1) (0,([]:List ((List UInt8)×TIface))) (RG.start h) (gr [0,1,5,2,3,4] rfl (hB rfl rfl rfl (hB rfl rfl rfl (hB rfl rfl rfl (hM rfl rfl (hM rfl rfl (hM rfl rfl .nil)))))) rfl) (fun n p h=>?_)
  obtain⟨n7,m8⟩:=p
  refine rn 5 rfl ?_
  refine spL rfl (fun hb9=>?_) (fun hb9=>?_)
  ·obtain⟨x10,tl,hx11,h,hk1⟩:=RG.t hA12 h hb9
   unfold M60_L1 at h
   refine rn 5 rfl ?_
   refine ixh hx11 rfl rfl ?_
   refine rn 10 rfl ?_
   refine aops_mapUpdate (es:=m8.map encM9_56) ((mput m8 x10.Name x10).map encM9_56) tMap114 tKey9 wants_none rfl rfl (.con rfl) ⟨_,rfl⟩ encM9_56_good rfl (encM9_56_puts m8 x10.Name x10) ?_
   refine fo (rn 6 rfl ?_)
   exact jX ((w64 (n7+1)),(mput m8 x10.Name x10)) (hk1 _ h) (gr [0,1,2,3,4,5] rfl (hB rfl rfl rfl (hB rfl rfl rfl (hB rfl rfl rfl (hM rfl rfl (hM rfl rfl (hM rfl rfl .nil)))))) rfl)
  replace h:=RG.f h hb9
  unfold M60_L1 at h
  refine rn 1 rfl ?_
  exact jX m8 h (gr [0,1,2,3,4,5] rfl (hB rfl rfl rfl (hB rfl rfl rfl (hB rfl rfl rfl (hM rfl rfl (hM rfl rfl (hM rfl rfl .nil)))))) rfl)
 intro m4 h
 refine rn 5 rfl ?_
 refine ln rfl rfl ?_
 refine rn 2 rfl ?_
 refine jK h (fun(p:(List ((List UInt8)×Bool)))=>(⟨[(2,(V.ptr 0 4 0 0)),(4,(V.ptr 1 4 0 0)),(5,(V.ptr 2 4 0 0))],[(0,(Ob.arr 27 4 [(encTGraph a1)])),(1,(Ob.arr 117 4 [[(bV false),(V.con (.map none)),(V.con (.map none)),(V.con (.map none))]])),(2,(Ob.arr 117 4 [[(bV a2),(V.map 3),(V.map 4),(V.map 5)]])),(3,(Ob.map (m4.map encM9_56))),(4,(Ob.map (p.map encM9_4))),(5,(Ob.map (([]:List ((List UInt8)×Bool)).map encM9_4)))],6⟩:St)) (fun k13 p=>k13 p=some r) (fun k13 h=>?_) ?_
 ·refine rn 1 rfl ?_
  refine wl (A:=a1.Types) 31 rfl (fun hA22=>?_)
  refine lC (fun(p:Int×(List ((List UInt8)×Bool)))=>(⟨[(2,(V.ptr 0 4 0 0)),(4,(V.ptr 1 4 0 0)),(5,(V.ptr 2 4 0 0)),(31,(V.lst 2 (a1.Types.map encTType))),(32,(iV ((a1.Types.length:Nat):Int))),(33,(iV (p.1)))],[(0,(Ob.arr 27 4 [(encTGraph a1)])),(1,(Ob.arr 117 4 [[(bV false),(V.con (.map none)),(V.con (.map none)),(V.con (.map none))]])),(2,(Ob.arr 117 4 [[(bV a2),(V.map 3),(V.map 4),(V.map 5)]])),(3,(Ob.map (m4.map encM9_56))),(4,(Ob.map ((p.2).map encM9_4))),(5,(Ob.map (([]:List ((List UInt8)×Bool)).map encM9_4)))],6⟩:St)) (fun n p=>RG a1.Types (fun tl nn=>M60_L2 F k13 tl p.2=some r) n p.1) (fun p h=>RG.zero h) (a1.Types.length+1) (0,([]:List ((List UInt8)×Bool))) (RG.start h) (gr [0,1,2,3,4,5] rfl (hB rfl rfl rfl (hB rfl rfl rfl (hB rfl rfl rfl (hM rfl rfl (hM rfl rfl (hM rfl rfl .nil)))))) rfl) (fun n p h=>?_)
  obtain⟨n17,m18⟩:=p
  refine rn 5 rfl ?_
  refine spL rfl (fun hb19=>?_) (fun hb19=>?_)
  ·obtain⟨x20,tl,hx21,h,hk2⟩:=RG.t hA22 h hb19
   unfold M60_L2 at h
   refine rn 5 rfl ?_
   refine ixh hx21 rfl rfl ?_
   refine rn 9 rfl ?_
   refine aops_mapUpdate (es:=m18.map encM9_4) ((mput m18 x20.Name true).map encM9_4) tMap115 tKey9 wants_none rfl rfl (.con rfl) ⟨_,rfl⟩ encM9_4_good rfl (encM9_4_puts m18 x20.Name true) ?_
   refine fo (rn 6 rfl ?_)
   exact jX ((w64 (n17+1)),(mput m18 x20.Name true)) (hk2 _ h) (gr [0,1,2,3,4,5] rfl (hB rfl rfl rfl (hB rfl rfl rfl (hB rfl rfl rfl (hM rfl rfl (hM rfl rfl (hM rfl rfl .nil)))))) rfl)
  replace h:=RG.f h hb19
  unfold M60_L2 at h
  refine rn 1 rfl ?_
  exact jX m18 h (gr [0,1,2,3,4,5] rfl (hB rfl rfl rfl (hB rfl rfl rfl (hB rfl rfl rfl (hM rfl rfl (hM rfl rfl (hM rfl rfl .nil)))))) rfl)
 intro m14 h
 refine rn 5 rfl ?_
 refine ln rfl rfl ?_
 refine rn 2 rfl ?_
 refine jK h (fun(p:(List ((List UInt8)×Bool)))=>(⟨[(4,(V.ptr 0 4 0 0)),(5,(V.ptr 1 4 0 0))],[(0,(Ob.arr 117 4 [[(bV false),(V.con (.map none)),(V.con (.map none)),(V.con (.map none))]])),(1,(Ob.arr 117 4 [[(bV a2),(V.map 2),(V.map 3),(V.map 4)]])),(2,(Ob.map (m4.map encM9_56))),(3,(Ob.map (m14.map encM9_4))),(4,(Ob.map (p.map encM9_4)))],5⟩:St)) (fun k23 p=>k23 p=some r) (fun k23 h=>?_) ?_
 ·refine rn 1 rfl ?_
  refine wl (A:=a1.Funcs) 43 rfl (fun hA32=>?_)
  refine lC (fun(p:Int×(List ((List UInt8)×Bool)))=>(⟨[(4,(V.ptr 0 4 0 0)),(5,(V.ptr 1 4 0 0)),(43,(V.lst 4 (a1.Funcs.map encTFunc))),(44,(iV ((a1.Funcs.length:Nat):Int))),(45,(iV (p.1)))],[(0,(Ob.arr 117 4 [[(bV false),(V.con (.map none)),(V.con (.map none)),(V.con (.map none))]])),(1,(Ob.arr 117 4 [[(bV a2),(V.map 2),(V.map 3),(V.map 4)]])),(2,(Ob.map (m4.map encM9_56))),(3,(Ob.map (m14.map encM9_4))),(4,(Ob.map ((p.2).map encM9_4)))],5⟩:St)) (fun n p=>RG a1.Funcs (fun tl nn=>M60_L3 F k23 tl p.2=some r) n p.1) (fun p h=>RG.zero h) (a1.Funcs.length+1) (0,([]:List ((List UInt8)×Bool))) (RG.start h) (gr [1,2,3,4,5] rfl (hB rfl rfl rfl (hB rfl rfl rfl (hM rfl rfl (hM rfl rfl (hM rfl rfl .nil))))) rfl) (fun n p h=>?_)
  obtain⟨n27,m28⟩:=p
  refine rn 5 rfl ?_
  refine spL rfl (fun hb29=>?_) (fun hb29=>?_)
  ·obtain⟨x30,tl,hx31,h,hk3⟩:=RG.t hA32 h hb29
   unfold M60_L3 at h
   refine rn 5 rfl ?_
   refine ixh hx31 rfl rfl ?_
   refine rn 9 rfl ?_
   refine aops_mapUpdate (es:=m28.map encM9_4) ((mput m28 x30.Name true).map encM9_4) tMap115 tKey9 wants_none rfl rfl (.con rfl) ⟨_,rfl⟩ encM9_4_good rfl (encM9_4_puts m28 x30.Name true) ?_
   refine fo (rn 6 rfl ?_)
   exact jX ((w64 (n27+1)),(mput m28 x30.Name true)) (hk3 _ h) (gr [0,1,2,3,4] rfl (hB rfl rfl rfl (hB rfl rfl rfl (hM rfl rfl (hM rfl rfl (hM rfl rfl .nil))))) rfl)
  replace h:=RG.f h hb29
  unfold M60_L3 at h
  refine rn 1 rfl ?_
  exact jX m28 h (gr [0,1,2,3,4] rfl (hB rfl rfl rfl (hB rfl rfl rfl (hM rfl rfl (hM rfl rfl (hM rfl rfl .nil))))) rfl)
 intro m24 h
 refine rn 5 rfl ?_
 refine awp_ghost (ghost_frzMC 2 0 (Ob.arr 117 4 [[(bV a2),(V.imap (m4.map encM9_56)),(V.map 3),(V.map 4)]]) rfl encM9_56_imm (ObSub.box (.cons Sub.keepM (.cons Sub.frzM (.cons Sub.keepM (.cons Sub.keepM .nil)))))) ?_
 refine awp_ghost (ghost_frzMC 3 0 (Ob.arr 117 4 [[(bV a2),(V.imap (m4.map encM9_56)),(V.imap (m14.map encM9_4)),(V.map 4)]]) rfl encM9_4_imm (ObSub.box (.cons Sub.keepM (.cons Sub.keepM (.cons Sub.frzM (.cons Sub.keepM .nil)))))) ?_
 refine awp_ghost (ghost_frzMC 4 0 (Ob.arr 117 4 [[(bV a2),(V.imap (m4.map encM9_56)),(V.imap (m14.map encM9_4)),(V.imap (m24.map encM9_4))]]) rfl encM9_4_imm (ObSub.box (.cons Sub.keepM (.cons Sub.keepM (.cons Sub.keepM (.cons Sub.frzM .nil)))))) ?_
 refine fa ?_
 exact rt h rfl
theorem W126(F:Nat)(a1:(List UInt8))(r:Bool)(h:M126 F a1=some r):PureG (gl mx) Tryz.prog 126 [(sV a1)] (bV r):=by
 refine pin (fun r=>(bV r)) r rfl Tryz.func126 rfl rfl rfl rfl rfl (fun w0 m0 hg=>?_)
 unfold M126 at h
 refine rn 11 rfl ?_
 refine jK h (fun _:Unit=>(⟨[(0,(sV a1))],[],0⟩:St)) (fun k2 (_:Unit)=>k2=some r) (fun k2 h=>?_) ?_
 ·refine rn 1 rfl ?_
  refine ck h (fun hA15 h=>?_)
  refine lC (fun(p:Int)=>(⟨[(0,(sV a1)),(5,(iV (a1.length:Int))),(6,(iV p))],[],0⟩:St)) (fun n p=>RC (a1.length:Int) (fun tl nn=>M126_L1 F a1 k2 tl nn=some r) n p) (fun p h=>RC.zero h) (Int.toNat (a1.length:Int)+1) 0 (RC.start h) (g0 rfl rfl) (fun n n4 h=>?_)
  refine rn 5 rfl ?_
  refine spL rfl (fun hb5=>?_) (fun hb5=>?_)
  ·obtain⟨tl,h,hk1⟩:=RC.t hA15 h hb5
   unfold M126_L1 at h
   refine rn 12 rfl ?_
   refine ixs h rfl rfl (fun c6 hx7 h=>?_)
   refine rn 2 rfl ?_
   refine spO 13 h rfl (fun hb8 h=>?_) (fun hb8 h=>?_)
   ·refine rn 17 rfl ?_
    exact rt h rfl
   refine rn 2 rfl ?_
   refine ixs h rfl rfl (fun c9 hx10 h=>?_)
   refine rn 3 rfl ?_
   refine spO 19 h rfl (fun hb11 h=>?_) (fun hb11 h=>?_)
   ·refine rn 11 rfl ?_
    exact rt h rfl
   refine rn 2 rfl ?_
   refine ixs h rfl rfl (fun c12 hx13 h=>?_)
   refine rn 3 rfl ?_
   refine spC h rfl (fun hb14 h=>?_) (fun hb14 h=>?_)
   ·refine rn 4 rfl ?_
    exact rt h rfl
   refine rn 6 rfl ?_
   exact jX (w64 (n4+1)) (hk1 _ h) (g0 rfl rfl)
  replace h:=RC.f h hb5
  unfold M126_L1 at h
  refine rn 1 rfl ?_
  exact jX () h (g0 rfl rfl)
 intro _ h
 refine rn 5 rfl ?_
 refine spO 28 h rfl (fun hb16 h=>?_) (fun hb16 h=>?_)
 ·refine rn 6 rfl ?_
  exact rt h rfl
 refine rn 6 rfl ?_
 exact rt h rfl
theorem W125(F:Nat)(a1:(List UInt8))(a2:(List UInt8))(a3:Bool)(r:Int)(h:M125 F a1 a2 a3=some r):PureG (gl mx) Tryz.prog 125 [(sV a1),(sV a2),(bV a3)] (iV r):=by
 refine pin (fun r=>(iV r)) r rfl Tryz.func125 rfl rfl rfl rfl rfl (fun w0 m0 hg=>?_)
 unfold M125 at h
 refine rn 9 rfl ?_
 refine cl h rfl rfl rfl (W126 _ _) rfl (fun y4 hx5 h=>?_)
 refine rn 3 rfl ?_
 refine jK h (fun _:Unit=>(⟨[],[],0⟩:St)) (fun k6 (_:Unit)=>k6=some r) (fun k6 h=>?_) ?_
 ·refine spC h rfl (fun hb7 h=>?_) (fun hb7 h=>?_)
  ·refine rn 4 rfl ?_
   exact rt h rfl
  refine rn 5 rfl ?_
  refine spO 14 h rfl (fun hb8 h=>?_) (fun hb8 h=>?_)
  ·refine rn 6 rfl ?_
   refine spC h rfl (fun hb9 h=>?_) (fun hb9 h=>?_)
   ·refine rn 4 rfl ?_
    exact rt h rfl
   refine rn 1 rfl ?_
   exact jX () h (g0 rfl rfl)
  refine rn 8 rfl ?_
  exact jX () h (g0 rfl rfl)
 intro _ h
 refine rn 5 rfl ?_
 exact rt h rfl
theorem W89(F:Nat)(a1:Treach_checker)(a2:(List TIface))(r:Int)(h:M89 F a1 a2=some r):PureG (gl mx) Tryz.prog 89 [(V.agg (encTreach_checker a1)),(V.lst 2 (a2.map encTIface))] (iV r):=by
 refine pin (fun r=>(iV r)) r rfl Tryz.func89 rfl rfl rfl rfl rfl (fun w0 m0 hg=>?_)
 unfold M89 at h
 refine rn 13 rfl ?_
 refine ln rfl rfl ?_
 refine rn 2 rfl ?_
 refine jK h (fun _:Unit=>(⟨[],[],0⟩:St)) (fun k3 (_:Unit)=>k3=some r) (fun k3 h=>?_) ?_
 ·refine rn 1 rfl ?_
  refine wl (A:=a2) 1 rfl (fun hA30=>?_)
  refine lC (fun(p:(List UInt8)×Int)=>(⟨[(5,(sV (p.1))),(13,(V.lst 2 (a2.map encTIface))),(14,(iV ((a2.length:Nat):Int))),(15,(iV (p.2)))],[],0⟩:St)) (fun n p=>RG a2 (fun tl nn=>M89_L1 F k3 tl nn p.1=some r) n p.2) (fun p h=>RG.zero h) (a2.length+1) (([]:List UInt8),0) (RG.start h) (g0 rfl rfl) (fun n p h=>?_)
  obtain⟨s6,n7⟩:=p
  refine rn 5 rfl ?_
  refine spL rfl (fun hb8=>?_) (fun hb8=>?_)
  ·obtain⟨x11,tl,hx12,h,hk1⟩:=RG.t hA30 h hb8
   unfold M89_L1 at h
   refine rn 2 rfl ?_
   refine jK h (fun(p:(List UInt8))=>(⟨[(5,(sV p)),(13,(V.lst 2 (a2.map encTIface))),(14,(iV ((a2.length:Nat):Int))),(15,(iV n7))],[],0⟩:St)) (fun k9 p=>k9 p=some r) (fun k9 h=>?_) ?_
   ·refine rn 4 rfl ?_
    refine ixh hx12 rfl rfl ?_
    refine rn 13 rfl ?_
    refine cl h rfl rfl rfl (W125 _ _ _ _) rfl (fun y13 hx14 h=>?_)
    refine rn 7 rfl ?_
    refine spC h rfl (fun hb15 h=>?_) (fun hb15 h=>?_)
    ·refine rn 5 rfl ?_
     exact rt h rfl
    refine rn 13 rfl ?_
    refine ln rfl rfl ?_
    refine rn 3 rfl ?_
    refine spC h rfl (fun hb16 h=>?_) (fun hb16 h=>?_)
    ·refine rn 4 rfl ?_
     exact rt h rfl
    refine rn 4 rfl ?_
    refine ln rfl rfl ?_
    refine rn 3 rfl ?_
    refine spC h rfl (fun hb17 h=>?_) (fun hb17 h=>?_)
    ·refine rn 4 rfl ?_
     exact rt h rfl
    refine rn 10 rfl ?_
    refine ln rfl rfl ?_
    refine rn 2 rfl ?_
    refine jK h (fun _:Unit=>(⟨[(5,(sV x11.Name)),(13,(V.lst 2 (a2.map encTIface))),(14,(iV ((a2.length:Nat):Int))),(15,(iV n7))],[],0⟩:St)) (fun k18 (_:Unit)=>k18=some r) (fun k18 h=>?_) ?_
    ·refine rn 1 rfl ?_
     refine wl (A:=x11.Methods) 33 rfl (fun hA29=>?_)
     refine lC (fun(p:(List UInt8)×Int)=>(⟨[(5,(sV x11.Name)),(9,(sV (p.1))),(13,(V.lst 2 (a2.map encTIface))),(14,(iV ((a2.length:Nat):Int))),(15,(iV n7)),(42,(V.lst 1 (x11.Methods.map encS))),(43,(iV ((x11.Methods.length:Nat):Int))),(44,(iV (p.2)))],[],0⟩:St)) (fun n p=>RG x11.Methods (fun tl nn=>M89_L2 F k18 tl nn p.1=some r) n p.2) (fun p h=>RG.zero h) (x11.Methods.length+1) (([]:List UInt8),0) (RG.start h) (g0 rfl rfl) (fun n p h=>?_)
     obtain⟨s21,n22⟩:=p
     refine rn 5 rfl ?_
     refine spL rfl (fun hb23=>?_) (fun hb23=>?_)
     ·obtain⟨x24,tl,hx25,h,hk2⟩:=RG.t hA29 h hb23
      unfold M89_L2 at h
      refine rn 6 rfl ?_
      refine ixh hx25 rfl rfl ?_
      refine rn 11 rfl ?_
      refine cl h rfl rfl rfl (W125 _ _ _ _) rfl (fun y26 hx27 h=>?_)
      refine rn 7 rfl ?_
      refine spC h rfl (fun hb28 h=>?_) (fun hb28 h=>?_)
      ·refine rn 5 rfl ?_
       exact rt h rfl
      refine rn 10 rfl ?_
      exact jX (x24,(w64 (n22+1))) (hk2 _ h) (g0 rfl rfl)
     replace h:=RG.f h hb23
     unfold M89_L2 at h
     refine rn 1 rfl ?_
     exact jX () h (g0 rfl rfl)
    intro _ h
    refine rn 1 rfl ?_
    exact jX x11.Name h (g0 rfl rfl)
   intro s10 h
   refine rn 4 rfl ?_
   exact jX (s10,(w64 (n7+1))) (hk1 _ h) (g0 rfl rfl)
  replace h:=RG.f h hb8
  unfold M89_L1 at h
  refine rn 1 rfl ?_
  exact jX () h (g0 rfl rfl)
 intro _ h
 refine rn 4 rfl ?_
 exact rt h rfl
theorem W90(F:Nat)(a1:Treach_checker)(a2:(List TType))(r:Int)(h:M90 F a1 a2=some r):PureG (gl mx) Tryz.prog 90 [(V.agg (encTreach_checker a1)),(V.lst 2 (a2.map encTType))] (iV r):=by
 refine pin (fun r=>(iV r)) r rfl Tryz.func90 rfl rfl rfl rfl rfl (fun w0 m0 hg=>?_)
 unfold M90 at h
 refine rn 13 rfl ?_
 refine ln rfl rfl ?_
 refine rn 2 rfl ?_
 refine jK h (fun _:Unit=>(⟨[],[],0⟩:St)) (fun k3 (_:Unit)=>k3=some r) (fun k3 h=>?_) ?_
 ·refine rn 1 rfl ?_
  refine wl (A:=a2) 1 rfl (fun hA33=>?_)
  refine lC (fun(p:(List UInt8)×Int)=>(⟨[(2,(V.ptr 0 4 0 0)),(5,(sV (p.1))),(13,(V.lst 2 (a2.map encTType))),(14,(iV ((a2.length:Nat):Int))),(15,(iV (p.2)))],[(0,(Ob.arr 117 4 [(encTreach_checker a1)]))],1⟩:St)) (fun n p=>RG a2 (fun tl nn=>M90_L1 F a1 k3 tl nn p.1=some r) n p.2) (fun p h=>RG.zero h) (a2.length+1) (([]:List UInt8),0) (RG.start h) (gr [0] rfl (hB rfl rfl rfl .nil) rfl) (fun n p h=>?_)
  obtain⟨s6,n7⟩:=p
  refine rn 5 rfl ?_
  refine spL rfl (fun hb8=>?_) (fun hb8=>?_)
  ·obtain⟨x11,tl,hx12,h,hk1⟩:=RG.t hA33 h hb8
   unfold M90_L1 at h
   refine rn 2 rfl ?_
   refine jK h (fun(p:(List UInt8))=>(⟨[(2,(V.ptr 0 4 0 0)),(5,(sV p)),(13,(V.lst 2 (a2.map encTType))),(14,(iV ((a2.length:Nat):Int))),(15,(iV n7))],[(0,(Ob.arr 117 4 [(encTreach_checker a1)]))],1⟩:St)) (fun k9 p=>k9 p=some r) (fun k9 h=>?_) ?_
   ·refine rn 4 rfl ?_
    refine ixh hx12 rfl rfl ?_
    refine rn 13 rfl ?_
    refine cl h rfl rfl rfl (W125 _ _ _ _) rfl (fun y13 hx14 h=>?_)
    refine rn 7 rfl ?_
    refine spC h rfl (fun hb15 h=>?_) (fun hb15 h=>?_)
    ·refine rn 5 rfl ?_
     exact rt h rfl
    refine rn 12 rfl ?_
    refine ln rfl rfl ?_
    refine rn 2 rfl ?_
    refine spC h rfl (fun hb16 h=>?_) (fun hb16 h=>?_)
    ·refine rn 4 rfl ?_
     exact rt h rfl
    refine rn 9 rfl ?_
    refine ln rfl rfl ?_
    refine rn 2 rfl ?_
    refine jK h (fun _:Unit=>(⟨[(2,(V.ptr 0 4 0 0)),(5,(sV x11.Name)),(13,(V.lst 2 (a2.map encTType))),(14,(iV ((a2.length:Nat):Int))),(15,(iV n7))],[(0,(Ob.arr 117 4 [(encTreach_checker a1)]))],1⟩:St)) (fun k17 (_:Unit)=>k17=some r) (fun k17 h=>?_) ?_
    ·refine rn 1 rfl ?_
     refine wl (A:=x11.Methods) 32 rfl (fun hA32=>?_)
     refine lC (fun(p:(List UInt8)×Int)=>(⟨[(2,(V.ptr 0 4 0 0)),(5,(sV x11.Name)),(9,(sV (p.1))),(13,(V.lst 2 (a2.map encTType))),(14,(iV ((a2.length:Nat):Int))),(15,(iV n7)),(36,(V.lst 2 (x11.Methods.map encTMethod))),(37,(iV ((x11.Methods.length:Nat):Int))),(38,(iV (p.2)))],[(0,(Ob.arr 117 4 [(encTreach_checker a1)]))],1⟩:St)) (fun n p=>RG x11.Methods (fun tl nn=>M90_L2 F a1 k17 tl nn p.1=some r) n p.2) (fun p h=>RG.zero h) (x11.Methods.length+1) (([]:List UInt8),0) (RG.start h) (gr [0] rfl (hB rfl rfl rfl .nil) rfl) (fun n p h=>?_)
     obtain⟨s20,n21⟩:=p
     refine rn 5 rfl ?_
     refine spL rfl (fun hb22=>?_) (fun hb22=>?_)
     ·obtain⟨x25,tl,hx26,h,hk2⟩:=RG.t hA32 h hb22
      unfold M90_L2 at h
      refine rn 2 rfl ?_
      refine jK h (fun(p:(List UInt8))=>(⟨[(2,(V.ptr 0 4 0 0)),(5,(sV x11.Name)),(9,(sV p)),(13,(V.lst 2 (a2.map encTType))),(14,(iV ((a2.length:Nat):Int))),(15,(iV n7)),(36,(V.lst 2 (x11.Methods.map encTMethod))),(37,(iV ((x11.Methods.length:Nat):Int))),(38,(iV n21))],[(0,(Ob.arr 117 4 [(encTreach_checker a1)]))],1⟩:St)) (fun k23 p=>k23 p=some r) (fun k23 h=>?_) ?_
      ·refine rn 4 rfl ?_
       refine ixh hx26 rfl rfl ?_
       refine rn 13 rfl ?_
       refine cl h rfl rfl rfl (W125 _ _ _ _) rfl (fun y27 hx28 h=>?_)
       refine rn 7 rfl ?_
       refine spC h rfl (fun hb29 h=>?_) (fun hb29 h=>?_)
       ·refine rn 5 rfl ?_
        exact rt h rfl
       refine rn 13 rfl ?_
       refine spO 57 h rfl (fun hb30 h=>?_) (fun hb30 h=>?_)
       ·refine rn 4 rfl ?_
        refine aops_lookup _ (bV false) (bV ((mget a1.funcs x25.Func).getD false)) tMap115 tKey9 tZo4 (irel_con _) (wants_some (c:=true) (b:=true) 57 rfl rfl rfl) rfl .imm (.con rfl) ⟨_,rfl⟩ encM9_4_good (encM9_4_look a1.funcs x25.Func) (getD_map (encM9_4_val) (mget a1.funcs x25.Func) false) rfl ?_
        refine fo (rn 3 rfl ?_)
        refine spC h rfl (fun hb31 h=>?_) (fun hb31 h=>?_)
        ·refine rn 4 rfl ?_
         exact rt h rfl
        refine rn 2 rfl ?_
        exact jX x25.Name h (gr [0] rfl (hB rfl rfl rfl .nil) rfl)
       refine rn 11 rfl ?_
       exact jX x25.Name h (gr [0] rfl (hB rfl rfl rfl .nil) rfl)
      intro s24 h
      refine rn 4 rfl ?_
      exact jX (s24,(w64 (n21+1))) (hk2 _ h) (gr [0] rfl (hB rfl rfl rfl .nil) rfl)
     replace h:=RG.f h hb22
     unfold M90_L2 at h
     refine rn 1 rfl ?_
     exact jX () h (gr [0] rfl (hB rfl rfl rfl .nil) rfl)
    intro _ h
    refine rn 1 rfl ?_
    exact jX x11.Name h (gr [0] rfl (hB rfl rfl rfl .nil) rfl)
   intro s10 h
   refine rn 4 rfl ?_
   exact jX (s10,(w64 (n7+1))) (hk1 _ h) (gr [0] rfl (hB rfl rfl rfl .nil) rfl)
  replace h:=RG.f h hb8
  unfold M90_L1 at h
  refine rn 1 rfl ?_
  exact jX () h (g0 rfl rfl)
 intro _ h
 refine rn 4 rfl ?_
 exact rt h rfl
theorem W185(F:Nat)(a1:(List (List UInt8)))(a2:(List UInt8))(r:Int)(h:M185 F a1 a2=some r):PureG (gl mx) Tryz.prog 185 [(V.lst 1 (a1.map encS)),(sV a2)] (iV r):=by
 refine pin (fun r=>(iV r)) r rfl Tryz.func185 rfl rfl rfl rfl rfl (fun w0 m0 hg=>?_)
 unfold M185 at h
 refine rn 8 rfl ?_
 refine ln rfl rfl ?_
 refine rn 2 rfl ?_
 refine jK h (fun _:Unit=>(⟨[],[],0⟩:St)) (fun k3 (_:Unit)=>k3=some r) (fun k3 h=>?_) ?_
 ·refine rn 1 rfl ?_
  refine wl (A:=a1) 0 rfl (fun hA10=>?_)
  refine lC (fun(p:Int)=>(⟨[(0,(V.lst 1 (a1.map encS))),(1,(sV a2)),(7,(iV ((a1.length:Nat):Int))),(8,(iV p))],[],0⟩:St)) (fun n p=>RG a1 (fun tl nn=>M185_L1 F a2 k3 tl nn=some r) n p) (fun p h=>RG.zero h) (a1.length+1) 0 (RG.start h) (g0 rfl rfl) (fun n n5 h=>?_)
  refine rn 5 rfl ?_
  refine spL rfl (fun hb6=>?_) (fun hb6=>?_)
  ·obtain⟨x7,tl,hx8,h,hk1⟩:=RG.t hA10 h hb6
   unfold M185_L1 at h
   refine rn 13 rfl ?_
   refine ixh hx8 rfl rfl ?_
   refine rn 3 rfl ?_
   refine spC h rfl (fun hb9 h=>?_) (fun hb9 h=>?_)
   ·refine rn 5 rfl ?_
    exact rt h rfl
   refine rn 6 rfl ?_
   exact jX (w64 (n5+1)) (hk1 _ h) (g0 rfl rfl)
  replace h:=RG.f h hb6
  unfold M185_L1 at h
  refine rn 1 rfl ?_
  exact jX () h (g0 rfl rfl)
 intro _ h
 refine rn 4 rfl ?_
 exact rt h rfl
theorem W169(F:Nat)(a1:(List (List UInt8)))(a2:(List UInt8))(r:Bool)(h:M169 F a1 a2=some r):PureG (gl mx) Tryz.prog 169 [(V.lst 1 (a1.map encS)),(sV a2)] (bV r):=by
 refine pin (fun r=>(bV r)) r rfl Tryz.func169 rfl rfl rfl rfl rfl (fun w0 m0 hg=>?_)
 unfold M169 at h
 refine rn 8 rfl ?_
 refine cl h rfl rfl rfl (W185 _ _ _) rfl (fun y3 hx4 h=>?_)
 refine rn 3 rfl ?_
 exact rt h rfl
theorem W127(F:Nat)(a1:Treach_checker)(a2:TCall)(r:Int)(h:M127 F a1 a2=some r):PureG (gl mx) Tryz.prog 127 [(V.agg (encTreach_checker a1)),(V.agg (encTCall a2))] (iV r):=by
 refine pin (fun r=>(iV r)) r rfl Tryz.func127 rfl rfl rfl rfl rfl (fun w0 m0 hg=>?_)
 unfold M127 at h
 refine rn 18 rfl ?_
 refine jK h (fun _:Unit=>(⟨[(3,(V.ptr 0 4 0 0))],[(0,(Ob.arr 74 4 [(encTCall a2)]))],1⟩:St)) (fun k3 (_:Unit)=>k3=some r) (fun k3 h=>?_) ?_
 ·refine spC h rfl (fun hb4 h=>?_) (fun hb4 h=>?_)
  ·refine rn 7 rfl ?_
   refine spO 14 h rfl (fun hb5 h=>?_) (fun hb5 h=>?_)
   ·refine rn 4 rfl ?_
    refine aops_lookup _ (bV false) (bV ((mget a1.funcs a2.Target).getD false)) tMap115 tKey9 tZo4 (irel_con _) (wants_some (c:=true) (b:=true) 14 rfl rfl rfl) rfl .imm (.con rfl) ⟨_,rfl⟩ encM9_4_good (encM9_4_look a1.funcs a2.Target) (getD_map (encM9_4_val) (mget a1.funcs a2.Target) false) rfl ?_
    refine fo (rn 3 rfl ?_)
    refine spC h rfl (fun hb6 h=>?_) (fun hb6 h=>?_)
    ·refine rn 4 rfl ?_
     exact rt h rfl
    refine rn 7 rfl ?_
    refine spC h rfl (fun hb7 h=>?_) (fun hb7 h=>?_)
    ·refine rn 4 rfl ?_
     exact rt h rfl
    refine rn 1 rfl ?_
    exact jX () h (gr [1] rfl (hB rfl rfl rfl .nil) rfl)
   refine rn 16 rfl ?_
   refine spC h rfl (fun hb8 h=>?_) (fun hb8 h=>?_)
   ·refine rn 4 rfl ?_
    exact rt h rfl
   refine rn 1 rfl ?_
   exact jX () h (gr [1] rfl (hB rfl rfl rfl .nil) rfl)
  refine rn 5 rfl ?_
  refine spC h rfl (fun hb9 h=>?_) (fun hb9 h=>?_)
  ·refine rn 6 rfl ?_
   refine aops_lookup_okB _ (V.agg [(sV ([]:List UInt8)),(V.lst 1 (([]:List (List UInt8)).map encS))]) (V.agg (encTIface ((mget a1.ifaces a2.Target).getD (TIface.mk ([]:List UInt8) ([]:(List (List UInt8))))))) tMap114 tKey9 tZo56 (irel_aggZ (.con (.sl .nil))) wants_none rfl .imm (.con rfl) ⟨_,rfl⟩ encM9_56_good (encM9_56_look a1.ifaces a2.Target) (getD_map (encM9_56_val) (mget a1.ifaces a2.Target) (TIface.mk ([]:List UInt8) ([]:(List (List UInt8))))) (isSome_map ..) rfl ?_
   refine fo (rn 13 rfl ?_)
   refine spO 38 h rfl (fun hb10 h=>?_) (fun hb10 h=>?_)
   ·refine rn 3 rfl ?_
    refine spO 41 h rfl (fun hb11 h=>?_) (fun hb11 h=>?_)
    ·refine rn 14 rfl ?_
     exact rt h rfl
    refine rn 4 rfl ?_
    refine cl h rfl rfl rfl (W169 _ _ _) rfl (fun y12 hx13 h=>?_)
    refine rn 4 rfl ?_
    refine spC h rfl (fun hb14 h=>?_) (fun hb14 h=>?_)
    ·refine rn 4 rfl ?_
     exact rt h rfl
    refine rn 1 rfl ?_
    exact jX () h (gr [1] rfl (hB rfl rfl rfl .nil) rfl)
   refine rn 14 rfl ?_
   exact jX () h (gr [1] rfl (hB rfl rfl rfl .nil) rfl)
  refine rn 4 rfl ?_
  exact rt h rfl
 intro _ h
 refine rn 8 rfl ?_
 refine spO 53 h rfl (fun hb15 h=>?_) (fun hb15 h=>?_)
 ·refine rn 2 rfl ?_
  refine cl h rfl rfl rfl (W126 _ _) rfl (fun y16 hx17 h=>?_)
  refine rn 3 rfl ?_
  refine spC h rfl (fun hb18 h=>?_) (fun hb18 h=>?_)
  ·refine rn 4 rfl ?_
   exact rt h rfl
  refine rn 5 rfl ?_
  exact rt h rfl
 refine rn 12 rfl ?_
 exact rt h rfl
theorem W92(F:Nat)(a1:Treach_checker)(a2:(List (List UInt8)))(a3:(List ((List UInt8)×Bool)))(r:Int)(h:M92 F a1 a2 a3=some r):PureG (gl mx) Tryz.prog 92 [(V.agg (encTreach_checker a1)),(V.lst 1 (a2.map encS)),(V.imap (a3.map encM9_4))] (iV r):=by
 refine pin (fun r=>(iV r)) r rfl Tryz.func92 rfl rfl rfl rfl rfl (fun w0 m0 hg=>?_)
 unfold M92 at h
 refine rn 9 rfl ?_
 refine ln rfl rfl ?_
 refine rn 2 rfl ?_
 refine jK h (fun _:Unit=>(⟨[],[],0⟩:St)) (fun k4 (_:Unit)=>k4=some r) (fun k4 h=>?_) ?_
 ·refine rn 1 rfl ?_
  refine wl (A:=a2) 1 rfl (fun hA22=>?_)
  refine lC (fun(p:Int)=>(⟨[(1,(V.lst 1 (a2.map encS))),(2,(V.imap (a3.map encM9_4))),(3,(V.ptr 0 4 0 0)),(9,(V.lst 1 (a2.map encS))),(10,(iV ((a2.length:Nat):Int))),(11,(iV p))],[(0,(Ob.arr 117 4 [(encTreach_checker a1)]))],1⟩:St)) (fun n p=>RG a2 (fun tl nn=>M92_L1 F a1 a2 a3 k4 tl nn=some r) n p) (fun p h=>RG.zero h) (a2.length+1) 0 (RG.start h) (gr [0] rfl (hB rfl rfl rfl .nil) rfl) (fun n n6 h=>?_)
  refine rn 5 rfl ?_
  refine spL rfl (fun hb7=>?_) (fun hb7=>?_)
  ·obtain⟨x8,tl,hx9,h,hk1⟩:=RG.t hA22 h hb7
   unfold M92_L1 at h
   refine rn 6 rfl ?_
   refine ixh hx9 rfl rfl ?_
   refine rn 4 rfl ?_
   refine jK h (fun _:Unit=>(⟨[(1,(V.lst 1 (a2.map encS))),(2,(V.imap (a3.map encM9_4))),(3,(V.ptr 0 4 0 0)),(9,(V.lst 1 (a2.map encS))),(10,(iV ((a2.length:Nat):Int))),(11,(iV n6))],[(0,(Ob.arr 117 4 [(encTreach_checker a1)]))],1⟩:St)) (fun k10 (_:Unit)=>k10=some r) (fun k10 h=>?_) ?_
   ·refine rn 7 rfl ?_
    refine spO 20 h rfl (fun hb11 h=>?_) (fun hb11 h=>?_)
    ·refine rn 2 rfl ?_
     refine aops_lookup _ (bV false) (bV ((mget a3 x8).getD false)) tMap115 tKey9 tZo4 (irel_con _) (wants_some (c:=true) (b:=true) 20 rfl rfl rfl) rfl .imm (.con rfl) ⟨_,rfl⟩ encM9_4_good (encM9_4_look a3 x8) (getD_map (encM9_4_val) (mget a3 x8) false) rfl ?_
     refine fo (rn 4 rfl ?_)
     refine jK h (fun _:Unit=>(⟨[(1,(V.lst 1 (a2.map encS))),(2,(V.imap (a3.map encM9_4))),(3,(V.ptr 0 4 0 0)),(9,(V.lst 1 (a2.map encS))),(10,(iV ((a2.length:Nat):Int))),(11,(iV n6)),(24,(bV (!((mget a3 x8).getD false))))],[(0,(Ob.arr 117 4 [(encTreach_checker a1)]))],1⟩:St)) (fun k12 (_:Unit)=>k12=some r) (fun k12 h=>?_) ?_
     ·refine spC h rfl (fun hb13 h=>?_) (fun hb13 h=>?_)
      ·refine rn 4 rfl ?_
       exact rt h rfl
      refine rn 5 rfl ?_
      refine spO 29 h rfl (fun hb14 h=>?_) (fun hb14 h=>?_)
      ·refine rn 4 rfl ?_
       refine ixl h rfl rfl (fun x15 hx16 h=>?_)
       refine rn 5 rfl ?_
       refine spC h rfl (fun hb17 h=>?_) (fun hb17 h=>?_)
       ·refine rn 4 rfl ?_
        exact rt h rfl
       refine rn 1 rfl ?_
       exact jX () h (gr [0] rfl (hB rfl rfl rfl .nil) rfl)
      refine rn 12 rfl ?_
      exact jX () h (gr [0] rfl (hB rfl rfl rfl .nil) rfl)
     intro _ h
     refine rn 1 rfl ?_
     exact jX () h (gr [0] rfl (hB rfl rfl rfl .nil) rfl)
    refine rn 13 rfl ?_
    refine spO 29 h rfl (fun hb18 h=>?_) (fun hb18 h=>?_)
    ·refine rn 4 rfl ?_
     refine ixl h rfl rfl (fun x19 hx20 h=>?_)
     refine rn 5 rfl ?_
     refine spC h rfl (fun hb21 h=>?_) (fun hb21 h=>?_)
     ·refine rn 4 rfl ?_
      exact rt h rfl
     refine rn 2 rfl ?_
     exact jX () h (gr [0] rfl (hB rfl rfl rfl .nil) rfl)
    refine rn 13 rfl ?_
    exact jX () h (gr [0] rfl (hB rfl rfl rfl .nil) rfl)
   intro _ h
   refine rn 5 rfl ?_
   exact jX (w64 (n6+1)) (hk1 _ h) (gr [0] rfl (hB rfl rfl rfl .nil) rfl)
  replace h:=RG.f h hb7
  unfold M92_L1 at h
  refine rn 1 rfl ?_
  exact jX () h (g0 rfl rfl)
 intro _ h
 refine rn 4 rfl ?_
 exact rt h rfl
theorem W91(F:Nat)(a1:Treach_checker)(a2:(List TFunc))(r:Int)(h:M91 F a1 a2=some r):PureG (gl mx) Tryz.prog 91 [(V.agg (encTreach_checker a1)),(V.lst 4 (a2.map encTFunc))] (iV r):=by
 refine pin (fun r=>(iV r)) r rfl Tryz.func91 rfl rfl rfl rfl rfl (fun w0 m0 hg=>?_)
 unfold M91 at h
 refine rn 13 rfl ?_
 refine ln rfl rfl ?_
 refine rn 2 rfl ?_
 refine jK h (fun _:Unit=>(⟨[],[],0⟩:St)) (fun k3 (_:Unit)=>k3=some r) (fun k3 h=>?_) ?_
 ·refine rn 1 rfl ?_
  refine wl (A:=a2) 1 rfl (fun hA33=>?_)
  refine lC (fun(p:(List UInt8)×Int)=>(⟨[(2,(V.ptr 0 4 0 0)),(5,(sV (p.1))),(13,(V.lst 4 (a2.map encTFunc))),(14,(iV ((a2.length:Nat):Int))),(15,(iV (p.2)))],[(0,(Ob.arr 117 4 [(encTreach_checker a1)]))],1⟩:St)) (fun n p=>RG a2 (fun tl nn=>M91_L1 F a1 k3 tl nn p.1=some r) n p.2) (fun p h=>RG.zero h) (a2.length+1) (([]:List UInt8),0) (RG.start h) (gr [0] rfl (hB rfl rfl rfl .nil) rfl) (fun n p h=>?_)
  obtain⟨s6,n7⟩:=p
  refine rn 5 rfl ?_
  refine spL rfl (fun hb8=>?_) (fun hb8=>?_)
  ·obtain⟨x11,tl,hx12,h,hk1⟩:=RG.t hA33 h hb8
   unfold M91_L1 at h
   refine rn 2 rfl ?_
   refine jK h (fun(p:(List UInt8))=>(⟨[(2,(V.ptr 0 4 0 0)),(5,(sV p)),(13,(V.lst 4 (a2.map encTFunc))),(14,(iV ((a2.length:Nat):Int))),(15,(iV n7))],[(0,(Ob.arr 117 4 [(encTreach_checker a1)]))],1⟩:St)) (fun k9 p=>k9 p=some r) (fun k9 h=>?_) ?_
   ·refine rn 4 rfl ?_
    refine ixh hx12 rfl rfl ?_
    refine rn 13 rfl ?_
    refine cl h rfl rfl rfl (W125 _ _ _ _) rfl (fun y13 hx14 h=>?_)
    refine rn 7 rfl ?_
    refine spC h rfl (fun hb15 h=>?_) (fun hb15 h=>?_)
    ·refine rn 5 rfl ?_
     exact rt h rfl
    refine rn 13 rfl ?_
    refine cl h rfl rfl rfl (W126 _ _) rfl (fun y16 hx17 h=>?_)
    refine rn 3 rfl ?_
    refine spC h rfl (fun hb18 h=>?_) (fun hb18 h=>?_)
    ·refine rn 4 rfl ?_
     exact rt h rfl
    refine rn 4 rfl ?_
    refine ln rfl rfl ?_
    refine rn 3 rfl ?_
    refine spC h rfl (fun hb19 h=>?_) (fun hb19 h=>?_)
    ·refine rn 4 rfl ?_
     exact rt h rfl
    refine rn 7 rfl ?_
    refine ln rfl rfl ?_
    refine rn 2 rfl ?_
    refine jK h (fun _:Unit=>(⟨[(2,(V.ptr 0 4 0 0)),(5,(sV x11.Name)),(7,(V.ptr 1 4 0 0)),(13,(V.lst 4 (a2.map encTFunc))),(14,(iV ((a2.length:Nat):Int))),(15,(iV n7))],[(0,(Ob.arr 117 4 [(encTreach_checker a1)])),(1,(Ob.arr 71 4 [(encTFunc x11)]))],2⟩:St)) (fun k20 (_:Unit)=>k20=some r) (fun k20 h=>?_) ?_
    ·refine rn 1 rfl ?_
     refine wl (A:=x11.Calls) 38 rfl (fun hA29=>?_)
     refine lC (fun(p:Int)=>(⟨[(2,(V.ptr 0 4 0 0)),(5,(sV x11.Name)),(7,(V.ptr 1 4 0 0)),(13,(V.lst 4 (a2.map encTFunc))),(14,(iV ((a2.length:Nat):Int))),(15,(iV n7)),(42,(V.lst 4 (x11.Calls.map encTCall))),(43,(iV ((x11.Calls.length:Nat):Int))),(44,(iV p))],[(0,(Ob.arr 117 4 [(encTreach_checker a1)])),(1,(Ob.arr 71 4 [(encTFunc x11)]))],2⟩:St)) (fun n p=>RG x11.Calls (fun tl nn=>M91_L2 F a1 k20 tl=some r) n p) (fun p h=>RG.zero h) (x11.Calls.length+1) 0 (RG.start h) (gr [0,1] rfl (hB rfl rfl rfl (hB rfl rfl rfl .nil)) rfl) (fun n n22 h=>?_)
     refine rn 5 rfl ?_
     refine spL rfl (fun hb23=>?_) (fun hb23=>?_)
     ·obtain⟨x24,tl,hx25,h,hk2⟩:=RG.t hA29 h hb23
      unfold M91_L2 at h
      refine rn 5 rfl ?_
      refine ixh hx25 rfl rfl ?_
      refine rn 8 rfl ?_
      refine cl h rfl rfl rfl (W127 _ _ _) rfl (fun y26 hx27 h=>?_)
      refine rn 7 rfl ?_
      refine spC h rfl (fun hb28 h=>?_) (fun hb28 h=>?_)
      ·refine rn 5 rfl ?_
       exact rt h rfl
      refine rn 6 rfl ?_
      exact jX (w64 (n22+1)) (hk2 _ h) (gr [0,1] rfl (hB rfl rfl rfl (hB rfl rfl rfl .nil)) rfl)
     replace h:=RG.f h hb23
     unfold M91_L2 at h
     refine rn 1 rfl ?_
     exact jX () h (gr [0,1] rfl (hB rfl rfl rfl (hB rfl rfl rfl .nil)) rfl)
    intro _ h
    refine rn 7 rfl ?_
    refine cl h rfl rfl rfl (W92 _ _ _ _) rfl (fun y30 hx31 h=>?_)
    refine rn 7 rfl ?_
    refine spC h rfl (fun hb32 h=>?_) (fun hb32 h=>?_)
    ·refine rn 5 rfl ?_
     exact rt h rfl
    refine rn 2 rfl ?_
    exact jX x11.Name h (gr [0] rfl (hB rfl rfl rfl .nil) rfl)
   intro s10 h
   refine rn 4 rfl ?_
   exact jX (s10,(w64 (n7+1))) (hk1 _ h) (gr [0] rfl (hB rfl rfl rfl .nil) rfl)
  replace h:=RG.f h hb8
  unfold M91_L1 at h
  refine rn 1 rfl ?_
  exact jX () h (g0 rfl rfl)
 intro _ h
 refine rn 4 rfl ?_
 exact rt h rfl
theorem W61(F:Nat)(a1:Treach_checker)(a2:TGraph)(r:Int)(h:M61 F a1 a2=some r):PureG (gl mx) Tryz.prog 61 [(V.agg (encTreach_checker a1)),(V.agg (encTGraph a2))] (iV r):=by
 refine pin (fun r=>(iV r)) r rfl Tryz.func61 rfl rfl rfl rfl rfl (fun w0 m0 hg=>?_)
 unfold M61 at h
 refine rn 11 rfl ?_
 refine ln rfl rfl ?_
 refine rn 2 rfl ?_
 refine spO 12 h rfl (fun hb3 h=>?_) (fun hb3 h=>?_)
 ·refine rn 17 rfl ?_
  exact rt h rfl
 refine rn 2 rfl ?_
 refine ln rfl rfl ?_
 refine rn 3 rfl ?_
 refine spO 18 h rfl (fun hb4 h=>?_) (fun hb4 h=>?_)
 ·refine rn 11 rfl ?_
  exact rt h rfl
 refine rn 2 rfl ?_
 refine ln rfl rfl ?_
 refine rn 3 rfl ?_
 refine spC h rfl (fun hb5 h=>?_) (fun hb5 h=>?_)
 ·refine rn 4 rfl ?_
  exact rt h rfl
 refine rn 7 rfl ?_
 refine cl h rfl rfl rfl (W89 _ _ _) rfl (fun y6 hx7 h=>?_)
 refine rn 7 rfl ?_
 refine spC h rfl (fun hb8 h=>?_) (fun hb8 h=>?_)
 ·refine rn 5 rfl ?_
  exact rt h rfl
 refine rn 7 rfl ?_
 refine cl h rfl rfl rfl (W90 _ _ _) rfl (fun y9 hx10 h=>?_)
 refine rn 7 rfl ?_
 refine spC h rfl (fun hb11 h=>?_) (fun hb11 h=>?_)
 ·refine rn 5 rfl ?_
  exact rt h rfl
 refine rn 7 rfl ?_
 refine cl h rfl rfl rfl (W91 _ _ _) rfl (fun y12 hx13 h=>?_)
 refine rn 7 rfl ?_
 refine spC h rfl (fun hb14 h=>?_) (fun hb14 h=>?_)
 ·refine rn 5 rfl ?_
  exact rt h rfl
 refine rn 8 rfl ?_
 refine cl h rfl rfl rfl (W92 _ _ _ _) rfl (fun y15 hx16 h=>?_)
 refine rn 2 rfl ?_
 exact rt h rfl
theorem W15(F:Nat)(a1:TGraph)(r:Int)(h:M15 F a1=some r):PureG (gl mx) Tryz.prog 15 [(V.agg (encTGraph a1))] (iV r):=by
 refine pin (fun r=>(iV r)) r rfl Tryz.func15 rfl rfl rfl rfl rfl (fun w0 m0 hg=>?_)
 unfold M15 at h
 obtain⟨y2,hx3,h⟩:=bind_some h
 obtain⟨y4,hx5,h⟩:=bind_some h
 refine rn 6 rfl ?_
 refine dr mixed (vs 1 rfl (cD rfl rfl rfl rfl (W60 _ _ _ _ hx3) rfl (vs 1 rfl (cD rfl rfl rfl rfl (W61 _ _ _ _ hx5) rfl (vs 1 rfl .nil))))) (by kernel_rfl) ?_
 exact rt h rfl
theorem W71(F:Nat)(a1:Int)(r:Unit)(h:M71 F a1=some r):MutG (gl mx) Tryz.prog 71 [(V.ptr 0 2 0 0),(iV a1)] 1 [(0,(Ob.bld 80 5 ([]:List UInt8) true))] (resV []) 1 [(0,(Ob.bld 80 5 ([]:List UInt8)))]:=by
 unfold M71 at h
 obtain⟨hc,h⟩:=chk_some h
 exact(mut_bldG (ρ:=Go.Proofs.Tryz.lays156_ren) { Go.Proofs.Tryz.lays156 with } Go.Proofs.Tryz.Builder_Extra_156 rfl hc).heap hget_one
theorem W32(F:Nat)(a1:(List UInt8))(a2:List UInt8)(r:Unit)(h:M32 F a1 a2=some r):MutG (gl mx) Tryz.prog 32 [(V.ptr 0 2 0 0),(sV a1)] 1 [(0,(Ob.bld 80 5 a2))] (resV [(iV (a1.length:Int)),(V.con .nilIface)]) 1 [(0,(Ob.bld 80 5 (a2++a1)))]:=by
 unfold M32 at h
 obtain⟨hc,h⟩:=chk_some h
 exact(mut_bldW (ρ:=Go.Proofs.Tryz.lays156_ren) { Go.Proofs.Tryz.lays156 with } Go.Proofs.Tryz.Builder_Extra_156 rfl hc).heap hget_one
theorem W36(F:Nat)(a1:List UInt8)(r:Unit)(h:M36 F a1=some r):MutG (gl mx) Tryz.prog 36 [(V.ptr 0 2 0 0)] 1 [(0,(Ob.bld 80 5 a1))] (resV [(sV a1)]) 1 [(0,Ob.dead)]:=by
 exact(mut_bldS (ρ:=Go.Proofs.Tryz.lays169_ren) Go.Proofs.Tryz.lays169 Go.Proofs.Tryz.Builder_Extra_169 rfl).heap hget_one
theorem W33(F:Nat)(a1:(List (List UInt8)))(a2:(List UInt8))(r:(List UInt8))(h:M33 F a1 a2=some r):PureG (gl mx) Tryz.prog 33 [(V.lst 1 (a1.map encS)),(sV a2)] (sV r):=by
 refine pin (fun r=>(sV r)) r rfl Tryz.func33 rfl rfl rfl rfl rfl (fun w0 m0 hg=>?_)
 unfold M33 at h
 refine rn 8 rfl ?_
 refine ln rfl rfl ?_
 refine rn 7 rfl ?_
 refine spC h rfl (fun hb3 h=>?_) (fun hb3 h=>?_)
 ·refine rn 4 rfl ?_
  exact rt h rfl
 refine rn 5 rfl ?_
 refine spC h rfl (fun hb4 h=>?_) (fun hb4 h=>?_)
 ·refine rn 3 rfl ?_
  refine ixl h rfl rfl (fun x5 hx6 h=>?_)
  refine rn 3 rfl ?_
  exact rt h rfl
 refine rn 13 rfl ?_
 refine jK h (fun(p:Int)=>(⟨[(0,(V.lst 1 (a1.map encS))),(1,(sV a2)),(5,(iV p))],[],0⟩:St)) (fun k7 p=>k7 p=some r) (fun k7 h=>?_) ?_
 ·refine spC h rfl (fun hb9 h=>?_) (fun hb9 h=>?_)
  ·refine rn 6 rfl ?_
   refine ln rfl rfl ?_
   refine rn 1 rfl ?_
   refine ck h (fun hc10 h=>?_)
   refine aops_bin (.int .i64 (w64 (Int.tdiv 9223372036854775807 (w64 (((a1.length:Nat):Int) - 1))))) wants_none rfl rfl (binS_quo hc10) rfl ?_
   refine fo (rn 2 rfl ?_)
   refine spC h rfl (fun hb11 h=>?_) (fun hb11 h=>?_)
   ·exact absurd h (by simp)
   refine rn 6 rfl ?_
   refine ln rfl rfl ?_
   refine rn 5 rfl ?_
   exact jX (w64 (0+(w64 ((a2.length:Int)*(w64 (((a1.length:Nat):Int) - 1)))))) h (g0 rfl rfl)
  refine rn 1 rfl ?_
  exact jX 0 h (g0 rfl rfl)
 intro n8 h
 refine rn 4 rfl ?_
 refine ln rfl rfl ?_
 refine rn 2 rfl ?_
 refine jK h (fun(p:Int)=>(⟨[(0,(V.lst 1 (a1.map encS))),(1,(sV a2)),(5,(iV p))],[],0⟩:St)) (fun k12 p=>k12 p=some r) (fun k12 h=>?_) ?_
 ·refine rn 1 rfl ?_
  refine wl (A:=a1) 0 rfl (fun hA22=>?_)
  refine lC (fun(p:Int×Int)=>(⟨[(0,(V.lst 1 (a1.map encS))),(1,(sV a2)),(5,(iV (p.1))),(39,(V.lst 1 (a1.map encS))),(40,(iV ((a1.length:Nat):Int))),(41,(iV (p.2)))],[],0⟩:St)) (fun n p=>RG a1 (fun tl nn=>M33_L1 F k12 tl p.1=some r) n p.2) (fun p h=>RG.zero h) (a1.length+1) (n8,0) (RG.start h) (g0 rfl rfl) (fun n p h=>?_)
  obtain⟨n16,n17⟩:=p
  refine rn 5 rfl ?_
  refine spL rfl (fun hb18=>?_) (fun hb18=>?_)
  ·obtain⟨x19,tl,hx20,h,hk1⟩:=RG.t hA22 h hb18
   unfold M33_L1 at h
   refine rn 5 rfl ?_
   refine ixh hx20 rfl rfl ?_
   refine rn 12 rfl ?_
   refine spC h rfl (fun hb21 h=>?_) (fun hb21 h=>?_)
   ·exact absurd h (by simp)
   refine rn 13 rfl ?_
   exact jX ((w64 (n16+(x19.length:Int))),(w64 (n17+1))) (hk1 _ h) (g0 rfl rfl)
  replace h:=RG.f h hb18
  unfold M33_L1 at h
  refine rn 1 rfl ?_
  exact jX n16 h (g0 rfl rfl)
 intro n13 h
 refine rn 2 rfl ?_
 refine aops_allocFresh 5 rfl tZ80 wants_none rfl ?_
 obtain⟨y23,hx24,h⟩:=bind_some h
 refine fo (rn 4 rfl ?_)
 refine aops_mcallS (V.tup []) [(V.ptr 0 2 0 0),(iV n13)] (fun i=>([0]:List Nat).getD i 0) (fun i=>([0]:List Nat).getD i 0) 1 1 [(0,(Ob.bld 80 5 ([]:List UInt8)))] fOk71 wants_none rfl (evm_cons rfl (evm_cons rfl evm_nil)) (.cons (Sub.ptr rfl rfl) (.cons (Sub.imm (Imm.con _)) .nil)) (.cons rfl ObSub.bld .nil) (W71 F n13 y23 hx24) rfl rfl rfl rfl (Sub.immT (Imm.tup .nil)) (.cons rfl ObSub.bld .nil) _ rfl ?_
 refine fo (rn 4 rfl ?_)
 refine ixl h rfl rfl (fun x25 hx26 h=>?_)
 obtain⟨y27,hx28,h⟩:=bind_some h
 refine rn 1 rfl ?_
 refine aops_mcallS (V.tup [(iV (x25.length:Int)),(V.con .nilIface)]) [(V.ptr 0 2 0 0),(sV x25)] (fun i=>([0]:List Nat).getD i 0) (fun i=>([0]:List Nat).getD i 0) 1 1 [(0,(Ob.bld 80 5 (([]:List UInt8)++x25)))] fOk32 wants_none rfl (evm_cons rfl (evm_cons rfl evm_nil)) (.cons (Sub.ptr rfl rfl) (.cons (Sub.imm (Imm.con _)) .nil)) (.cons rfl ObSub.bld .nil) (W32 F x25 ([]:List UInt8) y27 hx28) rfl rfl rfl rfl (Sub.immT (Imm.tup (.cons (Imm.con _) (.cons (Imm.con _) .nil)))) (.cons rfl ObSub.bld .nil) _ rfl ?_
 refine fo (rn 5 rfl ?_)
 refine ck h (fun hc29 h=>?_)
 refine aops_slice_lst (1) (a1.length) ((a1.drop 1).map encS) tSl25 wants_none rfl ⟨_,rfl⟩ (List.length_map ..).symm hc29 (Nat.le_of_eq (List.length_map ..).symm) slL_hi rfl ?_
 refine fo ?_
 refine ln rfl rfl ?_
 refine rn 2 rfl ?_
 refine jK h (fun(p:(List UInt8))=>(⟨[(8,(V.ptr 0 2 0 0))],[(0,(Ob.bld 80 5 p))],1⟩:St)) (fun k30 p=>k30 p=some r) (fun k30 h=>?_) ?_
 ·refine rn 1 rfl ?_
  refine wl (A:=(a1.drop 1)) 63 rfl (fun hA43=>?_)
  refine lC (fun(p:Int×(List UInt8))=>(⟨[(1,(sV a2)),(8,(V.ptr 0 2 0 0)),(63,(V.lst 1 ((a1.drop 1).map encS))),(64,(iV (((a1.drop 1).length:Nat):Int))),(65,(iV (p.1)))],[(0,(Ob.bld 80 5 (p.2)))],1⟩:St)) (fun n p=>RG (a1.drop 1) (fun tl nn=>M33_L2 F a2 k30 tl p.2=some r) n p.1) (fun p h=>RG.zero h) ((a1.drop 1).length+1) (0,(([]:List UInt8)++x25)) (RG.start h) (gr [0] rfl (hU rfl rfl .nil) rfl) (fun n p h=>?_)
  obtain⟨n34,s35⟩:=p
  refine rn 5 rfl ?_
  refine spL rfl (fun hb36=>?_) (fun hb36=>?_)
  ·obtain⟨x37,tl,hx38,h,hk2⟩:=RG.t hA43 h hb36
   unfold M33_L2 at h
   refine rn 5 rfl ?_
   refine ixh hx38 rfl rfl ?_
   obtain⟨y39,hx40,h⟩:=bind_some h
   refine rn 6 rfl ?_
   refine aops_mcallS (V.tup [(iV (a2.length:Int)),(V.con .nilIface)]) [(V.ptr 0 2 0 0),(sV a2)] (fun i=>([0]:List Nat).getD i 0) (fun i=>([0]:List Nat).getD i 0) 1 1 [(0,(Ob.bld 80 5 (s35++a2)))] fOk32 wants_none rfl (evm_cons rfl (evm_cons rfl evm_nil)) (.cons (Sub.ptr rfl rfl) (.cons (Sub.imm (Imm.con _)) .nil)) (.cons rfl ObSub.bld .nil) (W32 F a2 s35 y39 hx40) rfl rfl rfl rfl (Sub.immT (Imm.tup (.cons (Imm.con _) (.cons (Imm.con _) .nil)))) (.cons rfl ObSub.bld .nil) _ rfl ?_
   obtain⟨y41,hx42,h⟩:=bind_some h
   refine fo (rn 3 rfl ?_)
   refine aops_mcallS (V.tup [(iV (x37.length:Int)),(V.con .nilIface)]) [(V.ptr 0 2 0 0),(sV x37)] (fun i=>([0]:List Nat).getD i 0) (fun i=>([0]:List Nat).getD i 0) 1 1 [(0,(Ob.bld 80 5 ((s35++a2)++x37)))] fOk32 wants_none rfl (evm_cons rfl (evm_cons rfl evm_nil)) (.cons (Sub.ptr rfl rfl) (.cons (Sub.imm (Imm.con _)) .nil)) (.cons rfl ObSub.bld .nil) (W32 F x37 (s35++a2) y41 hx42) rfl rfl rfl rfl (Sub.immT (Imm.tup (.cons (Imm.con _) (.cons (Imm.con _) .nil)))) (.cons rfl ObSub.bld .nil) _ rfl ?_
   refine fo (rn 6 rfl ?_)
   exact jX ((w64 (n34+1)),((s35++a2)++x37)) (hk2 _ h) (gr [0] rfl (hU rfl rfl .nil) rfl)
  replace h:=RG.f h hb36
  unfold M33_L2 at h
  refine rn 1 rfl ?_
  exact jX s35 h (gr [0] rfl (hU rfl rfl .nil) rfl)
 intro s31 h
 obtain⟨y44,hx45,h⟩:=bind_some h
 refine rn 2 rfl ?_
 refine aops_mcallS (sV s31) [(V.ptr 0 2 0 0)] (fun i=>([0]:List Nat).getD i 0) (fun i=>([0]:List Nat).getD i 0) 1 1 [(0,Ob.dead)] fOk36 wants_none rfl (evm_cons rfl evm_nil) (.cons (Sub.ptr rfl rfl) .nil) (.cons rfl ObSub.bld .nil) (W36 F s31 y44 hx45) rfl rfl rfl rfl (Sub.immT (Imm.con _)) (.cons rfl ObSub.deadT .nil) _ rfl ?_
 refine fo (rn 2 rfl ?_)
 exact rt h rfl
theorem W34(F:Nat)(a1:TCall)(r:(List UInt8))(h:M34 F a1=some r):PureG (gl mx) Tryz.prog 34 [(V.agg (encTCall a1))] (sV r):=by
 refine pin (fun r=>(sV r)) r rfl Tryz.func34 rfl rfl rfl rfl rfl (fun w0 m0 hg=>?_)
 unfold M34 at h
 refine rn 9 rfl ?_
 refine ck h (fun hc2 h=>?_)
 refine aops_binT (str (([99,97,108,108,32]:List UInt8)++a1.Target)) wants_none rfl rfl (if_pos hc2) rfl ?_
 refine fo (rn 9 rfl ?_)
 refine jK h (fun(p:(List UInt8))=>(⟨[(1,(V.ptr 0 4 0 0)),(3,(sV p))],[(0,(Ob.arr 74 4 [(encTCall a1)]))],1⟩:St)) (fun k3 p=>k3 p=some r) (fun k3 h=>?_) ?_
 ·refine spC h rfl (fun hb5 h=>?_) (fun hb5 h=>?_)
  ·refine rn 3 rfl ?_
   refine ck h (fun hc6 h=>?_)
   refine aops_binT (str (([100,105,115,112,97,116,99,104,32]:List UInt8)++a1.Target)) wants_none rfl rfl (if_pos hc6) rfl ?_
   refine ck h (fun hc7 h=>?_)
   refine aops_binT (str ((([100,105,115,112,97,116,99,104,32]:List UInt8)++a1.Target)++([32]:List UInt8))) wants_none rfl rfl (if_pos hc7) rfl ?_
   refine fo (rn 2 rfl ?_)
   refine ck h (fun hc8 h=>?_)
   refine aops_binT (str (((([100,105,115,112,97,116,99,104,32]:List UInt8)++a1.Target)++([32]:List UInt8))++a1.Method)) wants_none rfl rfl (if_pos hc8) rfl ?_
   refine fo (rn 2 rfl ?_)
   exact jX (((([100,105,115,112,97,116,99,104,32]:List UInt8)++a1.Target)++([32]:List UInt8))++a1.Method) h (gr [0] rfl (hB rfl rfl rfl .nil) rfl)
  refine rn 1 rfl ?_
  exact jX (([99,97,108,108,32]:List UInt8)++a1.Target) h (gr [0] rfl (hB rfl rfl rfl .nil) rfl)
 intro s4 h
 refine rn 7 rfl ?_
 refine jK h (fun(p:(List UInt8))=>(⟨[(3,(sV p))],[],0⟩:St)) (fun k9 p=>k9 p=some r) (fun k9 h=>?_) ?_
 ·refine spC h rfl (fun hb11 h=>?_) (fun hb11 h=>?_)
  ·refine rn 4 rfl ?_
   refine ck h (fun hc12 h=>?_)
   refine aops_binT (str (([32,105,102,32]:List UInt8)++a1.Feature)) wants_none rfl rfl (if_pos hc12) rfl ?_
   refine ck h (fun hc13 h=>?_)
   refine aops_binT (str (s4++(([32,105,102,32]:List UInt8)++a1.Feature))) wants_none rfl rfl (if_pos hc13) rfl ?_
   refine fo (rn 2 rfl ?_)
   exact jX (s4++(([32,105,102,32]:List UInt8)++a1.Feature)) h (g0 rfl rfl)
  refine rn 1 rfl ?_
  exact jX s4 h (g0 rfl rfl)
 intro s10 h
 refine rn 3 rfl ?_
 refine ck h (fun hc14 h=>?_)
 refine aops_binT (str (s10++([10]:List UInt8))) wants_none rfl rfl (if_pos hc14) rfl ?_
 refine fo (rn 2 rfl ?_)
 exact rt h rfl
theorem W35(F:Nat)(a1:List UInt8)(r:Unit)(h:M35 F a1=some r):MutG (gl mx) Tryz.prog 35 [(V.ptr 0 2 0 0)] 1 [(0,(Ob.bld 80 5 a1))] (resV [(iV ((a1.length:Nat):Int))]) 1 [(0,(Ob.bld 80 5 a1))]:=by
 exact(mut_bldL (ρ:=Go.Proofs.Tryz.lays170_ren) Go.Proofs.Tryz.lays170 (by decide) rfl).heap hget_one
theorem W9(F:Nat)(a1:TGraph)(r:((List UInt8)×Int))(h:M9 F a1=some r):PureG (gl mx) Tryz.prog 9 [(V.agg (encTGraph a1))] (V.tup [(sV (r.1)),(iV (r.2))]):=by
 refine pin (fun r=>(V.tup [(sV (r.1)),(iV (r.2))])) r rfl Tryz.func9 rfl rfl rfl rfl rfl (fun w0 m0 hg=>?_)
 unfold M9 at h
 refine rn 10 rfl ?_
 refine cl h rfl rfl rfl (W15 _ _) rfl (fun y2 hx3 h=>?_)
 refine rn 7 rfl ?_
 refine spC h rfl (fun hb4 h=>?_) (fun hb4 h=>?_)
 ·refine rn 6 rfl ?_
  exact rt h rfl
 refine rn 3 rfl ?_
 refine aops_allocBld 5 rfl tZ80 wants_none rfl ?_
 refine fo (rn 6 rfl ?_)
 refine ln rfl rfl ?_
 refine rn 2 rfl ?_
 refine jK h (fun(p:(List UInt8))=>(⟨[(1,(V.ptr 0 4 0 0)),(5,(V.ptr 1 2 0 0))],[(0,(Ob.arr 27 4 [(encTGraph a1)])),(1,(Ob.bld 80 5 p))],2⟩:St)) (fun k5 p=>k5 p=some r) (fun k5 h=>?_) ?_
 ·refine rn 1 rfl ?_
  refine wl (A:=a1.Ifaces) 26 rfl (fun hA22=>?_)
  refine lC (fun(p:Int×(List UInt8))=>(⟨[(1,(V.ptr 0 4 0 0)),(5,(V.ptr 1 2 0 0)),(26,(V.lst 2 (a1.Ifaces.map encTIface))),(27,(iV ((a1.Ifaces.length:Nat):Int))),(28,(iV (p.1)))],[(0,(Ob.arr 27 4 [(encTGraph a1)])),(1,(Ob.bld 80 5 (p.2)))],2⟩:St)) (fun n p=>RG a1.Ifaces (fun tl nn=>M9_L1 F k5 tl p.2=some r) n p.1) (fun p h=>RG.zero h) (a1.Ifaces.length+1) (0,([]:List UInt8)) (RG.start h) (gr [0,1] rfl (hB rfl rfl rfl (hU rfl rfl .nil)) rfl) (fun n p h=>?_)
  obtain⟨n9,s10⟩:=p
  refine rn 5 rfl ?_
  refine spL rfl (fun hb11=>?_) (fun hb11=>?_)
  ·obtain⟨x12,tl,hx13,h,hk1⟩:=RG.t hA22 h hb11
   unfold M9_L1 at h
   refine rn 5 rfl ?_
   refine ixh hx13 rfl rfl ?_
   refine rn 4 rfl ?_
   refine ck h (fun hc14 h=>?_)
   refine ck h (fun hc15 h=>?_)
   obtain⟨y16,hx17,h⟩:=bind_some h
   refine ck h (fun hc18 h=>?_)
   refine ck h (fun hc19 h=>?_)
   obtain⟨y20,hx21,h⟩:=bind_some h
   refine dr mixed (vs 2 rfl (xD (OD.mk [(33,(sV x12.Name))] [] [(34,(sV (([105,102,97,99,101,32]:List UInt8)++x12.Name)))] []) ⟨⟨rfl,trivial⟩,trivial⟩ (by exact fun S hn h hh=>aops_binT (str (([105,102,97,99,101,32]:List UInt8)++x12.Name)) wants_none rfl h.1 (if_pos hc14) rfl (aops_nil ⟨rfl,rfl⟩)) rfl (xD (OD.mk [(34,(sV (([105,102,97,99,101,32]:List UInt8)++x12.Name)))] [] [(35,(sV ((([105,102,97,99,101,32]:List UInt8)++x12.Name)++([32]:List UInt8))))] []) ⟨⟨rfl,trivial⟩,trivial⟩ (by exact fun S hn h hh=>aops_binT (str ((([105,102,97,99,101,32]:List UInt8)++x12.Name)++([32]:List UInt8))) wants_none h.1 rfl (if_pos hc15) rfl (aops_nil ⟨rfl,rfl⟩)) rfl (vs 2 rfl (cD rfl rfl rfl rfl (W33 _ _ _ _ hx17) rfl (xD (OD.mk [(35,(sV ((([105,102,97,99,101,32]:List UInt8)++x12.Name)++([32]:List UInt8)))),(38,(sV y16))] [] [(39,(sV (((([105,102,97,99,101,32]:List UInt8)++x12.Name)++([32]:List UInt8))++y16)))] []) ⟨⟨rfl,rfl,trivial⟩,trivial⟩ (by exact fun S hn h hh=>aops_binT (str (((([105,102,97,99,101,32]:List UInt8)++x12.Name)++([32]:List UInt8))++y16)) wants_none h.1 h.2.1 (if_pos hc18) rfl (aops_nil ⟨rfl,rfl⟩)) rfl (xD (OD.mk [(39,(sV (((([105,102,97,99,101,32]:List UInt8)++x12.Name)++([32]:List UInt8))++y16)))] [] [(40,(sV ((((([105,102,97,99,101,32]:List UInt8)++x12.Name)++([32]:List UInt8))++y16)++([10]:List UInt8))))] []) ⟨⟨rfl,trivial⟩,trivial⟩ (by exact fun S hn h hh=>aops_binT (str ((((([105,102,97,99,101,32]:List UInt8)++x12.Name)++([32]:List UInt8))++y16)++([10]:List UInt8))) wants_none h.1 rfl (if_pos hc19) rfl (aops_nil ⟨rfl,rfl⟩)) rfl (xD (OD.mk [(5,(V.ptr 1 2 0 0)),(40,(sV ((((([105,102,97,99,101,32]:List UInt8)++x12.Name)++([32]:List UInt8))++y16)++([10]:List UInt8))))] [(1,(Ob.bld 80 5 s10))] [(41,(V.tup [(iV (((((([105,102,97,99,101,32]:List UInt8)++x12.Name)++([32]:List UInt8))++y16)++([10]:List UInt8)).length:Int)),(V.con .nilIface)]))] [(1,(Ob.bld 80 5 (s10++((((([105,102,97,99,101,32]:List UInt8)++x12.Name)++([32]:List UInt8))++y16)++([10]:List UInt8)))))]) ⟨⟨rfl,rfl,trivial⟩,⟨rfl,trivial⟩⟩ (by exact fun S hn h hh=>aops_mcall_atH [] hn (fun _ hx=>nomatch hx) (V.tup [(iV (((((([105,102,97,99,101,32]:List UInt8)++x12.Name)++([32]:List UInt8))++y16)++([10]:List UInt8)).length:Int)),(V.con .nilIface)]) [(V.ptr 1 2 0 0),(sV ((((([105,102,97,99,101,32]:List UInt8)++x12.Name)++([32]:List UInt8))++y16)++([10]:List UInt8)))] (fun i=>([1]:List Nat).getD i 0) (fun i=>([1]:List Nat).getD i 0) [(1,(Ob.bld 80 5 (s10++((((([105,102,97,99,101,32]:List UInt8)++x12.Name)++([32]:List UInt8))++y16)++([10]:List UInt8)))))] fOk32 wants_none rfl (evm_cons h.1 (evm_cons h.2.1 evm_nil)) (.cons (Sub.ptr rfl rfl) (.cons (Sub.imm (Imm.con _)) .nil)) (HpSub.consE (id:=0) rfl hh.1 ObSub.bld .nil) (W32 F ((((([105,102,97,99,101,32]:List UInt8)++x12.Name)++([32]:List UInt8))++y16)++([10]:List UInt8)) s10 y20 hx21) rfl rfl rfl rfl (Sub.immT (Imm.tup (.cons (Imm.con _) (.cons (Imm.con _) .nil)))) (.cons rfl ObSub.bld .nil) (aops_nil ⟨rfl,rfl⟩)) rfl .nil)))))))) (by kernel_rfl) ?_
   refine rn 5 rfl ?_
   exact jX ((w64 (n9+1)),(s10++((((([105,102,97,99,101,32]:List UInt8)++x12.Name)++([32]:List UInt8))++y16)++([10]:List UInt8)))) (hk1 _ h) (gr [0,1] rfl (hB rfl rfl rfl (hU rfl rfl .nil)) rfl)
  replace h:=RG.f h hb11
  unfold M9_L1 at h
  refine rn 1 rfl ?_
  exact jX s10 h (gr [0,1] rfl (hB rfl rfl rfl (hU rfl rfl .nil)) rfl)
 intro s6 h
 refine rn 5 rfl ?_
 refine ln rfl rfl ?_
 refine rn 2 rfl ?_
 refine jK h (fun(p:(List UInt8))=>(⟨[(1,(V.ptr 0 4 0 0)),(5,(V.ptr 1 2 0 0))],[(0,(Ob.arr 27 4 [(encTGraph a1)])),(1,(Ob.bld 80 5 p))],2⟩:St)) (fun k23 p=>k23 p=some r) (fun k23 h=>?_) ?_
 ·refine rn 1 rfl ?_
  refine wl (A:=a1.Types) 44 rfl (fun hA54=>?_)
  refine lC (fun(p:Int×(List UInt8))=>(⟨[(1,(V.ptr 0 4 0 0)),(5,(V.ptr 1 2 0 0)),(44,(V.lst 2 (a1.Types.map encTType))),(45,(iV ((a1.Types.length:Nat):Int))),(46,(iV (p.1)))],[(0,(Ob.arr 27 4 [(encTGraph a1)])),(1,(Ob.bld 80 5 (p.2)))],2⟩:St)) (fun n p=>RG a1.Types (fun tl nn=>M9_L2 F k23 tl p.2=some r) n p.1) (fun p h=>RG.zero h) (a1.Types.length+1) (0,s6) (RG.start h) (gr [0,1] rfl (hB rfl rfl rfl (hU rfl rfl .nil)) rfl) (fun n p h=>?_)
  obtain⟨n27,s28⟩:=p
  refine rn 5 rfl ?_
  refine spL rfl (fun hb29=>?_) (fun hb29=>?_)
  ·obtain⟨x32,tl,hx33,h,hk2⟩:=RG.t hA54 h hb29
   unfold M9_L2 at h
   refine rn 2 rfl ?_
   refine jK h (fun(p:(List UInt8))=>(⟨[(1,(V.ptr 0 4 0 0)),(5,(V.ptr 1 2 0 0)),(44,(V.lst 2 (a1.Types.map encTType))),(45,(iV ((a1.Types.length:Nat):Int))),(46,(iV n27))],[(0,(Ob.arr 27 4 [(encTGraph a1)])),(1,(Ob.bld 80 5 p))],2⟩:St)) (fun k30 p=>k30 p=some r) (fun k30 h=>?_) ?_
   ·refine rn 3 rfl ?_
    refine ixh hx33 rfl rfl ?_
    refine rn 8 rfl ?_
    refine ck h (fun hc34 h=>?_)
    refine aops_binT (str (([116,121,112,101,32]:List UInt8)++x32.Name)) wants_none rfl rfl (if_pos hc34) rfl ?_
    refine ck h (fun hc35 h=>?_)
    refine aops_binT (str ((([116,121,112,101,32]:List UInt8)++x32.Name)++([10]:List UInt8))) wants_none rfl rfl (if_pos hc35) rfl ?_
    obtain⟨y36,hx37,h⟩:=bind_some h
    refine aops_mcallS (V.tup [(iV (((([116,121,112,101,32]:List UInt8)++x32.Name)++([10]:List UInt8)).length:Int)),(V.con .nilIface)]) [(V.ptr 1 2 0 0),(sV ((([116,121,112,101,32]:List UInt8)++x32.Name)++([10]:List UInt8)))] (fun i=>([1]:List Nat).getD i 0) (fun i=>([1]:List Nat).getD i 0) 3 3 [(1,(Ob.bld 80 5 (s28++((([116,121,112,101,32]:List UInt8)++x32.Name)++([10]:List UInt8)))))] fOk32 wants_none rfl (evm_cons rfl (evm_cons rfl evm_nil)) (.cons (Sub.ptr rfl rfl) (.cons (Sub.imm (Imm.con _)) .nil)) (.cons rfl ObSub.bld .nil) (W32 F ((([116,121,112,101,32]:List UInt8)++x32.Name)++([10]:List UInt8)) s28 y36 hx37) rfl rfl rfl rfl (Sub.immT (Imm.tup (.cons (Imm.con _) (.cons (Imm.con _) .nil)))) (.cons rfl ObSub.bld .nil) _ rfl ?_
    refine fo (rn 5 rfl ?_)
    refine ln rfl rfl ?_
    refine rn 2 rfl ?_
    refine jK h (fun(p:(List UInt8))=>(⟨[(1,(V.ptr 0 4 0 0)),(5,(V.ptr 1 2 0 0)),(44,(V.lst 2 (a1.Types.map encTType))),(45,(iV ((a1.Types.length:Nat):Int))),(46,(iV n27))],[(0,(Ob.arr 27 4 [(encTGraph a1)])),(1,(Ob.bld 80 5 p))],2⟩:St)) (fun k38 p=>k38 p=some r) (fun k38 h=>?_) ?_
    ·refine rn 1 rfl ?_
     refine wl (A:=x32.Methods) 56 rfl (fun hA53=>?_)
     refine lC (fun(p:Int×(List UInt8))=>(⟨[(1,(V.ptr 0 4 0 0)),(5,(V.ptr 1 2 0 0)),(44,(V.lst 2 (a1.Types.map encTType))),(45,(iV ((a1.Types.length:Nat):Int))),(46,(iV n27)),(56,(V.lst 2 (x32.Methods.map encTMethod))),(57,(iV ((x32.Methods.length:Nat):Int))),(58,(iV (p.1)))],[(0,(Ob.arr 27 4 [(encTGraph a1)])),(1,(Ob.bld 80 5 (p.2)))],2⟩:St)) (fun n p=>RG x32.Methods (fun tl nn=>M9_L3 F k38 tl p.2=some r) n p.1) (fun p h=>RG.zero h) (x32.Methods.length+1) (0,(s28++((([116,121,112,101,32]:List UInt8)++x32.Name)++([10]:List UInt8)))) (RG.start h) (gr [0,1] rfl (hB rfl rfl rfl (hU rfl rfl .nil)) rfl) (fun n p h=>?_)
     obtain⟨n42,s43⟩:=p
     refine rn 5 rfl ?_
     refine spL rfl (fun hb44=>?_) (fun hb44=>?_)
     ·obtain⟨x45,tl,hx46,h,hk3⟩:=RG.t hA53 h hb44
      unfold M9_L3 at h
      refine rn 5 rfl ?_
      refine ixh hx46 rfl rfl ?_
      refine rn 7 rfl ?_
      refine ck h (fun hc47 h=>?_)
      refine aops_binT (str (([109,101,116,104,111,100,32]:List UInt8)++x45.Name)) wants_none rfl rfl (if_pos hc47) rfl ?_
      refine ck h (fun hc48 h=>?_)
      refine aops_binT (str ((([109,101,116,104,111,100,32]:List UInt8)++x45.Name)++([32]:List UInt8))) wants_none rfl rfl (if_pos hc48) rfl ?_
      refine fo (rn 2 rfl ?_)
      refine ck h (fun hc49 h=>?_)
      refine aops_binT (str (((([109,101,116,104,111,100,32]:List UInt8)++x45.Name)++([32]:List UInt8))++x45.Func)) wants_none rfl rfl (if_pos hc49) rfl ?_
      refine ck h (fun hc50 h=>?_)
      refine aops_binT (str ((((([109,101,116,104,111,100,32]:List UInt8)++x45.Name)++([32]:List UInt8))++x45.Func)++([10]:List UInt8))) wants_none rfl rfl (if_pos hc50) rfl ?_
      obtain⟨y51,hx52,h⟩:=bind_some h
      refine aops_mcallS (V.tup [(iV (((((([109,101,116,104,111,100,32]:List UInt8)++x45.Name)++([32]:List UInt8))++x45.Func)++([10]:List UInt8)).length:Int)),(V.con .nilIface)]) [(V.ptr 1 2 0 0),(sV ((((([109,101,116,104,111,100,32]:List UInt8)++x45.Name)++([32]:List UInt8))++x45.Func)++([10]:List UInt8)))] (fun i=>([1]:List Nat).getD i 0) (fun i=>([1]:List Nat).getD i 0) 3 3 [(1,(Ob.bld 80 5 (s43++((((([109,101,116,104,111,100,32]:List UInt8)++x45.Name)++([32]:List UInt8))++x45.Func)++([10]:List UInt8)))))] fOk32 wants_none rfl (evm_cons rfl (evm_cons rfl evm_nil)) (.cons (Sub.ptr rfl rfl) (.cons (Sub.imm (Imm.con _)) .nil)) (.cons rfl ObSub.bld .nil) (W32 F ((((([109,101,116,104,111,100,32]:List UInt8)++x45.Name)++([32]:List UInt8))++x45.Func)++([10]:List UInt8)) s43 y51 hx52) rfl rfl rfl rfl (Sub.immT (Imm.tup (.cons (Imm.con _) (.cons (Imm.con _) .nil)))) (.cons rfl ObSub.bld .nil) _ rfl ?_
      refine fo (rn 6 rfl ?_)
      exact jX ((w64 (n42+1)),(s43++((((([109,101,116,104,111,100,32]:List UInt8)++x45.Name)++([32]:List UInt8))++x45.Func)++([10]:List UInt8)))) (hk3 _ h) (gr [0,1] rfl (hB rfl rfl rfl (hU rfl rfl .nil)) rfl)
     replace h:=RG.f h hb44
     unfold M9_L3 at h
     refine rn 1 rfl ?_
     exact jX s43 h (gr [0,1] rfl (hB rfl rfl rfl (hU rfl rfl .nil)) rfl)
    intro s39 h
    refine rn 1 rfl ?_
    exact jX s39 h (gr [0,1] rfl (hB rfl rfl rfl (hU rfl rfl .nil)) rfl)
   intro s31 h
   refine rn 4 rfl ?_
   exact jX ((w64 (n27+1)),s31) (hk2 _ h) (gr [0,1] rfl (hB rfl rfl rfl (hU rfl rfl .nil)) rfl)
  replace h:=RG.f h hb29
  unfold M9_L2 at h
  refine rn 1 rfl ?_
  exact jX s28 h (gr [0,1] rfl (hB rfl rfl rfl (hU rfl rfl .nil)) rfl)
 intro s24 h
 refine rn 5 rfl ?_
 refine ln rfl rfl ?_
 refine rn 2 rfl ?_
 refine jK h (fun(p:(List UInt8))=>(⟨[(1,(V.ptr 0 4 0 0)),(5,(V.ptr 1 2 0 0))],[(0,(Ob.arr 27 4 [(encTGraph a1)])),(1,(Ob.bld 80 5 p))],2⟩:St)) (fun k55 p=>k55 p=some r) (fun k55 h=>?_) ?_
 ·refine rn 1 rfl ?_
  refine wl (A:=a1.Funcs) 74 rfl (fun hA100=>?_)
  refine lC (fun(p:Int×(List UInt8))=>(⟨[(1,(V.ptr 0 4 0 0)),(5,(V.ptr 1 2 0 0)),(74,(V.lst 4 (a1.Funcs.map encTFunc))),(75,(iV ((a1.Funcs.length:Nat):Int))),(76,(iV (p.1)))],[(0,(Ob.arr 27 4 [(encTGraph a1)])),(1,(Ob.bld 80 5 (p.2)))],2⟩:St)) (fun n p=>RG a1.Funcs (fun tl nn=>M9_L4 F k55 tl p.2=some r) n p.1) (fun p h=>RG.zero h) (a1.Funcs.length+1) (0,s24) (RG.start h) (gr [0,1] rfl (hB rfl rfl rfl (hU rfl rfl .nil)) rfl) (fun n p h=>?_)
  obtain⟨n59,s60⟩:=p
  refine rn 5 rfl ?_
  refine spL rfl (fun hb61=>?_) (fun hb61=>?_)
  ·obtain⟨x64,tl,hx65,h,hk4⟩:=RG.t hA100 h hb61
   unfold M9_L4 at h
   refine rn 2 rfl ?_
   refine jK h (fun(p:(List UInt8))=>(⟨[(1,(V.ptr 0 4 0 0)),(5,(V.ptr 1 2 0 0)),(74,(V.lst 4 (a1.Funcs.map encTFunc))),(75,(iV ((a1.Funcs.length:Nat):Int))),(76,(iV n59))],[(0,(Ob.arr 27 4 [(encTGraph a1)])),(1,(Ob.bld 80 5 p))],2⟩:St)) (fun k62 p=>k62 p=some r) (fun k62 h=>?_) ?_
   ·refine rn 3 rfl ?_
    refine ixh hx65 rfl rfl ?_
    refine rn 8 rfl ?_
    refine ck h (fun hc66 h=>?_)
    refine aops_binT (str (([102,117,110,99,32]:List UInt8)++x64.Name)) wants_none rfl rfl (if_pos hc66) rfl ?_
    refine ck h (fun hc67 h=>?_)
    refine aops_binT (str ((([102,117,110,99,32]:List UInt8)++x64.Name)++([32]:List UInt8))) wants_none rfl rfl (if_pos hc67) rfl ?_
    refine fo (rn 2 rfl ?_)
    refine ck h (fun hc68 h=>?_)
    refine aops_binT (str (((([102,117,110,99,32]:List UInt8)++x64.Name)++([32]:List UInt8))++x64.Component)) wants_none rfl rfl (if_pos hc68) rfl ?_
    refine ck h (fun hc69 h=>?_)
    refine aops_binT (str ((((([102,117,110,99,32]:List UInt8)++x64.Name)++([32]:List UInt8))++x64.Component)++([10]:List UInt8))) wants_none rfl rfl (if_pos hc69) rfl ?_
    obtain⟨y70,hx71,h⟩:=bind_some h
    refine aops_mcallS (V.tup [(iV (((((([102,117,110,99,32]:List UInt8)++x64.Name)++([32]:List UInt8))++x64.Component)++([10]:List UInt8)).length:Int)),(V.con .nilIface)]) [(V.ptr 1 2 0 0),(sV ((((([102,117,110,99,32]:List UInt8)++x64.Name)++([32]:List UInt8))++x64.Component)++([10]:List UInt8)))] (fun i=>([1]:List Nat).getD i 0) (fun i=>([1]:List Nat).getD i 0) 3 3 [(1,(Ob.bld 80 5 (s60++((((([102,117,110,99,32]:List UInt8)++x64.Name)++([32]:List UInt8))++x64.Component)++([10]:List UInt8)))))] fOk32 wants_none rfl (evm_cons rfl (evm_cons rfl evm_nil)) (.cons (Sub.ptr rfl rfl) (.cons (Sub.imm (Imm.con _)) .nil)) (.cons rfl ObSub.bld .nil) (W32 F ((((([102,117,110,99,32]:List UInt8)++x64.Name)++([32]:List UInt8))++x64.Component)++([10]:List UInt8)) s60 y70 hx71) rfl rfl rfl rfl (Sub.immT (Imm.tup (.cons (Imm.con _) (.cons (Imm.con _) .nil)))) (.cons rfl ObSub.bld .nil) _ rfl ?_
    refine fo (rn 6 rfl ?_)
    refine ln rfl rfl ?_
    refine rn 2 rfl ?_
    refine jK h (fun(p:(List UInt8))=>(⟨[(1,(V.ptr 0 4 0 0)),(5,(V.ptr 1 2 0 0)),(13,(V.ptr 2 4 0 0)),(74,(V.lst 4 (a1.Funcs.map encTFunc))),(75,(iV ((a1.Funcs.length:Nat):Int))),(76,(iV n59))],[(0,(Ob.arr 27 4 [(encTGraph a1)])),(1,(Ob.bld 80 5 p)),(2,(Ob.arr 71 4 [(encTFunc x64)]))],3⟩:St)) (fun k72 p=>k72 p=some r) (fun k72 h=>?_) ?_
    ·refine rn 1 rfl ?_
     refine wl (A:=x64.Calls) 90 rfl (fun hA85=>?_)
     refine lC (fun(p:Int×(List UInt8))=>(⟨[(1,(V.ptr 0 4 0 0)),(5,(V.ptr 1 2 0 0)),(13,(V.ptr 2 4 0 0)),(74,(V.lst 4 (a1.Funcs.map encTFunc))),(75,(iV ((a1.Funcs.length:Nat):Int))),(76,(iV n59)),(90,(V.lst 4 (x64.Calls.map encTCall))),(91,(iV ((x64.Calls.length:Nat):Int))),(92,(iV (p.1)))],[(0,(Ob.arr 27 4 [(encTGraph a1)])),(1,(Ob.bld 80 5 (p.2))),(2,(Ob.arr 71 4 [(encTFunc x64)]))],3⟩:St)) (fun n p=>RG x64.Calls (fun tl nn=>M9_L5 F k72 tl p.2=some r) n p.1) (fun p h=>RG.zero h) (x64.Calls.length+1) (0,(s60++((((([102,117,110,99,32]:List UInt8)++x64.Name)++([32]:List UInt8))++x64.Component)++([10]:List UInt8)))) (RG.start h) (gr [0,1,2] rfl (hB rfl rfl rfl (hU rfl rfl (hB rfl rfl rfl .nil))) rfl) (fun n p h=>?_)
     obtain⟨n76,s77⟩:=p
     refine rn 5 rfl ?_
     refine spL rfl (fun hb78=>?_) (fun hb78=>?_)
     ·obtain⟨x79,tl,hx80,h,hk5⟩:=RG.t hA85 h hb78
      unfold M9_L5 at h
      refine rn 5 rfl ?_
      refine ixh hx80 rfl rfl ?_
      refine rn 6 rfl ?_
      refine cl h rfl rfl rfl (W34 _ _) rfl (fun y81 hx82 h=>?_)
      obtain⟨y83,hx84,h⟩:=bind_some h
      refine aops_mcallS (V.tup [(iV (y81.length:Int)),(V.con .nilIface)]) [(V.ptr 1 2 0 0),(sV y81)] (fun i=>([1]:List Nat).getD i 0) (fun i=>([1]:List Nat).getD i 0) 4 4 [(1,(Ob.bld 80 5 (s77++y81)))] fOk32 wants_none rfl (evm_cons rfl (evm_cons rfl evm_nil)) (.cons (Sub.ptr rfl rfl) (.cons (Sub.imm (Imm.con _)) .nil)) (.cons rfl ObSub.bld .nil) (W32 F y81 s77 y83 hx84) rfl rfl rfl rfl (Sub.immT (Imm.tup (.cons (Imm.con _) (.cons (Imm.con _) .nil)))) (.cons rfl ObSub.bld .nil) _ rfl ?_
      refine fo (rn 6 rfl ?_)
      exact jX ((w64 (n76+1)),(s77++y81)) (hk5 _ h) (gr [0,1,2] rfl (hB rfl rfl rfl (hU rfl rfl (hB rfl rfl rfl .nil))) rfl)
     replace h:=RG.f h hb78
     unfold M9_L5 at h
     refine rn 1 rfl ?_
     exact jX s77 h (gr [0,1,2] rfl (hB rfl rfl rfl (hU rfl rfl (hB rfl rfl rfl .nil))) rfl)
    intro s73 h
    refine rn 4 rfl ?_
    refine ln rfl rfl ?_
    refine rn 2 rfl ?_
    refine jK h (fun(p:(List UInt8))=>(⟨[(1,(V.ptr 0 4 0 0)),(5,(V.ptr 1 2 0 0)),(74,(V.lst 4 (a1.Funcs.map encTFunc))),(75,(iV ((a1.Funcs.length:Nat):Int))),(76,(iV n59))],[(0,(Ob.arr 27 4 [(encTGraph a1)])),(1,(Ob.bld 80 5 p))],2⟩:St)) (fun k86 p=>k86 p=some r) (fun k86 h=>?_) ?_
    ·refine rn 1 rfl ?_
     refine wl (A:=x64.Makes) 101 rfl (fun hA99=>?_)
     refine lC (fun(p:Int×(List UInt8))=>(⟨[(1,(V.ptr 0 4 0 0)),(5,(V.ptr 1 2 0 0)),(74,(V.lst 4 (a1.Funcs.map encTFunc))),(75,(iV ((a1.Funcs.length:Nat):Int))),(76,(iV n59)),(101,(V.lst 1 (x64.Makes.map encS))),(102,(iV ((x64.Makes.length:Nat):Int))),(103,(iV (p.1)))],[(0,(Ob.arr 27 4 [(encTGraph a1)])),(1,(Ob.bld 80 5 (p.2)))],2⟩:St)) (fun n p=>RG x64.Makes (fun tl nn=>M9_L6 F k86 tl p.2=some r) n p.1) (fun p h=>RG.zero h) (x64.Makes.length+1) (0,s73) (RG.start h) (gr [0,1] rfl (hB rfl rfl rfl (hU rfl rfl .nil)) rfl) (fun n p h=>?_)
     obtain⟨n90,s91⟩:=p
     refine rn 5 rfl ?_
     refine spL rfl (fun hb92=>?_) (fun hb92=>?_)
     ·obtain⟨x93,tl,hx94,h,hk6⟩:=RG.t hA99 h hb92
      unfold M9_L6 at h
      refine rn 5 rfl ?_
      refine ixh hx94 rfl rfl ?_
      refine rn 5 rfl ?_
      refine ck h (fun hc95 h=>?_)
      refine aops_binT (str (([109,97,107,101,115,32]:List UInt8)++x93)) wants_none rfl rfl (if_pos hc95) rfl ?_
      refine ck h (fun hc96 h=>?_)
      refine aops_binT (str ((([109,97,107,101,115,32]:List UInt8)++x93)++([10]:List UInt8))) wants_none rfl rfl (if_pos hc96) rfl ?_
      obtain⟨y97,hx98,h⟩:=bind_some h
      refine aops_mcallS (V.tup [(iV (((([109,97,107,101,115,32]:List UInt8)++x93)++([10]:List UInt8)).length:Int)),(V.con .nilIface)]) [(V.ptr 1 2 0 0),(sV ((([109,97,107,101,115,32]:List UInt8)++x93)++([10]:List UInt8)))] (fun i=>([1]:List Nat).getD i 0) (fun i=>([1]:List Nat).getD i 0) 2 2 [(1,(Ob.bld 80 5 (s91++((([109,97,107,101,115,32]:List UInt8)++x93)++([10]:List UInt8)))))] fOk32 wants_none rfl (evm_cons rfl (evm_cons rfl evm_nil)) (.cons (Sub.ptr rfl rfl) (.cons (Sub.imm (Imm.con _)) .nil)) (.cons rfl ObSub.bld .nil) (W32 F ((([109,97,107,101,115,32]:List UInt8)++x93)++([10]:List UInt8)) s91 y97 hx98) rfl rfl rfl rfl (Sub.immT (Imm.tup (.cons (Imm.con _) (.cons (Imm.con _) .nil)))) (.cons rfl ObSub.bld .nil) _ rfl ?_
      refine fo (rn 6 rfl ?_)
      exact jX ((w64 (n90+1)),(s91++((([109,97,107,101,115,32]:List UInt8)++x93)++([10]:List UInt8)))) (hk6 _ h) (gr [0,1] rfl (hB rfl rfl rfl (hU rfl rfl .nil)) rfl)
     replace h:=RG.f h hb92
     unfold M9_L6 at h
     refine rn 1 rfl ?_
     exact jX s91 h (gr [0,1] rfl (hB rfl rfl rfl (hU rfl rfl .nil)) rfl)
    intro s87 h
    refine rn 1 rfl ?_
    exact jX s87 h (gr [0,1] rfl (hB rfl rfl rfl (hU rfl rfl .nil)) rfl)
   intro s63 h
   refine rn 4 rfl ?_
   exact jX ((w64 (n59+1)),s63) (hk4 _ h) (gr [0,1] rfl (hB rfl rfl rfl (hU rfl rfl .nil)) rfl)
  replace h:=RG.f h hb61
  unfold M9_L4 at h
  refine rn 1 rfl ?_
  exact jX s60 h (gr [0,1] rfl (hB rfl rfl rfl (hU rfl rfl .nil)) rfl)
 intro s56 h
 refine rn 5 rfl ?_
 refine ln rfl rfl ?_
 refine rn 2 rfl ?_
 refine jK h (fun(p:(List UInt8))=>(⟨[(5,(V.ptr 0 2 0 0))],[(0,(Ob.bld 80 5 p))],1⟩:St)) (fun k101 p=>k101 p=some r) (fun k101 h=>?_) ?_
 ·refine rn 1 rfl ?_
  refine wl (A:=a1.Entries) 114 rfl (fun hA114=>?_)
  refine lC (fun(p:Int×(List UInt8))=>(⟨[(5,(V.ptr 0 2 0 0)),(114,(V.lst 1 (a1.Entries.map encS))),(115,(iV ((a1.Entries.length:Nat):Int))),(116,(iV (p.1)))],[(0,(Ob.bld 80 5 (p.2)))],1⟩:St)) (fun n p=>RG a1.Entries (fun tl nn=>M9_L7 F k101 tl p.2=some r) n p.1) (fun p h=>RG.zero h) (a1.Entries.length+1) (0,s56) (RG.start h) (gr [1] rfl (hU rfl rfl .nil) rfl) (fun n p h=>?_)
  obtain⟨n105,s106⟩:=p
  refine rn 5 rfl ?_
  refine spL rfl (fun hb107=>?_) (fun hb107=>?_)
  ·obtain⟨x108,tl,hx109,h,hk7⟩:=RG.t hA114 h hb107
   unfold M9_L7 at h
   refine rn 5 rfl ?_
   refine ixh hx109 rfl rfl ?_
   refine rn 5 rfl ?_
   refine ck h (fun hc110 h=>?_)
   refine aops_binT (str (([101,110,116,114,121,32]:List UInt8)++x108)) wants_none rfl rfl (if_pos hc110) rfl ?_
   refine ck h (fun hc111 h=>?_)
   refine aops_binT (str ((([101,110,116,114,121,32]:List UInt8)++x108)++([10]:List UInt8))) wants_none rfl rfl (if_pos hc111) rfl ?_
   obtain⟨y112,hx113,h⟩:=bind_some h
   refine aops_mcallS (V.tup [(iV (((([101,110,116,114,121,32]:List UInt8)++x108)++([10]:List UInt8)).length:Int)),(V.con .nilIface)]) [(V.ptr 0 2 0 0),(sV ((([101,110,116,114,121,32]:List UInt8)++x108)++([10]:List UInt8)))] (fun i=>([0]:List Nat).getD i 0) (fun i=>([0]:List Nat).getD i 0) 1 1 [(0,(Ob.bld 80 5 (s106++((([101,110,116,114,121,32]:List UInt8)++x108)++([10]:List UInt8)))))] fOk32 wants_none rfl (evm_cons rfl (evm_cons rfl evm_nil)) (.cons (Sub.ptr rfl rfl) (.cons (Sub.imm (Imm.con _)) .nil)) (.cons rfl ObSub.bld .nil) (W32 F ((([101,110,116,114,121,32]:List UInt8)++x108)++([10]:List UInt8)) s106 y112 hx113) rfl rfl rfl rfl (Sub.immT (Imm.tup (.cons (Imm.con _) (.cons (Imm.con _) .nil)))) (.cons rfl ObSub.bld .nil) _ rfl ?_
   refine fo (rn 6 rfl ?_)
   exact jX ((w64 (n105+1)),(s106++((([101,110,116,114,121,32]:List UInt8)++x108)++([10]:List UInt8)))) (hk7 _ h) (gr [0] rfl (hU rfl rfl .nil) rfl)
  replace h:=RG.f h hb107
  unfold M9_L7 at h
  refine rn 1 rfl ?_
  exact jX s106 h (gr [0] rfl (hU rfl rfl .nil) rfl)
 intro s102 h
 obtain⟨y115,hx116,h⟩:=bind_some h
 refine rn 3 rfl ?_
 refine aops_mcallS (iV ((s102.length:Nat):Int)) [(V.ptr 0 2 0 0)] (fun i=>([0]:List Nat).getD i 0) (fun i=>([0]:List Nat).getD i 0) 1 1 [(0,(Ob.bld 80 5 s102))] fOk35 wants_none rfl (evm_cons rfl evm_nil) (.cons (Sub.ptr rfl rfl) .nil) (.cons rfl ObSub.bld .nil) (W35 F s102 y115 hx116) rfl rfl rfl rfl (Sub.immT (Imm.con _)) (.cons rfl ObSub.bld .nil) _ rfl ?_
 refine fo (rn 2 rfl ?_)
 refine spC h rfl (fun hb117 h=>?_) (fun hb117 h=>?_)
 ·refine rn 5 rfl ?_
  exact rt h rfl
 obtain⟨y118,hx119,h⟩:=bind_some h
 refine rn 3 rfl ?_
 refine aops_mcallS (sV s102) [(V.ptr 0 2 0 0)] (fun i=>([0]:List Nat).getD i 0) (fun i=>([0]:List Nat).getD i 0) 1 1 [(0,Ob.dead)] fOk36 wants_none rfl (evm_cons rfl evm_nil) (.cons (Sub.ptr rfl rfl) .nil) (.cons rfl ObSub.bld .nil) (W36 F s102 y118 hx119) rfl rfl rfl rfl (Sub.immT (Imm.con _)) (.cons rfl ObSub.deadT .nil) _ rfl ?_
 refine fo (rn 3 rfl ?_)
 exact rt h rfl
theorem W65(F:Nat)(a1:TGraph)(r:Tprovenderref6_names)(h:M65 F a1=some r):PureG (gl mx) Tryz.prog 65 [(V.agg (encTGraph a1))] (V.agg (encTprovenderref6_names r)):=by
 refine pin (fun r=>(V.agg (encTprovenderref6_names r))) r rfl Tryz.func65 rfl rfl rfl rfl rfl (fun w0 m0 hg=>?_)
 unfold M65 at h
 refine rn 19 rfl ?_
 refine ln rfl rfl ?_
 refine rn 2 rfl ?_
 refine jK h (fun(p:(List ((List UInt8)×(List ((List UInt8)×Bool)))))=>(⟨[(1,(V.ptr 0 4 0 0)),(2,(V.ptr 1 3 0 0)),(3,(V.ptr 2 3 0 0))],[(0,(Ob.arr 27 4 [(encTGraph a1)])),(1,(Ob.arr 124 3 [[(V.con (.map none)),(V.con (.map none)),(V.con (.map none))]])),(2,(Ob.arr 124 3 [[(V.map 3),(V.map 4),(V.map 5)]])),(3,(Ob.map (p.map encM9_264))),(4,(Ob.map (([]:List ((List UInt8)×Bool)).map encM9_4))),(5,(Ob.map (([]:List ((List UInt8)×Bool)).map encM9_4)))],6⟩:St)) (fun k2 p=>k2 p=some r) (fun k2 h=>?_) ?_
 ·refine rn 1 rfl ?_
  refine wl (A:=a1.Ifaces) 17 rfl (fun hA24=>?_)
  refine lC (fun(p:Int×(List ((List UInt8)×(List ((List UInt8)×Bool)))))=>(⟨[(1,(V.ptr 0 4 0 0)),(2,(V.ptr 1 3 0 0)),(3,(V.ptr 2 3 0 0)),(17,(V.lst 2 (a1.Ifaces.map encTIface))),(18,(iV ((a1.Ifaces.length:Nat):Int))),(19,(iV (p.1)))],[(0,(Ob.arr 27 4 [(encTGraph a1)])),(1,(Ob.arr 124 3 [[(V.con (.map none)),(V.con (.map none)),(V.con (.map none))]])),(2,(Ob.arr 124 3 [[(V.map 3),(V.map 4),(V.map 5)]])),(3,(Ob.map ((p.2).map encM9_264))),(4,(Ob.map (([]:List ((List UInt8)×Bool)).map encM9_4))),(5,(Ob.map (([]:List ((List UInt8)×Bool)).map encM9_4)))],6⟩:St)) (fun n p=>RG a1.Ifaces (fun tl nn=>M65_L1 F k2 tl p.2=some r) n p.1) (fun p h=>RG.zero h) (a1.Ifaces.length+1) (0,([]:List ((List UInt8)×(List ((List UInt8)×Bool))))) (RG.start h) (gr [0,1,5,2,3,4] rfl (hB rfl rfl rfl (hB rfl rfl rfl (hB rfl rfl rfl (hM rfl rfl (hM rfl rfl (hM rfl rfl .nil)))))) rfl) (fun n p h=>?_)
  obtain⟨n6,m7⟩:=p
  refine rn 5 rfl ?_
  refine spL rfl (fun hb8=>?_) (fun hb8=>?_)
  ·obtain⟨x11,tl,hx12,h,hk1⟩:=RG.t hA24 h hb8
   unfold M65_L1 at h
   refine rn 2 rfl ?_
   refine jK h (fun(p:(List ((List UInt8)×(List ((List UInt8)×Bool)))))=>(⟨[(1,(V.ptr 0 4 0 0)),(2,(V.ptr 1 3 0 0)),(3,(V.ptr 2 3 0 0)),(17,(V.lst 2 (a1.Ifaces.map encTIface))),(18,(iV ((a1.Ifaces.length:Nat):Int))),(19,(iV n6))],[(0,(Ob.arr 27 4 [(encTGraph a1)])),(1,(Ob.arr 124 3 [[(V.con (.map none)),(V.con (.map none)),(V.con (.map none))]])),(2,(Ob.arr 124 3 [[(V.map 3),(V.map 4),(V.map 5)]])),(3,(Ob.map (p.map encM9_264))),(4,(Ob.map (([]:List ((List UInt8)×Bool)).map encM9_4))),(5,(Ob.map (([]:List ((List UInt8)×Bool)).map encM9_4)))],6⟩:St)) (fun k9 p=>k9 p=some r) (fun k9 h=>?_) ?_
   ·refine rn 3 rfl ?_
    refine ixh hx12 rfl rfl ?_
    refine rn 11 rfl ?_
    refine aops_mapUpdate_deepG (id2:=7) (o:=(V.map 7)) (dv:=(.dmp (([]:List ((List UInt8)×Bool)).map encM9_4))) (ob:=(.map (([]:List ((List UInt8)×Bool)).map encM9_4))) ((mput m7 x11.Name ([]:List ((List UInt8)×Bool))).map encM9_264) tMap122 tKey9 wants_none rfl rfl (.con rfl) ⟨_,rfl⟩ encM9_264_good rfl (by simp[ovl]) rfl rfl (okeep_ents encM9_4_im ([]:List ((List UInt8)×Bool))) (puts_new encM9_264 (fun k=>str k) encM9_4 (fun _=>rfl) inj_str x11.Name ([]:List ((List UInt8)×Bool)) m7) ?_
    refine fo (rn 5 rfl ?_)
    refine ln rfl rfl ?_
    refine rn 2 rfl ?_
    refine jK h (fun(p:(List ((List UInt8)×(List ((List UInt8)×Bool)))))=>(⟨[(1,(V.ptr 0 4 0 0)),(2,(V.ptr 1 3 0 0)),(3,(V.ptr 2 3 0 0)),(17,(V.lst 2 (a1.Ifaces.map encTIface))),(18,(iV ((a1.Ifaces.length:Nat):Int))),(19,(iV n6))],[(0,(Ob.arr 27 4 [(encTGraph a1)])),(1,(Ob.arr 124 3 [[(V.con (.map none)),(V.con (.map none)),(V.con (.map none))]])),(2,(Ob.arr 124 3 [[(V.map 3),(V.map 4),(V.map 5)]])),(3,(Ob.map (p.map encM9_264))),(4,(Ob.map (([]:List ((List UInt8)×Bool)).map encM9_4))),(5,(Ob.map (([]:List ((List UInt8)×Bool)).map encM9_4)))],6⟩:St)) (fun k13 p=>k13 p=some r) (fun k13 h=>?_) ?_
    ·refine rn 1 rfl ?_
     refine wl (A:=x11.Methods) 29 rfl (fun hA23=>?_)
     refine lC (fun(p:Int×(List ((List UInt8)×(List ((List UInt8)×Bool)))))=>(⟨[(1,(V.ptr 0 4 0 0)),(2,(V.ptr 1 3 0 0)),(3,(V.ptr 2 3 0 0)),(5,(V.ptr 3 2 0 0)),(17,(V.lst 2 (a1.Ifaces.map encTIface))),(18,(iV ((a1.Ifaces.length:Nat):Int))),(19,(iV n6)),(29,(V.lst 1 (x11.Methods.map encS))),(30,(iV ((x11.Methods.length:Nat):Int))),(31,(iV (p.1)))],[(0,(Ob.arr 27 4 [(encTGraph a1)])),(1,(Ob.arr 124 3 [[(V.con (.map none)),(V.con (.map none)),(V.con (.map none))]])),(2,(Ob.arr 124 3 [[(V.map 4),(V.map 5),(V.map 6)]])),(3,(Ob.arr 56 2 [(encTIface x11)])),(4,(Ob.map ((p.2).map encM9_264))),(5,(Ob.map (([]:List ((List UInt8)×Bool)).map encM9_4))),(6,(Ob.map (([]:List ((List UInt8)×Bool)).map encM9_4)))],7⟩:St)) (fun n p=>RG x11.Methods (fun tl nn=>M65_L2 F x11 k13 tl p.2=some r) n p.1) (fun p h=>RG.zero h) (x11.Methods.length+1) (0,(mput m7 x11.Name ([]:List ((List UInt8)×Bool)))) (RG.start h) (gr [0,1,2,6,3,4,5] rfl (hB rfl rfl rfl (hB rfl rfl rfl (hB rfl rfl rfl (hB rfl rfl rfl (hM rfl rfl (hM rfl rfl (hM rfl rfl .nil))))))) rfl) (fun n p h=>?_)
     obtain⟨n17,m18⟩:=p
     refine rn 5 rfl ?_
     refine spL rfl (fun hb19=>?_) (fun hb19=>?_)
     ·obtain⟨x20,tl,hx21,h,hk2⟩:=RG.t hA23 h hb19
      unfold M65_L2 at h
      refine rn 5 rfl ?_
      refine ixh hx21 rfl rfl ?_
      refine rn 8 rfl ?_
      refine ck h (fun hc22 h=>?_)
      refine aops_lookup_tkP tMap122 tKey9 wants_none rfl rfl (.con rfl) ⟨_,rfl⟩ encM9_264_good (lookD_enc encM9_264 (fun k=>str k) encM9_4 7 (fun _=>rfl) inj_str x11.Name m18 hc22) rfl rfl ?_
      refine fo (rn 1 rfl ?_)
      refine aops_mapUpdate (es:=((mget m18 x11.Name).getD []).map encM9_4) ((mput ((mget m18 x11.Name).getD []) x20 true).map encM9_4) tMap115 tKey9 wants_none rfl rfl (.con rfl) ⟨_,rfl⟩ encM9_4_good rfl (encM9_4_puts ((mget m18 x11.Name).getD []) x20 true) ?_
      refine aops_ghost (ghost_putN 4 7 encM9_264 (fun k=>str k) encM9_4 (fun _=>rfl) hc22 rfl rfl rfl encM9_4_im) ?_
      refine fo (rn 6 rfl ?_)
      exact jX ((w64 (n17+1)),(mput m18 x11.Name (mput ((mget m18 x11.Name).getD []) x20 true))) (hk2 _ h) (gr [0,1,2,3,4,5,6] rfl (hB rfl rfl rfl (hB rfl rfl rfl (hB rfl rfl rfl (hB rfl rfl rfl (hM rfl rfl (hM rfl rfl (hM rfl rfl .nil))))))) rfl)
     replace h:=RG.f h hb19
     unfold M65_L2 at h
     refine rn 1 rfl ?_
     exact jX m18 h (gr [0,1,2,4,5,6] rfl (hB rfl rfl rfl (hB rfl rfl rfl (hB rfl rfl rfl (hM rfl rfl (hM rfl rfl (hM rfl rfl .nil)))))) rfl)
    intro m14 h
    refine rn 1 rfl ?_
    exact jX m14 h (gr [0,1,2,3,4,5] rfl (hB rfl rfl rfl (hB rfl rfl rfl (hB rfl rfl rfl (hM rfl rfl (hM rfl rfl (hM rfl rfl .nil)))))) rfl)
   intro m10 h
   refine rn 4 rfl ?_
   exact jX ((w64 (n6+1)),m10) (hk1 _ h) (gr [0,1,2,3,4,5] rfl (hB rfl rfl rfl (hB rfl rfl rfl (hB rfl rfl rfl (hM rfl rfl (hM rfl rfl (hM rfl rfl .nil)))))) rfl)
  replace h:=RG.f h hb8
  unfold M65_L1 at h
  refine rn 1 rfl ?_
  exact jX m7 h (gr [0,1,2,3,4,5] rfl (hB rfl rfl rfl (hB rfl rfl rfl (hB rfl rfl rfl (hM rfl rfl (hM rfl rfl (hM rfl rfl .nil)))))) rfl)
 intro m3 h
 refine rn 5 rfl ?_
 refine ln rfl rfl ?_
 refine rn 2 rfl ?_
 refine jK h (fun(p:(List ((List UInt8)×Bool)))=>(⟨[(1,(V.ptr 0 4 0 0)),(2,(V.ptr 1 3 0 0)),(3,(V.ptr 2 3 0 0))],[(0,(Ob.arr 27 4 [(encTGraph a1)])),(1,(Ob.arr 124 3 [[(V.con (.map none)),(V.con (.map none)),(V.con (.map none))]])),(2,(Ob.arr 124 3 [[(V.map 3),(V.map 4),(V.map 5)]])),(3,(Ob.map (m3.map encM9_264))),(4,(Ob.map (p.map encM9_4))),(5,(Ob.map (([]:List ((List UInt8)×Bool)).map encM9_4)))],6⟩:St)) (fun k25 p=>k25 p=some r) (fun k25 h=>?_) ?_
 ·refine rn 1 rfl ?_
  refine wl (A:=a1.Types) 44 rfl (fun hA34=>?_)
  refine lC (fun(p:Int×(List ((List UInt8)×Bool)))=>(⟨[(1,(V.ptr 0 4 0 0)),(2,(V.ptr 1 3 0 0)),(3,(V.ptr 2 3 0 0)),(44,(V.lst 2 (a1.Types.map encTType))),(45,(iV ((a1.Types.length:Nat):Int))),(46,(iV (p.1)))],[(0,(Ob.arr 27 4 [(encTGraph a1)])),(1,(Ob.arr 124 3 [[(V.con (.map none)),(V.con (.map none)),(V.con (.map none))]])),(2,(Ob.arr 124 3 [[(V.map 3),(V.map 4),(V.map 5)]])),(3,(Ob.map (m3.map encM9_264))),(4,(Ob.map ((p.2).map encM9_4))),(5,(Ob.map (([]:List ((List UInt8)×Bool)).map encM9_4)))],6⟩:St)) (fun n p=>RG a1.Types (fun tl nn=>M65_L3 F k25 tl p.2=some r) n p.1) (fun p h=>RG.zero h) (a1.Types.length+1) (0,([]:List ((List UInt8)×Bool))) (RG.start h) (gr [0,1,2,3,4,5] rfl (hB rfl rfl rfl (hB rfl rfl rfl (hB rfl rfl rfl (hM rfl rfl (hM rfl rfl (hM rfl rfl .nil)))))) rfl) (fun n p h=>?_)
  obtain⟨n29,m30⟩:=p
  refine rn 5 rfl ?_
  refine spL rfl (fun hb31=>?_) (fun hb31=>?_)
  ·obtain⟨x32,tl,hx33,h,hk3⟩:=RG.t hA34 h hb31
   unfold M65_L3 at h
   refine rn 5 rfl ?_
   refine ixh hx33 rfl rfl ?_
   refine rn 9 rfl ?_
   refine aops_mapUpdate (es:=m30.map encM9_4) ((mput m30 x32.Name true).map encM9_4) tMap115 tKey9 wants_none rfl rfl (.con rfl) ⟨_,rfl⟩ encM9_4_good rfl (encM9_4_puts m30 x32.Name true) ?_
   refine fo (rn 6 rfl ?_)
   exact jX ((w64 (n29+1)),(mput m30 x32.Name true)) (hk3 _ h) (gr [0,1,2,3,4,5] rfl (hB rfl rfl rfl (hB rfl rfl rfl (hB rfl rfl rfl (hM rfl rfl (hM rfl rfl (hM rfl rfl .nil)))))) rfl)
  replace h:=RG.f h hb31
  unfold M65_L3 at h
  refine rn 1 rfl ?_
  exact jX m30 h (gr [0,1,2,3,4,5] rfl (hB rfl rfl rfl (hB rfl rfl rfl (hB rfl rfl rfl (hM rfl rfl (hM rfl rfl (hM rfl rfl .nil)))))) rfl)
 intro m26 h
 refine rn 5 rfl ?_
 refine ln rfl rfl ?_
 refine rn 2 rfl ?_
 refine jK h (fun(p:(List ((List UInt8)×Bool)))=>(⟨[(2,(V.ptr 0 3 0 0)),(3,(V.ptr 1 3 0 0))],[(0,(Ob.arr 124 3 [[(V.con (.map none)),(V.con (.map none)),(V.con (.map none))]])),(1,(Ob.arr 124 3 [[(V.map 2),(V.map 3),(V.map 4)]])),(2,(Ob.map (m3.map encM9_264))),(3,(Ob.map (m26.map encM9_4))),(4,(Ob.map (p.map encM9_4)))],5⟩:St)) (fun k35 p=>k35 p=some r) (fun k35 h=>?_) ?_
 ·refine rn 1 rfl ?_
  refine wl (A:=a1.Funcs) 56 rfl (fun hA44=>?_)
  refine lC (fun(p:Int×(List ((List UInt8)×Bool)))=>(⟨[(2,(V.ptr 0 3 0 0)),(3,(V.ptr 1 3 0 0)),(56,(V.lst 4 (a1.Funcs.map encTFunc))),(57,(iV ((a1.Funcs.length:Nat):Int))),(58,(iV (p.1)))],[(0,(Ob.arr 124 3 [[(V.con (.map none)),(V.con (.map none)),(V.con (.map none))]])),(1,(Ob.arr 124 3 [[(V.map 2),(V.map 3),(V.map 4)]])),(2,(Ob.map (m3.map encM9_264))),(3,(Ob.map (m26.map encM9_4))),(4,(Ob.map ((p.2).map encM9_4)))],5⟩:St)) (fun n p=>RG a1.Funcs (fun tl nn=>M65_L4 F k35 tl p.2=some r) n p.1) (fun p h=>RG.zero h) (a1.Funcs.length+1) (0,([]:List ((List UInt8)×Bool))) (RG.start h) (gr [1,2,3,4,5] rfl (hB rfl rfl rfl (hB rfl rfl rfl (hM rfl rfl (hM rfl rfl (hM rfl rfl .nil))))) rfl) (fun n p h=>?_)
  obtain⟨n39,m40⟩:=p
  refine rn 5 rfl ?_
  refine spL rfl (fun hb41=>?_) (fun hb41=>?_)
  ·obtain⟨x42,tl,hx43,h,hk4⟩:=RG.t hA44 h hb41
   unfold M65_L4 at h
   refine rn 5 rfl ?_
   refine ixh hx43 rfl rfl ?_
   refine rn 9 rfl ?_
   refine aops_mapUpdate (es:=m40.map encM9_4) ((mput m40 x42.Name true).map encM9_4) tMap115 tKey9 wants_none rfl rfl (.con rfl) ⟨_,rfl⟩ encM9_4_good rfl (encM9_4_puts m40 x42.Name true) ?_
   refine fo (rn 6 rfl ?_)
   exact jX ((w64 (n39+1)),(mput m40 x42.Name true)) (hk4 _ h) (gr [0,1,2,3,4] rfl (hB rfl rfl rfl (hB rfl rfl rfl (hM rfl rfl (hM rfl rfl (hM rfl rfl .nil))))) rfl)
  replace h:=RG.f h hb41
  unfold M65_L4 at h
  refine rn 1 rfl ?_
  exact jX m40 h (gr [0,1,2,3,4] rfl (hB rfl rfl rfl (hB rfl rfl rfl (hM rfl rfl (hM rfl rfl (hM rfl rfl .nil))))) rfl)
 intro m36 h
 refine rn 5 rfl ?_
 refine awp_ghost (ghost_frzDMC 2 0 (m3.map encM9_115) (Ob.arr 124 3 [[(V.imap (m3.map encM9_115)),(V.map 3),(V.map 4)]]) rfl (by simp) (und_map encM9_264_und _) (ObSub.box (.cons Sub.frzM (.cons Sub.keepM (.cons Sub.keepM .nil))))) ?_
 refine awp_ghost (ghost_frzMC 3 0 (Ob.arr 124 3 [[(V.imap (m3.map encM9_115)),(V.imap (m26.map encM9_4)),(V.map 4)]]) rfl encM9_4_imm (ObSub.box (.cons Sub.keepM (.cons Sub.frzM (.cons Sub.keepM .nil))))) ?_
 refine awp_ghost (ghost_frzMC 4 0 (Ob.arr 124 3 [[(V.imap (m3.map encM9_115)),(V.imap (m26.map encM9_4)),(V.imap (m36.map encM9_4))]]) rfl encM9_4_imm (ObSub.box (.cons Sub.keepM (.cons Sub.keepM (.cons Sub.frzM .nil))))) ?_
 refine fa ?_
 exact rt h rfl
theorem W132(F:Nat)(a1:(List UInt8))(r:Bool)(h:M132 F a1=some r):PureG (gl mx) Tryz.prog 132 [(sV a1)] (bV r):=by
 refine pin (fun r=>(bV r)) r rfl Tryz.func132 rfl rfl rfl rfl rfl (fun w0 m0 hg=>?_)
 unfold M132 at h
 refine rn 9 rfl ?_
 refine jK h (fun _:Unit=>(⟨[(0,(sV a1))],[],0⟩:St)) (fun k2 (_:Unit)=>k2=some r) (fun k2 h=>?_) ?_
 ·refine rn 1 rfl ?_
  refine ck h (fun hA15 h=>?_)
  refine lC (fun(p:Int)=>(⟨[(0,(sV a1)),(3,(iV p))],[],0⟩:St)) (fun n p=>RC (a1.length:Int) (fun tl nn=>M132_L1 F a1 k2 tl nn=some r) n p) (fun p h=>RC.zero h) (Int.toNat (a1.length:Int)+1) 0 (RC.start h) (g0 rfl rfl) (fun n n4 h=>?_)
  refine rn 8 rfl ?_
  refine spL rfl (fun hb5=>?_) (fun hb5=>?_)
  ·obtain⟨tl,h,hk1⟩:=RC.t hA15 h hb5
   unfold M132_L1 at h
   refine rn 7 rfl ?_
   refine ixs h rfl rfl (fun c6 hx7 h=>?_)
   refine rn 2 rfl ?_
   refine spO 14 h rfl (fun hb8 h=>?_) (fun hb8 h=>?_)
   ·refine rn 17 rfl ?_
    exact rt h rfl
   refine rn 2 rfl ?_
   refine ixs h rfl rfl (fun c9 hx10 h=>?_)
   refine rn 3 rfl ?_
   refine spO 20 h rfl (fun hb11 h=>?_) (fun hb11 h=>?_)
   ·refine rn 11 rfl ?_
    exact rt h rfl
   refine rn 2 rfl ?_
   refine ixs h rfl rfl (fun c12 hx13 h=>?_)
   refine rn 3 rfl ?_
   refine spC h rfl (fun hb14 h=>?_) (fun hb14 h=>?_)
   ·refine rn 4 rfl ?_
    exact rt h rfl
   refine rn 7 rfl ?_
   exact jX (w64 (n4+1)) (hk1 _ h) (g0 rfl rfl)
  replace h:=RC.f h hb5
  unfold M132_L1 at h
  refine rn 1 rfl ?_
  exact jX () h (g0 rfl rfl)
 intro _ h
 refine rn 6 rfl ?_
 refine spO 29 h rfl (fun hb16 h=>?_) (fun hb16 h=>?_)
 ·refine rn 6 rfl ?_
  exact rt h rfl
 refine rn 6 rfl ?_
 exact rt h rfl
theorem W98(F:Nat)(a1:(List (List UInt8)))(a2:Int)(r:Int)(h:M98 F a1 a2=some r):PureG (gl mx) Tryz.prog 98 [(V.lst 1 (a1.map encS)),(iV a2)] (iV r):=by
 refine pin (fun r=>(iV r)) r rfl Tryz.func98 rfl rfl rfl rfl rfl (fun w0 m0 hg=>?_)
 unfold M98 at h
 refine rn 6 rfl ?_
 refine bs h (fun hb3 h=>?_) (fun hb3 h=>?_)
 ·obtain⟨x4,hx5,h⟩:=bind_some h
  obtain⟨x6,hx7,h⟩:=bind_some h
  refine dr mixed (vs 2 rfl (vb hb3 rfl (vs 2 rfl (iD hx5 rfl rfl rfl (vs 4 rfl (iD hx7 rfl rfl rfl (vs 3 rfl .nil))))))) (by kernel_rfl) ?_
  refine spC h rfl (fun hb8 h=>?_) (fun hb8 h=>?_)
  ·refine rn 4 rfl ?_
   exact rt h rfl
  refine rn 5 rfl ?_
  exact rt h rfl
 refine dr mixed (vs 2 rfl (vb hb3 rfl (vs 11 rfl .nil))) (by kernel_rfl) ?_
 refine rn 6 rfl ?_
 exact rt h rfl
theorem W95(F:Nat)(a1:Tprovenderref6_checker)(r:Int)(h:M95 F a1=some r):PureG (gl mx) Tryz.prog 95 [(V.agg (encTprovenderref6_checker a1))] (iV r):=by
 refine pin (fun r=>(iV r)) r rfl Tryz.func95 rfl rfl rfl rfl rfl (fun w0 m0 hg=>?_)
 unfold M95 at h
 refine rn 15 rfl ?_
 refine ln rfl rfl ?_
 refine rn 2 rfl ?_
 refine jK h (fun _:Unit=>(⟨[],[],0⟩:St)) (fun k2 (_:Unit)=>k2=some r) (fun k2 h=>?_) ?_
 ·refine rn 1 rfl ?_
  refine wl (A:=a1.g.Ifaces) 11 rfl (fun hA31=>?_)
  refine lC (fun(p:(List UInt8)×Int)=>(⟨[(3,(sV (p.1))),(11,(V.lst 2 (a1.g.Ifaces.map encTIface))),(12,(iV ((a1.g.Ifaces.length:Nat):Int))),(13,(iV (p.2)))],[],0⟩:St)) (fun n p=>RG a1.g.Ifaces (fun tl nn=>M95_L1 F k2 tl p.1=some r) n p.2) (fun p h=>RG.zero h) (a1.g.Ifaces.length+1) (([]:List UInt8),0) (RG.start h) (g0 rfl rfl) (fun n p h=>?_)
  obtain⟨s5,n6⟩:=p
  refine rn 5 rfl ?_
  refine spL rfl (fun hb7=>?_) (fun hb7=>?_)
  ·obtain⟨x10,tl,hx11,h,hk1⟩:=RG.t hA31 h hb7
   unfold M95_L1 at h
   refine rn 2 rfl ?_
   refine jK h (fun(p:(List UInt8))=>(⟨[(3,(sV p)),(11,(V.lst 2 (a1.g.Ifaces.map encTIface))),(12,(iV ((a1.g.Ifaces.length:Nat):Int))),(13,(iV n6))],[],0⟩:St)) (fun k8 p=>k8 p=some r) (fun k8 h=>?_) ?_
   ·refine rn 3 rfl ?_
    refine ixh hx11 rfl rfl ?_
    refine rn 10 rfl ?_
    refine cl h rfl rfl rfl (W132 _ _) rfl (fun y12 hx13 h=>?_)
    refine rn 3 rfl ?_
    refine spC h rfl (fun hb14 h=>?_) (fun hb14 h=>?_)
    ·refine rn 4 rfl ?_
     exact rt h rfl
    refine rn 8 rfl ?_
    refine spC h rfl (fun hb15 h=>?_) (fun hb15 h=>?_)
    ·refine rn 4 rfl ?_
     exact rt h rfl
    refine rn 4 rfl ?_
    refine ln rfl rfl ?_
    refine rn 3 rfl ?_
    refine spC h rfl (fun hb16 h=>?_) (fun hb16 h=>?_)
    ·refine rn 4 rfl ?_
     exact rt h rfl
    refine rn 4 rfl ?_
    refine ln rfl rfl ?_
    refine rn 3 rfl ?_
    refine spC h rfl (fun hb17 h=>?_) (fun hb17 h=>?_)
    ·refine rn 4 rfl ?_
     exact rt h rfl
    refine rn 12 rfl ?_
    refine ln rfl rfl ?_
    refine rn 2 rfl ?_
    refine jK h (fun _:Unit=>(⟨[(3,(sV x10.Name)),(11,(V.lst 2 (a1.g.Ifaces.map encTIface))),(12,(iV ((a1.g.Ifaces.length:Nat):Int))),(13,(iV n6))],[],0⟩:St)) (fun k18 (_:Unit)=>k18=some r) (fun k18 h=>?_) ?_
    ·refine rn 1 rfl ?_
     refine wl (A:=x10.Methods) 29 rfl (fun hA30=>?_)
     refine lC (fun(p:Int)=>(⟨[(3,(sV x10.Name)),(5,(V.ptr 0 2 0 0)),(11,(V.lst 2 (a1.g.Ifaces.map encTIface))),(12,(iV ((a1.g.Ifaces.length:Nat):Int))),(13,(iV n6)),(40,(V.lst 1 (x10.Methods.map encS))),(41,(iV ((x10.Methods.length:Nat):Int))),(42,(iV p))],[(0,(Ob.arr 56 2 [(encTIface x10)]))],1⟩:St)) (fun n p=>RG x10.Methods (fun tl nn=>M95_L2 F x10 k18 tl nn=some r) n p) (fun p h=>RG.zero h) (x10.Methods.length+1) 0 (RG.start h) (gr [0] rfl (hB rfl rfl rfl .nil) rfl) (fun n n20 h=>?_)
     refine rn 5 rfl ?_
     refine spL rfl (fun hb21=>?_) (fun hb21=>?_)
     ·obtain⟨x22,tl,hx23,h,hk2⟩:=RG.t hA30 h hb21
      unfold M95_L2 at h
      refine rn 6 rfl ?_
      refine ixh hx23 rfl rfl ?_
      refine rn 8 rfl ?_
      refine cl h rfl rfl rfl (W132 _ _) rfl (fun y24 hx25 h=>?_)
      refine rn 2 rfl ?_
      refine spC h rfl (fun hb26 h=>?_) (fun hb26 h=>?_)
      ·refine rn 4 rfl ?_
       exact rt h rfl
      refine rn 6 rfl ?_
      refine cl h rfl rfl rfl (W98 _ _ _) rfl (fun y27 hx28 h=>?_)
      refine rn 7 rfl ?_
      refine spC h rfl (fun hb29 h=>?_) (fun hb29 h=>?_)
      ·refine rn 5 rfl ?_
       exact rt h rfl
      refine rn 6 rfl ?_
      exact jX (w64 (n20+1)) (hk2 _ h) (gr [0] rfl (hB rfl rfl rfl .nil) rfl)
     replace h:=RG.f h hb21
     unfold M95_L2 at h
     refine rn 1 rfl ?_
     exact jX () h (g0 rfl rfl)
    intro _ h
    refine rn 1 rfl ?_
    exact jX x10.Name h (g0 rfl rfl)
   intro s9 h
   refine rn 4 rfl ?_
   exact jX (s9,(w64 (n6+1))) (hk1 _ h) (g0 rfl rfl)
  replace h:=RG.f h hb7
  unfold M95_L1 at h
  refine rn 1 rfl ?_
  exact jX () h (g0 rfl rfl)
 intro _ h
 refine rn 4 rfl ?_
 exact rt h rfl
theorem W96(F:Nat)(a1:Tprovenderref6_checker)(r:Int)(h:M96 F a1=some r):PureG (gl mx) Tryz.prog 96 [(V.agg (encTprovenderref6_checker a1))] (iV r):=by
 refine pin (fun r=>(iV r)) r rfl Tryz.func96 rfl rfl rfl rfl rfl (fun w0 m0 hg=>?_)
 unfold M96 at h
 refine rn 15 rfl ?_
 refine ln rfl rfl ?_
 refine rn 2 rfl ?_
 refine jK h (fun _:Unit=>(⟨[],[],0⟩:St)) (fun k2 (_:Unit)=>k2=some r) (fun k2 h=>?_) ?_
 ·refine rn 1 rfl ?_
  refine wl (A:=a1.g.Types) 11 rfl (fun hA33=>?_)
  refine lC (fun(p:(List UInt8)×Int)=>(⟨[(1,(V.ptr 0 8 0 0)),(3,(sV (p.1))),(11,(V.lst 2 (a1.g.Types.map encTType))),(12,(iV ((a1.g.Types.length:Nat):Int))),(13,(iV (p.2)))],[(0,(Ob.arr 127 8 [(encTprovenderref6_checker a1)]))],1⟩:St)) (fun n p=>RG a1.g.Types (fun tl nn=>M96_L1 F a1 k2 tl p.1=some r) n p.2) (fun p h=>RG.zero h) (a1.g.Types.length+1) (([]:List UInt8),0) (RG.start h) (gr [0] rfl (hB rfl rfl rfl .nil) rfl) (fun n p h=>?_)
  obtain⟨s5,n6⟩:=p
  refine rn 5 rfl ?_
  refine spL rfl (fun hb7=>?_) (fun hb7=>?_)
  ·obtain⟨x10,tl,hx11,h,hk1⟩:=RG.t hA33 h hb7
   unfold M96_L1 at h
   refine rn 2 rfl ?_
   refine jK h (fun(p:(List UInt8))=>(⟨[(1,(V.ptr 0 8 0 0)),(3,(sV p)),(11,(V.lst 2 (a1.g.Types.map encTType))),(12,(iV ((a1.g.Types.length:Nat):Int))),(13,(iV n6))],[(0,(Ob.arr 127 8 [(encTprovenderref6_checker a1)]))],1⟩:St)) (fun k8 p=>k8 p=some r) (fun k8 h=>?_) ?_
   ·refine rn 3 rfl ?_
    refine ixh hx11 rfl rfl ?_
    refine rn 10 rfl ?_
    refine cl h rfl rfl rfl (W132 _ _) rfl (fun y12 hx13 h=>?_)
    refine rn 3 rfl ?_
    refine spC h rfl (fun hb14 h=>?_) (fun hb14 h=>?_)
    ·refine rn 4 rfl ?_
     exact rt h rfl
    refine rn 8 rfl ?_
    refine spC h rfl (fun hb15 h=>?_) (fun hb15 h=>?_)
    ·refine rn 4 rfl ?_
     exact rt h rfl
    refine rn 4 rfl ?_
    refine ln rfl rfl ?_
    refine rn 3 rfl ?_
    refine spC h rfl (fun hb16 h=>?_) (fun hb16 h=>?_)
    ·refine rn 4 rfl ?_
     exact rt h rfl
    refine rn 16 rfl ?_
    refine ln rfl rfl ?_
    refine rn 2 rfl ?_
    refine jK h (fun _:Unit=>(⟨[(1,(V.ptr 0 8 0 0)),(3,(sV x10.Name)),(11,(V.lst 2 (a1.g.Types.map encTType))),(12,(iV ((a1.g.Types.length:Nat):Int))),(13,(iV n6))],[(0,(Ob.arr 127 8 [(encTprovenderref6_checker a1)]))],1⟩:St)) (fun k17 (_:Unit)=>k17=some r) (fun k17 h=>?_) ?_
    ·refine rn 1 rfl ?_
     refine wl (A:=x10.Methods) 29 rfl (fun hA32=>?_)
     refine lC (fun(p:(List UInt8)×Int)=>(⟨[(1,(V.ptr 0 8 0 0)),(3,(sV x10.Name)),(6,(sV (p.1))),(11,(V.lst 2 (a1.g.Types.map encTType))),(12,(iV ((a1.g.Types.length:Nat):Int))),(13,(iV n6)),(35,(V.lst 2 (x10.Methods.map encTMethod))),(36,(iV ((x10.Methods.length:Nat):Int))),(37,(iV (p.2)))],[(0,(Ob.arr 127 8 [(encTprovenderref6_checker a1)]))],1⟩:St)) (fun n p=>RG x10.Methods (fun tl nn=>M96_L2 F a1 k17 tl p.1=some r) n p.2) (fun p h=>RG.zero h) (x10.Methods.length+1) (([]:List UInt8),0) (RG.start h) (gr [0] rfl (hB rfl rfl rfl .nil) rfl) (fun n p h=>?_)
     obtain⟨s20,n21⟩:=p
     refine rn 5 rfl ?_
     refine spL rfl (fun hb22=>?_) (fun hb22=>?_)
     ·obtain⟨x23,tl,hx24,h,hk2⟩:=RG.t hA32 h hb22
      unfold M96_L2 at h
      refine rn 5 rfl ?_
      refine ixh hx24 rfl rfl ?_
      refine rn 10 rfl ?_
      refine cl h rfl rfl rfl (W132 _ _) rfl (fun y25 hx26 h=>?_)
      refine rn 3 rfl ?_
      refine jK h (fun _:Unit=>(⟨[(1,(V.ptr 0 8 0 0)),(3,(sV x10.Name)),(8,(V.ptr 1 2 0 0)),(11,(V.lst 2 (a1.g.Types.map encTType))),(12,(iV ((a1.g.Types.length:Nat):Int))),(13,(iV n6)),(35,(V.lst 2 (x10.Methods.map encTMethod))),(36,(iV ((x10.Methods.length:Nat):Int))),(37,(iV n21))],[(0,(Ob.arr 127 8 [(encTprovenderref6_checker a1)])),(1,(Ob.arr 64 2 [(encTMethod x23)]))],2⟩:St)) (fun k27 (_:Unit)=>k27=some r) (fun k27 h=>?_) ?_
      ·refine spC h rfl (fun hb28 h=>?_) (fun hb28 h=>?_)
       ·refine rn 4 rfl ?_
        exact rt h rfl
       refine rn 8 rfl ?_
       refine spC h rfl (fun hb29 h=>?_) (fun hb29 h=>?_)
       ·refine rn 4 rfl ?_
        exact rt h rfl
       refine rn 6 rfl ?_
       refine spO 55 h rfl (fun hb30 h=>?_) (fun hb30 h=>?_)
       ·refine rn 5 rfl ?_
        refine aops_lookup _ (bV false) (bV ((mget a1.n.funcs x23.Func).getD false)) tMap115 tKey9 tZo4 (irel_con _) (wants_some (c:=true) (b:=true) 55 rfl rfl rfl) rfl .imm (.con rfl) ⟨_,rfl⟩ encM9_4_good (encM9_4_look a1.n.funcs x23.Func) (getD_map (encM9_4_val) (mget a1.n.funcs x23.Func) false) rfl ?_
        refine fo (rn 4 rfl ?_)
        refine spC h rfl (fun hb31 h=>?_) (fun hb31 h=>?_)
        ·refine rn 4 rfl ?_
         exact rt h rfl
        refine rn 1 rfl ?_
        exact jX () h (gr [0,1] rfl (hB rfl rfl rfl (hB rfl rfl rfl .nil)) rfl)
       refine rn 12 rfl ?_
       exact jX () h (gr [0,1] rfl (hB rfl rfl rfl (hB rfl rfl rfl .nil)) rfl)
      intro _ h
      refine rn 11 rfl ?_
      exact jX (x23.Name,(w64 (n21+1))) (hk2 _ h) (gr [0] rfl (hB rfl rfl rfl .nil) rfl)
     replace h:=RG.f h hb22
     unfold M96_L2 at h
     refine rn 1 rfl ?_
     exact jX () h (gr [0] rfl (hB rfl rfl rfl .nil) rfl)
    intro _ h
    refine rn 1 rfl ?_
    exact jX x10.Name h (gr [0] rfl (hB rfl rfl rfl .nil) rfl)
   intro s9 h
   refine rn 4 rfl ?_
   exact jX (s9,(w64 (n6+1))) (hk1 _ h) (gr [0] rfl (hB rfl rfl rfl .nil) rfl)
  replace h:=RG.f h hb7
  unfold M96_L1 at h
  refine rn 1 rfl ?_
  exact jX () h (g0 rfl rfl)
 intro _ h
 refine rn 4 rfl ?_
 exact rt h rfl
theorem W133(F:Nat)(a1:Tprovenderref6_checker)(a2:TCall)(r:Int)(h:M133 F a1 a2=some r):PureG (gl mx) Tryz.prog 133 [(V.agg (encTprovenderref6_checker a1)),(V.agg (encTCall a2))] (iV r):=by
 refine pin (fun r=>(iV r)) r rfl Tryz.func133 rfl rfl rfl rfl rfl (fun w0 m0 hg=>?_)
 unfold M133 at h
 refine rn 18 rfl ?_
 refine jK h (fun _:Unit=>(⟨[(3,(V.ptr 0 4 0 0))],[(0,(Ob.arr 74 4 [(encTCall a2)]))],1⟩:St)) (fun k3 (_:Unit)=>k3=some r) (fun k3 h=>?_) ?_
 ·refine spC h rfl (fun hb4 h=>?_) (fun hb4 h=>?_)
  ·refine rn 7 rfl ?_
   refine spO 14 h rfl (fun hb5 h=>?_) (fun hb5 h=>?_)
   ·refine rn 5 rfl ?_
    refine aops_lookup _ (bV false) (bV ((mget a1.n.funcs a2.Target).getD false)) tMap115 tKey9 tZo4 (irel_con _) (wants_some (c:=true) (b:=true) 14 rfl rfl rfl) rfl .imm (.con rfl) ⟨_,rfl⟩ encM9_4_good (encM9_4_look a1.n.funcs a2.Target) (getD_map (encM9_4_val) (mget a1.n.funcs a2.Target) false) rfl ?_
    refine fo (rn 3 rfl ?_)
    refine spC h rfl (fun hb6 h=>?_) (fun hb6 h=>?_)
    ·refine rn 4 rfl ?_
     exact rt h rfl
    refine rn 7 rfl ?_
    refine spC h rfl (fun hb7 h=>?_) (fun hb7 h=>?_)
    ·refine rn 4 rfl ?_
     exact rt h rfl
    refine rn 1 rfl ?_
    exact jX () h (gr [1] rfl (hB rfl rfl rfl .nil) rfl)
   refine rn 17 rfl ?_
   refine spC h rfl (fun hb8 h=>?_) (fun hb8 h=>?_)
   ·refine rn 4 rfl ?_
    exact rt h rfl
   refine rn 1 rfl ?_
   exact jX () h (gr [1] rfl (hB rfl rfl rfl .nil) rfl)
  refine rn 5 rfl ?_
  refine spC h rfl (fun hb9 h=>?_) (fun hb9 h=>?_)
  ·refine rn 7 rfl ?_
   refine bs h (fun hb10 h=>?_) (fun hb10 h=>?_)
   ·refine aops_lookup_okB _ (V.con (.map none)) (V.imap (((mget a1.n.ifaces a2.Target).getD []).map encM9_4)) tMap122 tKey9 tZo115 (irel_con _) wants_none rfl .imm (.con rfl) ⟨_,rfl⟩ encM9_115_good (encM9_115_look a1.n.ifaces a2.Target) (getD_mapT (y:=[]) hb10) (isSomeT hb10) rfl ?_
    refine fo (rn 12 rfl ?_)
    refine spO 40 h rfl (fun hb11 h=>?_) (fun hb11 h=>?_)
    ·refine rn 6 rfl ?_
     refine aops_lookup _ (bV false) (bV ((mget ((mget a1.n.ifaces a2.Target).getD []) a2.Method).getD false)) tMap115 tKey9 tZo4 (irel_con _) (wants_some (c:=false) (b:=false) 43 rfl rfl rfl) rfl .imm (.con rfl) ⟨_,rfl⟩ encM9_4_good (encM9_4_look ((mget a1.n.ifaces a2.Target).getD []) a2.Method) (getD_map (encM9_4_val) (mget ((mget a1.n.ifaces a2.Target).getD []) a2.Method) false) rfl ?_
     refine fo (rn 4 rfl ?_)
     refine spC h rfl (fun hb12 h=>?_) (fun hb12 h=>?_)
     ·refine rn 4 rfl ?_
      exact rt h rfl
     refine rn 1 rfl ?_
     exact jX () h (gr [1] rfl (hB rfl rfl rfl .nil) rfl)
    refine rn 13 rfl ?_
    exact jX () h (gr [1] rfl (hB rfl rfl rfl .nil) rfl)
   refine aops_lookup_okB _ (V.con (.map none)) (V.con (.map none)) tMap122 tKey9 tZo115 (irel_con _) wants_none rfl .imm (.con rfl) ⟨_,rfl⟩ encM9_115_good (encM9_115_look a1.n.ifaces a2.Target) (getD_mapF hb10) (isSomeT hb10) rfl ?_
   refine fo (rn 12 rfl ?_)
   refine spO 40 h rfl (fun hb13 h=>?_) (fun hb13 h=>?_)
   ·refine rn 16 rfl ?_
    exact rt h rfl
   refine rn 13 rfl ?_
   exact jX () h (gr [1] rfl (hB rfl rfl rfl .nil) rfl)
  refine rn 4 rfl ?_
  exact rt h rfl
 intro _ h
 refine rn 8 rfl ?_
 refine spO 54 h rfl (fun hb14 h=>?_) (fun hb14 h=>?_)
 ·refine rn 2 rfl ?_
  refine cl h rfl rfl rfl (W132 _ _) rfl (fun y15 hx16 h=>?_)
  refine rn 3 rfl ?_
  refine spC h rfl (fun hb17 h=>?_) (fun hb17 h=>?_)
  ·refine rn 4 rfl ?_
   exact rt h rfl
  refine rn 5 rfl ?_
  exact rt h rfl
 refine rn 12 rfl ?_
 exact rt h rfl
theorem W97(F:Nat)(a1:Tprovenderref6_checker)(r:Int)(h:M97 F a1=some r):PureG (gl mx) Tryz.prog 97 [(V.agg (encTprovenderref6_checker a1))] (iV r):=by
 refine pin (fun r=>(iV r)) r rfl Tryz.func97 rfl rfl rfl rfl rfl (fun w0 m0 hg=>?_)
 unfold M97 at h
 refine rn 15 rfl ?_
 refine ln rfl rfl ?_
 refine rn 2 rfl ?_
 refine jK h (fun _:Unit=>(⟨[],[],0⟩:St)) (fun k2 (_:Unit)=>k2=some r) (fun k2 h=>?_) ?_
 ·refine rn 1 rfl ?_
  refine wl (A:=a1.g.Funcs) 14 rfl (fun hA46=>?_)
  refine lC (fun(p:(List UInt8)×Int)=>(⟨[(1,(V.ptr 0 8 0 0)),(3,(sV (p.1))),(14,(V.lst 4 (a1.g.Funcs.map encTFunc))),(15,(iV ((a1.g.Funcs.length:Nat):Int))),(16,(iV (p.2)))],[(0,(Ob.arr 127 8 [(encTprovenderref6_checker a1)]))],1⟩:St)) (fun n p=>RG a1.g.Funcs (fun tl nn=>M97_L1 F a1 k2 tl p.1=some r) n p.2) (fun p h=>RG.zero h) (a1.g.Funcs.length+1) (([]:List UInt8),0) (RG.start h) (gr [0] rfl (hB rfl rfl rfl .nil) rfl) (fun n p h=>?_)
  obtain⟨s5,n6⟩:=p
  refine rn 5 rfl ?_
  refine spL rfl (fun hb7=>?_) (fun hb7=>?_)
  ·obtain⟨x10,tl,hx11,h,hk1⟩:=RG.t hA46 h hb7
   unfold M97_L1 at h
   refine rn 2 rfl ?_
   refine jK h (fun(p:(List UInt8))=>(⟨[(1,(V.ptr 0 8 0 0)),(3,(sV p)),(14,(V.lst 4 (a1.g.Funcs.map encTFunc))),(15,(iV ((a1.g.Funcs.length:Nat):Int))),(16,(iV n6))],[(0,(Ob.arr 127 8 [(encTprovenderref6_checker a1)]))],1⟩:St)) (fun k8 p=>k8 p=some r) (fun k8 h=>?_) ?_
   ·refine rn 3 rfl ?_
    refine ixh hx11 rfl rfl ?_
    refine rn 10 rfl ?_
    refine cl h rfl rfl rfl (W132 _ _) rfl (fun y12 hx13 h=>?_)
    refine rn 3 rfl ?_
    refine spC h rfl (fun hb14 h=>?_) (fun hb14 h=>?_)
    ·refine rn 4 rfl ?_
     exact rt h rfl
    refine rn 8 rfl ?_
    refine spC h rfl (fun hb15 h=>?_) (fun hb15 h=>?_)
    ·refine rn 4 rfl ?_
     exact rt h rfl
    refine rn 4 rfl ?_
    refine cl h rfl rfl rfl (W132 _ _) rfl (fun y16 hx17 h=>?_)
    refine rn 3 rfl ?_
    refine spC h rfl (fun hb18 h=>?_) (fun hb18 h=>?_)
    ·refine rn 4 rfl ?_
     exact rt h rfl
    refine rn 4 rfl ?_
    refine ln rfl rfl ?_
    refine rn 3 rfl ?_
    refine spC h rfl (fun hb19 h=>?_) (fun hb19 h=>?_)
    ·refine rn 4 rfl ?_
     exact rt h rfl
    refine rn 13 rfl ?_
    refine ln rfl rfl ?_
    refine rn 2 rfl ?_
    refine jK h (fun _:Unit=>(⟨[(1,(V.ptr 0 8 0 0)),(3,(sV x10.Name)),(5,(V.ptr 1 4 0 0)),(14,(V.lst 4 (a1.g.Funcs.map encTFunc))),(15,(iV ((a1.g.Funcs.length:Nat):Int))),(16,(iV n6))],[(0,(Ob.arr 127 8 [(encTprovenderref6_checker a1)])),(1,(Ob.arr 71 4 [(encTFunc x10)]))],2⟩:St)) (fun k20 (_:Unit)=>k20=some r) (fun k20 h=>?_) ?_
    ·refine rn 1 rfl ?_
     refine wl (A:=x10.Calls) 37 rfl (fun hA29=>?_)
     refine lC (fun(p:Int)=>(⟨[(1,(V.ptr 0 8 0 0)),(3,(sV x10.Name)),(5,(V.ptr 1 4 0 0)),(14,(V.lst 4 (a1.g.Funcs.map encTFunc))),(15,(iV ((a1.g.Funcs.length:Nat):Int))),(16,(iV n6)),(43,(V.lst 4 (x10.Calls.map encTCall))),(44,(iV ((x10.Calls.length:Nat):Int))),(45,(iV p))],[(0,(Ob.arr 127 8 [(encTprovenderref6_checker a1)])),(1,(Ob.arr 71 4 [(encTFunc x10)]))],2⟩:St)) (fun n p=>RG x10.Calls (fun tl nn=>M97_L2 F a1 k20 tl=some r) n p) (fun p h=>RG.zero h) (x10.Calls.length+1) 0 (RG.start h) (gr [0,1] rfl (hB rfl rfl rfl (hB rfl rfl rfl .nil)) rfl) (fun n n22 h=>?_)
     refine rn 5 rfl ?_
     refine spL rfl (fun hb23=>?_) (fun hb23=>?_)
     ·obtain⟨x24,tl,hx25,h,hk2⟩:=RG.t hA29 h hb23
      unfold M97_L2 at h
      refine rn 5 rfl ?_
      refine ixh hx25 rfl rfl ?_
      refine rn 8 rfl ?_
      refine cl h rfl rfl rfl (W133 _ _ _) rfl (fun y26 hx27 h=>?_)
      refine rn 7 rfl ?_
      refine spC h rfl (fun hb28 h=>?_) (fun hb28 h=>?_)
      ·refine rn 5 rfl ?_
       exact rt h rfl
      refine rn 6 rfl ?_
      exact jX (w64 (n22+1)) (hk2 _ h) (gr [0,1] rfl (hB rfl rfl rfl (hB rfl rfl rfl .nil)) rfl)
     replace h:=RG.f h hb23
     unfold M97_L2 at h
     refine rn 1 rfl ?_
     exact jX () h (gr [0,1] rfl (hB rfl rfl rfl (hB rfl rfl rfl .nil)) rfl)
    intro _ h
    refine rn 4 rfl ?_
    refine ln rfl rfl ?_
    refine rn 2 rfl ?_
    refine jK h (fun _:Unit=>(⟨[(1,(V.ptr 0 8 0 0)),(3,(sV x10.Name)),(14,(V.lst 4 (a1.g.Funcs.map encTFunc))),(15,(iV ((a1.g.Funcs.length:Nat):Int))),(16,(iV n6))],[(0,(Ob.arr 127 8 [(encTprovenderref6_checker a1)]))],1⟩:St)) (fun k30 (_:Unit)=>k30=some r) (fun k30 h=>?_) ?_
    ·refine rn 1 rfl ?_
     refine wl (A:=x10.Makes) 57 rfl (fun hA45=>?_)
     refine lC (fun(p:Int)=>(⟨[(1,(V.ptr 0 8 0 0)),(3,(sV x10.Name)),(5,(V.ptr 1 4 0 0)),(14,(V.lst 4 (a1.g.Funcs.map encTFunc))),(15,(iV ((a1.g.Funcs.length:Nat):Int))),(16,(iV n6)),(57,(V.lst 1 (x10.Makes.map encS))),(58,(iV ((x10.Makes.length:Nat):Int))),(59,(iV p))],[(0,(Ob.arr 127 8 [(encTprovenderref6_checker a1)])),(1,(Ob.arr 71 4 [(encTFunc x10)]))],2⟩:St)) (fun n p=>RG x10.Makes (fun tl nn=>M97_L3 F a1 x10 k30 tl nn=some r) n p) (fun p h=>RG.zero h) (x10.Makes.length+1) 0 (RG.start h) (gr [0,1] rfl (hB rfl rfl rfl (hB rfl rfl rfl .nil)) rfl) (fun n n32 h=>?_)
     refine rn 5 rfl ?_
     refine spL rfl (fun hb33=>?_) (fun hb33=>?_)
     ·obtain⟨x35,tl,hx36,h,hk3⟩:=RG.t hA45 h hb33
      unfold M97_L3 at h
      refine rn 2 rfl ?_
      refine jK h (fun _:Unit=>(⟨[(1,(V.ptr 0 8 0 0)),(3,(sV x10.Name)),(5,(V.ptr 1 4 0 0)),(14,(V.lst 4 (a1.g.Funcs.map encTFunc))),(15,(iV ((a1.g.Funcs.length:Nat):Int))),(16,(iV n6)),(57,(V.lst 1 (x10.Makes.map encS))),(58,(iV ((x10.Makes.length:Nat):Int))),(59,(iV n32))],[(0,(Ob.arr 127 8 [(encTprovenderref6_checker a1)])),(1,(Ob.arr 71 4 [(encTFunc x10)]))],2⟩:St)) (fun k34 (_:Unit)=>k34=some r) (fun k34 h=>?_) ?_
      ·refine rn 4 rfl ?_
       refine ixh hx36 rfl rfl ?_
       refine rn 11 rfl ?_
       refine spO 67 h rfl (fun hb37 h=>?_) (fun hb37 h=>?_)
       ·refine rn 4 rfl ?_
        refine aops_lookup _ (bV false) (bV ((mget a1.n.types x35).getD false)) tMap115 tKey9 tZo4 (irel_con _) (wants_some (c:=true) (b:=true) 67 rfl rfl rfl) rfl .imm (.con rfl) ⟨_,rfl⟩ encM9_4_good (encM9_4_look a1.n.types x35) (getD_map (encM9_4_val) (mget a1.n.types x35) false) rfl ?_
        refine fo (rn 3 rfl ?_)
        refine spC h rfl (fun hb38 h=>?_) (fun hb38 h=>?_)
        ·refine rn 4 rfl ?_
         exact rt h rfl
        refine rn 6 rfl ?_
        refine cl h rfl rfl rfl (W98 _ _ _) rfl (fun y39 hx40 h=>?_)
        refine rn 7 rfl ?_
        refine spC h rfl (fun hb41 h=>?_) (fun hb41 h=>?_)
        ·refine rn 5 rfl ?_
         exact rt h rfl
        refine rn 2 rfl ?_
        exact jX () h (gr [0,1] rfl (hB rfl rfl rfl (hB rfl rfl rfl .nil)) rfl)
       refine rn 15 rfl ?_
       refine cl h rfl rfl rfl (W98 _ _ _) rfl (fun y42 hx43 h=>?_)
       refine rn 7 rfl ?_
       refine spC h rfl (fun hb44 h=>?_) (fun hb44 h=>?_)
       ·refine rn 5 rfl ?_
        exact rt h rfl
       refine rn 2 rfl ?_
       exact jX () h (gr [0,1] rfl (hB rfl rfl rfl (hB rfl rfl rfl .nil)) rfl)
      intro _ h
      refine rn 4 rfl ?_
      exact jX (w64 (n32+1)) (hk3 _ h) (gr [0,1] rfl (hB rfl rfl rfl (hB rfl rfl rfl .nil)) rfl)
     replace h:=RG.f h hb33
     unfold M97_L3 at h
     refine rn 1 rfl ?_
     exact jX () h (gr [0] rfl (hB rfl rfl rfl .nil) rfl)
    intro _ h
    refine rn 1 rfl ?_
    exact jX x10.Name h (gr [0] rfl (hB rfl rfl rfl .nil) rfl)
   intro s9 h
   refine rn 4 rfl ?_
   exact jX (s9,(w64 (n6+1))) (hk1 _ h) (gr [0] rfl (hB rfl rfl rfl .nil) rfl)
  replace h:=RG.f h hb7
  unfold M97_L1 at h
  refine rn 1 rfl ?_
  exact jX () h (g0 rfl rfl)
 intro _ h
 refine rn 4 rfl ?_
 exact rt h rfl
theorem W66(F:Nat)(a1:Tprovenderref6_checker)(r:Int)(h:M66 F a1=some r):PureG (gl mx) Tryz.prog 66 [(V.agg (encTprovenderref6_checker a1))] (iV r):=by
 refine pin (fun r=>(iV r)) r rfl Tryz.func66 rfl rfl rfl rfl rfl (fun w0 m0 hg=>?_)
 unfold M66 at h
 refine rn 11 rfl ?_
 refine ln rfl rfl ?_
 refine rn 2 rfl ?_
 refine spO 14 h rfl (fun hb2 h=>?_) (fun hb2 h=>?_)
 ·refine rn 19 rfl ?_
  exact rt h rfl
 refine rn 3 rfl ?_
 refine ln rfl rfl ?_
 refine rn 3 rfl ?_
 refine spO 21 h rfl (fun hb3 h=>?_) (fun hb3 h=>?_)
 ·refine rn 12 rfl ?_
  exact rt h rfl
 refine rn 3 rfl ?_
 refine ln rfl rfl ?_
 refine rn 3 rfl ?_
 refine spC h rfl (fun hb4 h=>?_) (fun hb4 h=>?_)
 ·refine rn 4 rfl ?_
  exact rt h rfl
 refine rn 5 rfl ?_
 refine cl h rfl rfl rfl (W95 _ _) rfl (fun y5 hx6 h=>?_)
 refine rn 7 rfl ?_
 refine spC h rfl (fun hb7 h=>?_) (fun hb7 h=>?_)
 ·refine rn 5 rfl ?_
  exact rt h rfl
 refine rn 5 rfl ?_
 refine cl h rfl rfl rfl (W96 _ _) rfl (fun y8 hx9 h=>?_)
 refine rn 7 rfl ?_
 refine spC h rfl (fun hb10 h=>?_) (fun hb10 h=>?_)
 ·refine rn 5 rfl ?_
  exact rt h rfl
 refine rn 5 rfl ?_
 refine cl h rfl rfl rfl (W97 _ _) rfl (fun y11 hx12 h=>?_)
 refine rn 7 rfl ?_
 refine spC h rfl (fun hb13 h=>?_) (fun hb13 h=>?_)
 ·refine rn 5 rfl ?_
  exact rt h rfl
 refine rn 7 rfl ?_
 refine ln rfl rfl ?_
 refine rn 2 rfl ?_
 refine jK h (fun _:Unit=>(⟨[],[],0⟩:St)) (fun k14 (_:Unit)=>k14=some r) (fun k14 h=>?_) ?_
 ·refine rn 1 rfl ?_
  refine wl (A:=a1.g.Entries) 45 rfl (fun hA29=>?_)
  refine lC (fun(p:Int)=>(⟨[(1,(V.ptr 0 8 0 0)),(45,(V.lst 1 (a1.g.Entries.map encS))),(46,(iV ((a1.g.Entries.length:Nat):Int))),(47,(iV p))],[(0,(Ob.arr 127 8 [(encTprovenderref6_checker a1)]))],1⟩:St)) (fun n p=>RG a1.g.Entries (fun tl nn=>M66_L1 F a1 k14 tl nn=some r) n p) (fun p h=>RG.zero h) (a1.g.Entries.length+1) 0 (RG.start h) (gr [0] rfl (hB rfl rfl rfl .nil) rfl) (fun n n16 h=>?_)
  refine rn 5 rfl ?_
  refine spL rfl (fun hb17=>?_) (fun hb17=>?_)
  ·obtain⟨x19,tl,hx20,h,hk1⟩:=RG.t hA29 h hb17
   unfold M66_L1 at h
   refine rn 2 rfl ?_
   refine jK h (fun _:Unit=>(⟨[(1,(V.ptr 0 8 0 0)),(45,(V.lst 1 (a1.g.Entries.map encS))),(46,(iV ((a1.g.Entries.length:Nat):Int))),(47,(iV n16))],[(0,(Ob.arr 127 8 [(encTprovenderref6_checker a1)]))],1⟩:St)) (fun k18 (_:Unit)=>k18=some r) (fun k18 h=>?_) ?_
   ·refine rn 4 rfl ?_
    refine ixh hx20 rfl rfl ?_
    refine rn 11 rfl ?_
    refine spO 55 h rfl (fun hb21 h=>?_) (fun hb21 h=>?_)
    ·refine rn 4 rfl ?_
     refine aops_lookup _ (bV false) (bV ((mget a1.n.funcs x19).getD false)) tMap115 tKey9 tZo4 (irel_con _) (wants_some (c:=true) (b:=true) 55 rfl rfl rfl) rfl .imm (.con rfl) ⟨_,rfl⟩ encM9_4_good (encM9_4_look a1.n.funcs x19) (getD_map (encM9_4_val) (mget a1.n.funcs x19) false) rfl ?_
     refine fo (rn 3 rfl ?_)
     refine spC h rfl (fun hb22 h=>?_) (fun hb22 h=>?_)
     ·refine rn 4 rfl ?_
      exact rt h rfl
     refine rn 7 rfl ?_
     refine cl h rfl rfl rfl (W98 _ _ _) rfl (fun y23 hx24 h=>?_)
     refine rn 7 rfl ?_
     refine spC h rfl (fun hb25 h=>?_) (fun hb25 h=>?_)
     ·refine rn 5 rfl ?_
      exact rt h rfl
     refine rn 2 rfl ?_
     exact jX () h (gr [0] rfl (hB rfl rfl rfl .nil) rfl)
    refine rn 16 rfl ?_
    refine cl h rfl rfl rfl (W98 _ _ _) rfl (fun y26 hx27 h=>?_)
    refine rn 7 rfl ?_
    refine spC h rfl (fun hb28 h=>?_) (fun hb28 h=>?_)
    ·refine rn 5 rfl ?_
     exact rt h rfl
    refine rn 2 rfl ?_
    exact jX () h (gr [0] rfl (hB rfl rfl rfl .nil) rfl)
   intro _ h
   refine rn 4 rfl ?_
   exact jX (w64 (n16+1)) (hk1 _ h) (gr [0] rfl (hB rfl rfl rfl .nil) rfl)
  replace h:=RG.f h hb17
  unfold M66_L1 at h
  refine rn 1 rfl ?_
  exact jX () h (g0 rfl rfl)
 intro _ h
 refine rn 4 rfl ?_
 exact rt h rfl
theorem W22(F:Nat)(a1:TGraph)(r:Int)(h:M22 F a1=some r):PureG (gl mx) Tryz.prog 22 [(V.agg (encTGraph a1))] (iV r):=by
 refine pin (fun r=>(iV r)) r rfl Tryz.func22 rfl rfl rfl rfl rfl (fun w0 m0 hg=>?_)
 unfold M22 at h
 obtain⟨y2,hx3,h⟩:=bind_some h
 obtain⟨y4,hx5,h⟩:=bind_some h
 refine rn 6 rfl ?_
 refine dr mixed (vs 2 rfl (cD rfl rfl rfl rfl (W65 _ _ _ hx3) rfl (vs 1 rfl (cD rfl rfl rfl rfl (W66 _ _ _ hx5) rfl (vs 1 rfl .nil))))) (by kernel_rfl) ?_
 exact rt h rfl
theorem W37(F:Nat)(a1:(List (List UInt8)))(a2:List Int)(r:(List Int))(h:M37 F a1 a2=some r):MutG (gl mx) Tryz.prog 37 [(V.ptr 0 1 0 0),(V.lst 1 (a1.map encS))] 2 [(0,(Ob.arr 91 1 [[(V.own 1 a2.length)]])),(1,(Ob.arr 5 1 (a2.map encI_u8)))] (resV []) 3 [(0,(Ob.arr 91 1 [[(V.own 2 r.length)]])),(1,Ob.dead),(2,(Ob.arr 5 1 (r.map encI_u8)))]:=by
 refine mut_enter Tryz.func37 rfl rfl (l:=[]) rfl rfl [(0,(V.ptr 0 1 0 0)),(1,(V.lst 1 (a1.map encS)))] rfl (fun w0 m0 β0 hg=>en ?_)
 unfold M37 at h
 obtain⟨y8,hx9,h⟩:=bind_some h
 refine ck h (fun hc10 h=>?_)
 refine ck h (fun hc11 h=>?_)
 refine awp_ghost ghost_res ?_
 refine awp_ghost ghost_res ?_
 refine fa ?_
 refine dr mixed (vs 6 rfl (cD rfl rfl rfl rfl (W33 _ _ _ _ hx9) rfl (xD (OD.mk [(8,(V.own 1 a2.length)),(10,(sV y8))] [(1,(Ob.arr 5 1 (a2.map encI_u8))),(2,Ob.res)] [(11,(V.own 2 (a2++(y8.map fun c=>(c.toNat:Int))).length))] [(2,(Ob.arr 5 1 ((a2++(y8.map fun c=>(c.toNat:Int))).map encI_u8))),(1,Ob.dead)]) ⟨⟨rfl,rfl,trivial⟩,⟨rfl,rfl,trivial⟩⟩ (by exact fun S hn h hh=>aops_appendT_at 2 rfl hn hh.2.1 (txt:=y8) ((a2++(y8.map fun c=>(c.toNat:Int))).map encI_u8) tEl78 tStr9 rfl wants_none h.1 hh.1 (by simp) h.2.1 (rows_txt _ a2 y8 (fun _=>rfl)) (List.length_map ..) hc10 rfl (aops_nil ⟨rfl,rfl⟩)) rfl (xD (OD.mk [] [] [(12,(V.lst 1 (([10]:List Int).map encI_u8)))] []) ⟨trivial,trivial⟩ (by exact fun S hn h hh=>aops_buildSlice_imm [(0,(V.con (.int .u8 10)))] [[(V.con (.int .u8 10))]] tEl78 tZ5 wants_none rfl rfl rfl rfl (evp_cons rfl evp_nil) rfl rfl (by simp) (imms_rows (.cons (.cons (Imm.con _) .nil) .nil)) rfl (aops_nil ⟨rfl,rfl⟩)) rfl (xD (OD.mk [(11,(V.own 2 (a2++(y8.map fun c=>(c.toNat:Int))).length)),(12,(V.lst 1 (([10]:List Int).map encI_u8)))] [(2,(Ob.arr 5 1 ((a2++(y8.map fun c=>(c.toNat:Int))).map encI_u8))),(3,Ob.res)] [(13,(V.own 3 ((a2++(y8.map fun c=>(c.toNat:Int)))++([10]:List Int)).length))] [(3,(Ob.arr 5 1 (((a2++(y8.map fun c=>(c.toNat:Int)))++([10]:List Int)).map encI_u8))),(2,Ob.dead)]) ⟨⟨rfl,rfl,trivial⟩,⟨rfl,rfl,trivial⟩⟩ (by exact fun S hn h hh=>aops_append_at 3 rfl hn hh.2.1 (([10]:List Int).map encI_u8) (((a2++(y8.map fun c=>(c.toNat:Int)))++([10]:List Int)).map encI_u8) tEl78 tIsSl78 rfl rfl wants_none h.1 hh.1 (by simp) h.2.1 (.lst (rows_one one_encI_u8)) (map_snoc encI_u8 (a2++(y8.map fun c=>(c.toNat:Int))) ([10]:List Int)) (List.length_map ..) hc11 rfl (aops_nil ⟨rfl,rfl⟩)) rfl (vs 3 rfl .nil)))))) (by kernel_rfl) ?_
 replace h:=Option.some.inj h
 subst h
 exact wE ⟨.inr rfl,[],(gr [0,1,3] rfl (hB rfl rfl rfl (hD rfl (hR rfl rfl .nil))) rfl),.nil⟩
theorem W10(F:Nat)(a1:TGraph)(r:((List UInt8)×Int))(h:M10 F a1=some r):PureG (gl mx) Tryz.prog 10 [(V.agg (encTGraph a1))] (V.tup [(sV (r.1)),(iV (r.2))]):=by
 refine pin (fun r=>(V.tup [(sV (r.1)),(iV (r.2))])) r rfl Tryz.func10 rfl rfl rfl rfl rfl (fun w0 m0 hg=>?_)
 unfold M10 at h
 refine rn 10 rfl ?_
 refine cl h rfl rfl rfl (W22 _ _) rfl (fun y2 hx3 h=>?_)
 refine rn 7 rfl ?_
 refine spC h rfl (fun hb4 h=>?_) (fun hb4 h=>?_)
 ·refine rn 6 rfl ?_
  exact rt h rfl
 refine rn 12 rfl ?_
 refine ln rfl rfl ?_
 refine rn 2 rfl ?_
 refine jK h (fun(p:(List Int))=>(⟨[(1,(V.ptr 0 4 0 0)),(5,(V.ptr 1 1 0 0))],[(0,(Ob.arr 27 4 [(encTGraph a1)])),(1,(Ob.arr 91 1 [[(V.own 2 p.length)]])),(2,(Ob.arr 5 1 (p.map encI_u8)))],3⟩:St)) (fun k5 p=>k5 p=some r) (fun k5 h=>?_) ?_
 ·refine rn 1 rfl ?_
  refine wl (A:=a1.Ifaces) 29 rfl (fun hA17=>?_)
  refine lC (fun(p:Int×(List Int))=>(⟨[(1,(V.ptr 0 4 0 0)),(5,(V.ptr 1 1 0 0)),(29,(V.lst 2 (a1.Ifaces.map encTIface))),(30,(iV ((a1.Ifaces.length:Nat):Int))),(31,(iV (p.1)))],[(0,(Ob.arr 27 4 [(encTGraph a1)])),(1,(Ob.arr 91 1 [[(V.own 2 (p.2).length)]])),(2,(Ob.arr 5 1 ((p.2).map encI_u8)))],3⟩:St)) (fun n p=>RG a1.Ifaces (fun tl nn=>M10_L1 F k5 tl p.2=some r) n p.1) (fun p h=>RG.zero h) (a1.Ifaces.length+1) (0,([]:List Int)) (RG.start h) (Ghost.trans (ghost_nilC 1 5 1 (Ob.arr 91 1 [[(V.own 2 0)]]) (ObSub.box (.cons Sub.mkNil .nil))) (ghost_ren 3 (fun i=>([0,1,2]:List Nat).getD i 0) _ _ (by decide) (EnvSub.get (.cons (Sub.ptr rfl rfl) (.cons (Sub.ptr rfl rfl) (.cons (Sub.imm (Imm.lst _ _)) (.cons (Sub.imm (Imm.con _)) (.cons (Sub.imm (Imm.con _)) .nil)))))) (HpSub.get (.cons rfl (ObSub.box (.cons (Sub.imm (Imm.lst _ _)) (.cons (Sub.imm (Imm.lst _ _)) (.cons (Sub.imm (Imm.lst _ _)) (.cons (Sub.imm (Imm.lst _ _)) .nil))))) (.cons rfl (ObSub.box (.cons (Sub.ownE rfl rfl (by simp)) .nil)) (.cons rfl (ObSub.rows (rows_imm imms_encI_u8)) .nil)))) rfl)) (fun n p h=>?_)
  obtain⟨n9,l10⟩:=p
  refine rn 5 rfl ?_
  refine spL rfl (fun hb11=>?_) (fun hb11=>?_)
  ·obtain⟨x12,tl,hx13,h,hk1⟩:=RG.t hA17 h hb11
   unfold M10_L1 at h
   refine rn 5 rfl ?_
   refine ixh hx13 rfl rfl ?_
   refine rn 8 rfl ?_
   refine aops_buildSlice [(0,(sV ([105,102,97,99,101]:List UInt8))),(1,(sV x12.Name))] [[(sV ([105,102,97,99,101]:List UInt8))],[(sV x12.Name)]] tEl25 tZ9 rfl rfl rfl rfl wants_none (evp_cons rfl (evp_cons rfl evp_nil)) rfl rfl (by simp) rfl ?_
   refine fo (rn 2 rfl ?_)
   refine apL encS h rfl rfl rfl (by simp) rfl (fun h=>?_)
   obtain⟨y15,hx16,h⟩:=bind_some h
   refine aops_ghost (ghost_frzE 5 41 rfl (rows_imm imms_encS) rfl (List.length_map ..).symm) ?_
   refine aops_mcallS (V.tup []) [(V.ptr 1 1 0 0),(V.lst 1 ((([([105,102,97,99,101]:List UInt8),x12.Name]:List (List UInt8))++x12.Methods).map encS))] (fun i=>([1,2]:List Nat).getD i 0) (fun i=>([1,2,6]:List Nat).getD i 0) 6 7 [(1,(Ob.arr 91 1 [[(V.own 6 y15.length)]])),(2,Ob.dead),(6,(Ob.arr 5 1 (y15.map encI_u8)))] fOk37 wants_none rfl (evm_cons rfl (evm_cons rfl evm_nil)) (.cons (Sub.ptr rfl rfl) (.cons (Sub.imm (Imm.lst _ _)) .nil)) (.cons rfl (ObSub.box (.cons (Sub.own rfl rfl) .nil)) (.cons rfl (ObSub.rows (rows_imm imms_encI_u8)) .nil)) (W37 F (([([105,102,97,99,101]:List UInt8),x12.Name]:List (List UInt8))++x12.Methods) l10 y15 hx16) rfl rfl rfl rfl (Sub.immT (Imm.tup .nil)) (.cons rfl (ObSub.box (.cons (Sub.ownT rfl rfl) .nil)) (.cons rfl ObSub.deadT (.cons rfl (ObSub.rowsT (rows_imm imms_encI_u8)) .nil))) _ rfl ?_
   refine fo (rn 6 rfl ?_)
   exact jX ((w64 (n9+1)),y15) (hk1 _ h) (gr [0,1,6] rfl (hB rfl rfl rfl (hB rfl rfl rfl (hR rfl rfl .nil))) rfl)
  replace h:=RG.f h hb11
  unfold M10_L1 at h
  refine rn 1 rfl ?_
  exact jX l10 h (gr [0,1,2] rfl (hB rfl rfl rfl (hB rfl rfl rfl (hR rfl rfl .nil))) rfl)
 intro l6 h
 refine rn 5 rfl ?_
 refine ln rfl rfl ?_
 refine rn 2 rfl ?_
 refine jK h (fun(p:(List Int))=>(⟨[(1,(V.ptr 0 4 0 0)),(5,(V.ptr 1 1 0 0))],[(0,(Ob.arr 27 4 [(encTGraph a1)])),(1,(Ob.arr 91 1 [[(V.own 2 p.length)]])),(2,(Ob.arr 5 1 (p.map encI_u8)))],3⟩:St)) (fun k18 p=>k18 p=some r) (fun k18 h=>?_) ?_
 ·refine rn 1 rfl ?_
  refine wl (A:=a1.Types) 45 rfl (fun hA43=>?_)
  refine lC (fun(p:Int×(List Int))=>(⟨[(1,(V.ptr 0 4 0 0)),(5,(V.ptr 1 1 0 0)),(45,(V.lst 2 (a1.Types.map encTType))),(46,(iV ((a1.Types.length:Nat):Int))),(47,(iV (p.1)))],[(0,(Ob.arr 27 4 [(encTGraph a1)])),(1,(Ob.arr 91 1 [[(V.own 2 (p.2).length)]])),(2,(Ob.arr 5 1 ((p.2).map encI_u8)))],3⟩:St)) (fun n p=>RG a1.Types (fun tl nn=>M10_L2 F k18 tl p.2=some r) n p.1) (fun p h=>RG.zero h) (a1.Types.length+1) (0,l6) (RG.start h) (gr [0,1,2] rfl (hB rfl rfl rfl (hB rfl rfl rfl (hR rfl rfl .nil))) rfl) (fun n p h=>?_)
  obtain⟨n22,l23⟩:=p
  refine rn 5 rfl ?_
  refine spL rfl (fun hb24=>?_) (fun hb24=>?_)
  ·obtain⟨x27,tl,hx28,h,hk2⟩:=RG.t hA43 h hb24
   unfold M10_L2 at h
   refine rn 2 rfl ?_
   refine jK h (fun(p:(List Int))=>(⟨[(1,(V.ptr 0 4 0 0)),(5,(V.ptr 1 1 0 0)),(45,(V.lst 2 (a1.Types.map encTType))),(46,(iV ((a1.Types.length:Nat):Int))),(47,(iV n22))],[(0,(Ob.arr 27 4 [(encTGraph a1)])),(1,(Ob.arr 91 1 [[(V.own 2 p.length)]])),(2,(Ob.arr 5 1 (p.map encI_u8)))],3⟩:St)) (fun k25 p=>k25 p=some r) (fun k25 h=>?_) ?_
   ·refine rn 3 rfl ?_
    refine ixh hx28 rfl rfl ?_
    refine rn 9 rfl ?_
    refine aops_buildSlice [(0,(sV ([116,121,112,101]:List UInt8))),(1,(sV x27.Name))] [[(sV ([116,121,112,101]:List UInt8))],[(sV x27.Name)]] tEl25 tZ9 rfl rfl rfl rfl wants_none (evp_cons rfl (evp_cons rfl evp_nil)) rfl rfl (by simp) rfl ?_
    obtain⟨y29,hx30,h⟩:=bind_some h
    refine aops_ghost (ghost_frzE 4 54 rfl (imms_rows (.cons (.cons (Imm.con _) .nil) (.cons (.cons (Imm.con _) .nil) .nil))) rfl rfl) ?_
    refine aops_mcallS (V.tup []) [(V.ptr 1 1 0 0),(V.lst 1 (([([116,121,112,101]:List UInt8),x27.Name]:List (List UInt8)).map encS))] (fun i=>([1,2]:List Nat).getD i 0) (fun i=>([1,2,5]:List Nat).getD i 0) 5 6 [(1,(Ob.arr 91 1 [[(V.own 5 y29.length)]])),(2,Ob.dead),(5,(Ob.arr 5 1 (y29.map encI_u8)))] fOk37 wants_none rfl (evm_cons rfl (evm_cons rfl evm_nil)) (.cons (Sub.ptr rfl rfl) (.cons (Sub.imm (Imm.lst _ _)) .nil)) (.cons rfl (ObSub.box (.cons (Sub.own rfl rfl) .nil)) (.cons rfl (ObSub.rows (rows_imm imms_encI_u8)) .nil)) (W37 F ([([116,121,112,101]:List UInt8),x27.Name]:List (List UInt8)) l23 y29 hx30) rfl rfl rfl rfl (Sub.immT (Imm.tup .nil)) (.cons rfl (ObSub.box (.cons (Sub.ownT rfl rfl) .nil)) (.cons rfl ObSub.deadT (.cons rfl (ObSub.rowsT (rows_imm imms_encI_u8)) .nil))) _ rfl ?_
    refine fo (rn 5 rfl ?_)
    refine ln rfl rfl ?_
    refine rn 2 rfl ?_
    refine jK h (fun(p:(List Int))=>(⟨[(1,(V.ptr 0 4 0 0)),(5,(V.ptr 1 1 0 0)),(45,(V.lst 2 (a1.Types.map encTType))),(46,(iV ((a1.Types.length:Nat):Int))),(47,(iV n22))],[(0,(Ob.arr 27 4 [(encTGraph a1)])),(1,(Ob.arr 91 1 [[(V.own 2 p.length)]])),(2,(Ob.arr 5 1 (p.map encI_u8)))],3⟩:St)) (fun k31 p=>k31 p=some r) (fun k31 h=>?_) ?_
    ·refine rn 1 rfl ?_
     refine wl (A:=x27.Methods) 57 rfl (fun hA42=>?_)
     refine lC (fun(p:Int×(List Int))=>(⟨[(1,(V.ptr 0 4 0 0)),(5,(V.ptr 1 1 0 0)),(45,(V.lst 2 (a1.Types.map encTType))),(46,(iV ((a1.Types.length:Nat):Int))),(47,(iV n22)),(57,(V.lst 2 (x27.Methods.map encTMethod))),(58,(iV ((x27.Methods.length:Nat):Int))),(59,(iV (p.1)))],[(0,(Ob.arr 27 4 [(encTGraph a1)])),(1,(Ob.arr 91 1 [[(V.own 2 (p.2).length)]])),(2,(Ob.arr 5 1 ((p.2).map encI_u8)))],3⟩:St)) (fun n p=>RG x27.Methods (fun tl nn=>M10_L3 F k31 tl p.2=some r) n p.1) (fun p h=>RG.zero h) (x27.Methods.length+1) (0,y29) (RG.start h) (gr [0,1,5] rfl (hB rfl rfl rfl (hB rfl rfl rfl (hR rfl rfl .nil))) rfl) (fun n p h=>?_)
     obtain⟨n35,l36⟩:=p
     refine rn 5 rfl ?_
     refine spL rfl (fun hb37=>?_) (fun hb37=>?_)
     ·obtain⟨x38,tl,hx39,h,hk3⟩:=RG.t hA42 h hb37
      unfold M10_L3 at h
      refine rn 5 rfl ?_
      refine ixh hx39 rfl rfl ?_
      refine rn 10 rfl ?_
      refine aops_buildSlice [(0,(sV ([109,101,116,104,111,100]:List UInt8))),(1,(sV x38.Name)),(2,(sV x38.Func))] [[(sV ([109,101,116,104,111,100]:List UInt8))],[(sV x38.Name)],[(sV x38.Func)]] tEl25 tZ9 rfl rfl rfl rfl wants_none (evp_cons rfl (evp_cons rfl (evp_cons rfl evp_nil))) rfl rfl (by simp) rfl ?_
      obtain⟨y40,hx41,h⟩:=bind_some h
      refine aops_ghost (ghost_frzE 4 68 rfl (imms_rows (.cons (.cons (Imm.con _) .nil) (.cons (.cons (Imm.con _) .nil) (.cons (.cons (Imm.con _) .nil) .nil)))) rfl rfl) ?_
      refine aops_mcallS (V.tup []) [(V.ptr 1 1 0 0),(V.lst 1 (([([109,101,116,104,111,100]:List UInt8),x38.Name,x38.Func]:List (List UInt8)).map encS))] (fun i=>([1,2]:List Nat).getD i 0) (fun i=>([1,2,5]:List Nat).getD i 0) 5 6 [(1,(Ob.arr 91 1 [[(V.own 5 y40.length)]])),(2,Ob.dead),(5,(Ob.arr 5 1 (y40.map encI_u8)))] fOk37 wants_none rfl (evm_cons rfl (evm_cons rfl evm_nil)) (.cons (Sub.ptr rfl rfl) (.cons (Sub.imm (Imm.lst _ _)) .nil)) (.cons rfl (ObSub.box (.cons (Sub.own rfl rfl) .nil)) (.cons rfl (ObSub.rows (rows_imm imms_encI_u8)) .nil)) (W37 F ([([109,101,116,104,111,100]:List UInt8),x38.Name,x38.Func]:List (List UInt8)) l36 y40 hx41) rfl rfl rfl rfl (Sub.immT (Imm.tup .nil)) (.cons rfl (ObSub.box (.cons (Sub.ownT rfl rfl) .nil)) (.cons rfl ObSub.deadT (.cons rfl (ObSub.rowsT (rows_imm imms_encI_u8)) .nil))) _ rfl ?_
      refine fo (rn 6 rfl ?_)
      exact jX ((w64 (n35+1)),y40) (hk3 _ h) (gr [0,1,5] rfl (hB rfl rfl rfl (hB rfl rfl rfl (hR rfl rfl .nil))) rfl)
     replace h:=RG.f h hb37
     unfold M10_L3 at h
     refine rn 1 rfl ?_
     exact jX l36 h (gr [0,1,2] rfl (hB rfl rfl rfl (hB rfl rfl rfl (hR rfl rfl .nil))) rfl)
    intro l32 h
    refine rn 1 rfl ?_
    exact jX l32 h (gr [0,1,2] rfl (hB rfl rfl rfl (hB rfl rfl rfl (hR rfl rfl .nil))) rfl)
   intro l26 h
   refine rn 4 rfl ?_
   exact jX ((w64 (n22+1)),l26) (hk2 _ h) (gr [0,1,2] rfl (hB rfl rfl rfl (hB rfl rfl rfl (hR rfl rfl .nil))) rfl)
  replace h:=RG.f h hb24
  unfold M10_L2 at h
  refine rn 1 rfl ?_
  exact jX l23 h (gr [0,1,2] rfl (hB rfl rfl rfl (hB rfl rfl rfl (hR rfl rfl .nil))) rfl)
 intro l19 h
 refine rn 5 rfl ?_
 refine ln rfl rfl ?_
 refine rn 2 rfl ?_
 refine jK h (fun(p:(List Int))=>(⟨[(1,(V.ptr 0 4 0 0)),(5,(V.ptr 1 1 0 0))],[(0,(Ob.arr 27 4 [(encTGraph a1)])),(1,(Ob.arr 91 1 [[(V.own 2 p.length)]])),(2,(Ob.arr 5 1 (p.map encI_u8)))],3⟩:St)) (fun k44 p=>k44 p=some r) (fun k44 h=>?_) ?_
 ·refine rn 1 rfl ?_
  refine wl (A:=a1.Funcs) 73 rfl (fun hA88=>?_)
  refine lC (fun(p:Int×(List Int))=>(⟨[(1,(V.ptr 0 4 0 0)),(5,(V.ptr 1 1 0 0)),(73,(V.lst 4 (a1.Funcs.map encTFunc))),(74,(iV ((a1.Funcs.length:Nat):Int))),(75,(iV (p.1)))],[(0,(Ob.arr 27 4 [(encTGraph a1)])),(1,(Ob.arr 91 1 [[(V.own 2 (p.2).length)]])),(2,(Ob.arr 5 1 ((p.2).map encI_u8)))],3⟩:St)) (fun n p=>RG a1.Funcs (fun tl nn=>M10_L4 F k44 tl p.2=some r) n p.1) (fun p h=>RG.zero h) (a1.Funcs.length+1) (0,l19) (RG.start h) (gr [0,1,2] rfl (hB rfl rfl rfl (hB rfl rfl rfl (hR rfl rfl .nil))) rfl) (fun n p h=>?_)
  obtain⟨n48,l49⟩:=p
  refine rn 5 rfl ?_
  refine spL rfl (fun hb50=>?_) (fun hb50=>?_)
  ·obtain⟨x53,tl,hx54,h,hk4⟩:=RG.t hA88 h hb50
   unfold M10_L4 at h
   refine rn 2 rfl ?_
   refine jK h (fun(p:(List Int))=>(⟨[(1,(V.ptr 0 4 0 0)),(5,(V.ptr 1 1 0 0)),(73,(V.lst 4 (a1.Funcs.map encTFunc))),(74,(iV ((a1.Funcs.length:Nat):Int))),(75,(iV n48))],[(0,(Ob.arr 27 4 [(encTGraph a1)])),(1,(Ob.arr 91 1 [[(V.own 2 p.length)]])),(2,(Ob.arr 5 1 (p.map encI_u8)))],3⟩:St)) (fun k51 p=>k51 p=some r) (fun k51 h=>?_) ?_
   ·refine rn 3 rfl ?_
    refine ixh hx54 rfl rfl ?_
    refine rn 11 rfl ?_
    refine aops_buildSlice [(0,(sV ([102,117,110,99]:List UInt8))),(1,(sV x53.Name)),(2,(sV x53.Component))] [[(sV ([102,117,110,99]:List UInt8))],[(sV x53.Name)],[(sV x53.Component)]] tEl25 tZ9 rfl rfl rfl rfl wants_none (evp_cons rfl (evp_cons rfl (evp_cons rfl evp_nil))) rfl rfl (by simp) rfl ?_
    obtain⟨y55,hx56,h⟩:=bind_some h
    refine aops_ghost (ghost_frzE 4 84 rfl (imms_rows (.cons (.cons (Imm.con _) .nil) (.cons (.cons (Imm.con _) .nil) (.cons (.cons (Imm.con _) .nil) .nil)))) rfl rfl) ?_
    refine aops_mcallS (V.tup []) [(V.ptr 1 1 0 0),(V.lst 1 (([([102,117,110,99]:List UInt8),x53.Name,x53.Component]:List (List UInt8)).map encS))] (fun i=>([1,2]:List Nat).getD i 0) (fun i=>([1,2,5]:List Nat).getD i 0) 5 6 [(1,(Ob.arr 91 1 [[(V.own 5 y55.length)]])),(2,Ob.dead),(5,(Ob.arr 5 1 (y55.map encI_u8)))] fOk37 wants_none rfl (evm_cons rfl (evm_cons rfl evm_nil)) (.cons (Sub.ptr rfl rfl) (.cons (Sub.imm (Imm.lst _ _)) .nil)) (.cons rfl (ObSub.box (.cons (Sub.own rfl rfl) .nil)) (.cons rfl (ObSub.rows (rows_imm imms_encI_u8)) .nil)) (W37 F ([([102,117,110,99]:List UInt8),x53.Name,x53.Component]:List (List UInt8)) l49 y55 hx56) rfl rfl rfl rfl (Sub.immT (Imm.tup .nil)) (.cons rfl (ObSub.box (.cons (Sub.ownT rfl rfl) .nil)) (.cons rfl ObSub.deadT (.cons rfl (ObSub.rowsT (rows_imm imms_encI_u8)) .nil))) _ rfl ?_
    refine fo (rn 6 rfl ?_)
    refine ln rfl rfl ?_
    refine rn 2 rfl ?_
    refine jK h (fun(p:(List Int))=>(⟨[(1,(V.ptr 0 4 0 0)),(5,(V.ptr 1 1 0 0)),(13,(V.ptr 2 4 0 0)),(73,(V.lst 4 (a1.Funcs.map encTFunc))),(74,(iV ((a1.Funcs.length:Nat):Int))),(75,(iV n48))],[(0,(Ob.arr 27 4 [(encTGraph a1)])),(1,(Ob.arr 91 1 [[(V.own 3 p.length)]])),(2,(Ob.arr 71 4 [(encTFunc x53)])),(3,(Ob.arr 5 1 (p.map encI_u8)))],4⟩:St)) (fun k57 p=>k57 p=some r) (fun k57 h=>?_) ?_
    ·refine rn 1 rfl ?_
     refine wl (A:=x53.Calls) 87 rfl (fun hA75=>?_)
     refine lC (fun(p:Int×(List Int))=>(⟨[(1,(V.ptr 0 4 0 0)),(5,(V.ptr 1 1 0 0)),(13,(V.ptr 2 4 0 0)),(73,(V.lst 4 (a1.Funcs.map encTFunc))),(74,(iV ((a1.Funcs.length:Nat):Int))),(75,(iV n48)),(87,(V.lst 4 (x53.Calls.map encTCall))),(88,(iV ((x53.Calls.length:Nat):Int))),(89,(iV (p.1)))],[(0,(Ob.arr 27 4 [(encTGraph a1)])),(1,(Ob.arr 91 1 [[(V.own 3 (p.2).length)]])),(2,(Ob.arr 71 4 [(encTFunc x53)])),(3,(Ob.arr 5 1 ((p.2).map encI_u8)))],4⟩:St)) (fun n p=>RG x53.Calls (fun tl nn=>M10_L5 F k57 tl p.2=some r) n p.1) (fun p h=>RG.zero h) (x53.Calls.length+1) (0,y55) (RG.start h) (gr [0,1,3,5] rfl (hB rfl rfl rfl (hB rfl rfl rfl (hB rfl rfl rfl (hR rfl rfl .nil)))) rfl) (fun n p h=>?_)
     obtain⟨n61,l62⟩:=p
     refine rn 5 rfl ?_
     refine spL rfl (fun hb63=>?_) (fun hb63=>?_)
     ·obtain⟨x64,tl,hx65,h,hk5⟩:=RG.t hA75 h hb63
      unfold M10_L5 at h
      refine rn 5 rfl ?_
      refine ixh hx65 rfl rfl ?_
      refine rn 8 rfl ?_
      refine aops_buildSlice [(0,(sV ([99,97,108,108]:List UInt8))),(1,(sV x64.Target))] [[(sV ([99,97,108,108]:List UInt8))],[(sV x64.Target)]] tEl25 tZ9 rfl rfl rfl rfl wants_none (evp_cons rfl (evp_cons rfl evp_nil)) rfl rfl (by simp) rfl ?_
      refine fo (rn 9 rfl ?_)
      refine jK h (fun(p:(List (List UInt8)))=>(⟨[(1,(V.ptr 0 4 0 0)),(5,(V.ptr 1 1 0 0)),(13,(V.ptr 2 4 0 0)),(15,(V.ptr 3 4 0 0)),(16,(V.own 4 p.length)),(73,(V.lst 4 (a1.Funcs.map encTFunc))),(74,(iV ((a1.Funcs.length:Nat):Int))),(75,(iV n48)),(87,(V.lst 4 (x53.Calls.map encTCall))),(88,(iV ((x53.Calls.length:Nat):Int))),(89,(iV n61))],[(0,(Ob.arr 27 4 [(encTGraph a1)])),(1,(Ob.arr 91 1 [[(V.own 5 l62.length)]])),(2,(Ob.arr 71 4 [(encTFunc x53)])),(3,(Ob.arr 74 4 [(encTCall x64)])),(4,(Ob.arr 9 1 (p.map encS))),(5,(Ob.arr 5 1 (l62.map encI_u8)))],6⟩:St)) (fun k66 p=>k66 p=some r) (fun k66 h=>?_) ?_
      ·refine spC h rfl (fun hb68 h=>?_) (fun hb68 h=>?_)
       ·refine rn 5 rfl ?_
        refine aops_buildSlice [(0,(sV ([100,105,115,112,97,116,99,104]:List UInt8))),(1,(sV x64.Target)),(2,(sV x64.Method))] [[(sV ([100,105,115,112,97,116,99,104]:List UInt8))],[(sV x64.Target)],[(sV x64.Method)]] tEl25 tZ9 rfl rfl rfl rfl wants_none (evp_cons rfl (evp_cons rfl (evp_cons rfl evp_nil))) rfl rfl (by simp) rfl ?_
        refine fo (rn 2 rfl ?_)
        exact jX ([([100,105,115,112,97,116,99,104]:List UInt8),x64.Target,x64.Method]:List (List UInt8)) h (ghost_ren 6 (fun i=>([0,1,2,4,6,3]:List Nat).getD i 0) _ _ (by decide) (EnvSub.get (.cons (Sub.ptr rfl rfl) (.cons (Sub.ptr rfl rfl) (.cons (Sub.ptr rfl rfl) (.cons (Sub.ptr rfl rfl) (.cons (Sub.ownE rfl rfl (by simp)) (.cons (Sub.imm (Imm.lst _ _)) (.cons (Sub.imm (Imm.con _)) (.cons (Sub.imm (Imm.con _)) (.cons (Sub.imm (Imm.lst _ _)) (.cons (Sub.imm (Imm.con _)) (.cons (Sub.imm (Imm.con _)) .nil)))))))))))) (HpSub.get (.cons rfl (ObSub.box (.cons (Sub.imm (Imm.lst _ _)) (.cons (Sub.imm (Imm.lst _ _)) (.cons (Sub.imm (Imm.lst _ _)) (.cons (Sub.imm (Imm.lst _ _)) .nil))))) (.cons rfl (ObSub.box (.cons (Sub.own rfl rfl) .nil)) (.cons rfl (ObSub.box (.cons (Sub.imm (Imm.con _)) (.cons (Sub.imm (Imm.con _)) (.cons (Sub.imm (Imm.lst _ _)) (.cons (Sub.imm (Imm.lst _ _)) .nil))))) (.cons rfl (ObSub.box (.cons (Sub.imm (Imm.con _)) (.cons (Sub.imm (Imm.con _)) (.cons (Sub.imm (Imm.con _)) (.cons (Sub.imm (Imm.con _)) .nil))))) (.cons rfl (ObSub.rows (rows_imm imms_encS)) (.cons rfl (ObSub.rows (rows_imm imms_encI_u8)) .nil))))))) rfl)
       refine rn 1 rfl ?_
       exact jX ([([99,97,108,108]:List UInt8),x64.Target]:List (List UInt8)) h (ghost_ren 6 (fun i=>([0,1,2,4,5,3]:List Nat).getD i 0) _ _ (by decide) (EnvSub.get (.cons (Sub.ptr rfl rfl) (.cons (Sub.ptr rfl rfl) (.cons (Sub.ptr rfl rfl) (.cons (Sub.ptr rfl rfl) (.cons (Sub.ownE rfl rfl (by simp)) (.cons (Sub.imm (Imm.lst _ _)) (.cons (Sub.imm (Imm.con _)) (.cons (Sub.imm (Imm.con _)) (.cons (Sub.imm (Imm.lst _ _)) (.cons (Sub.imm (Imm.con _)) (.cons (Sub.imm (Imm.con _)) .nil)))))))))))) (HpSub.get (.cons rfl (ObSub.box (.cons (Sub.imm (Imm.lst _ _)) (.cons (Sub.imm (Imm.lst _ _)) (.cons (Sub.imm (Imm.lst _ _)) (.cons (Sub.imm (Imm.lst _ _)) .nil))))) (.cons rfl (ObSub.box (.cons (Sub.own rfl rfl) .nil)) (.cons rfl (ObSub.box (.cons (Sub.imm (Imm.con _)) (.cons (Sub.imm (Imm.con _)) (.cons (Sub.imm (Imm.lst _ _)) (.cons (Sub.imm (Imm.lst _ _)) .nil))))) (.cons rfl (ObSub.box (.cons (Sub.imm (Imm.con _)) (.cons (Sub.imm (Imm.con _)) (.cons (Sub.imm (Imm.con _)) (.cons (Sub.imm (Imm.con _)) .nil))))) (.cons rfl (ObSub.rows (rows_imm imms_encS)) (.cons rfl (ObSub.rows (rows_imm imms_encI_u8)) .nil))))))) rfl)
      intro l67 h
      refine rn 7 rfl ?_
      refine jK h (fun(p:(List (List UInt8)))=>(⟨[(1,(V.ptr 0 4 0 0)),(5,(V.ptr 1 1 0 0)),(13,(V.ptr 2 4 0 0)),(16,(V.own 3 p.length)),(73,(V.lst 4 (a1.Funcs.map encTFunc))),(74,(iV ((a1.Funcs.length:Nat):Int))),(75,(iV n48)),(87,(V.lst 4 (x53.Calls.map encTCall))),(88,(iV ((x53.Calls.length:Nat):Int))),(89,(iV n61))],[(0,(Ob.arr 27 4 [(encTGraph a1)])),(1,(Ob.arr 91 1 [[(V.own 4 l62.length)]])),(2,(Ob.arr 71 4 [(encTFunc x53)])),(3,(Ob.arr 9 1 (p.map encS))),(4,(Ob.arr 5 1 (l62.map encI_u8)))],5⟩:St)) (fun k69 p=>k69 p=some r) (fun k69 h=>?_) ?_
      ·refine spC h rfl (fun hb71 h=>?_) (fun hb71 h=>?_)
       ·refine rn 4 rfl ?_
        refine aops_buildSlice [(0,(sV ([105,102]:List UInt8))),(1,(sV x64.Feature))] [[(sV ([105,102]:List UInt8))],[(sV x64.Feature)]] tEl25 tZ9 rfl rfl rfl rfl wants_none (evp_cons rfl (evp_cons rfl evp_nil)) rfl rfl (by simp) rfl ?_
        refine fo ?_
        refine apO encS h rfl rfl rfl rfl rfl rfl rfl rfl (fun h=>?_)
        refine rn 2 rfl ?_
        exact jX (l67++([([105,102]:List UInt8),x64.Feature]:List (List UInt8))) h (gr [0,1,2,7,5] rfl (hB rfl rfl rfl (hB rfl rfl rfl (hB rfl rfl rfl (hR rfl rfl (hR rfl rfl .nil))))) rfl)
       refine rn 1 rfl ?_
       exact jX l67 h (gr [0,1,2,4,5] rfl (hB rfl rfl rfl (hB rfl rfl rfl (hB rfl rfl rfl (hR rfl rfl (hR rfl rfl .nil))))) rfl)
      intro l70 h
      obtain⟨y73,hx74,h⟩:=bind_some h
      refine rn 3 rfl ?_
      refine aops_ghost (ghost_frzEs 3 [113,16] rfl (rows_imm imms_encS) (List.forall_mem_cons.2 ⟨rfl,(List.forall_mem_cons.2 ⟨rfl,(fun _ hx=>nomatch hx)⟩)⟩) (List.length_map ..).symm) ?_
      refine aops_mcallS (V.tup []) [(V.ptr 1 1 0 0),(V.lst 1 (l70.map encS))] (fun i=>([1,4]:List Nat).getD i 0) (fun i=>([1,4,5]:List Nat).getD i 0) 5 6 [(1,(Ob.arr 91 1 [[(V.own 5 y73.length)]])),(4,Ob.dead),(5,(Ob.arr 5 1 (y73.map encI_u8)))] fOk37 wants_none rfl (evm_cons rfl (evm_cons rfl evm_nil)) (.cons (Sub.ptr rfl rfl) (.cons (Sub.imm (Imm.lst _ _)) .nil)) (.cons rfl (ObSub.box (.cons (Sub.own rfl rfl) .nil)) (.cons rfl (ObSub.rows (rows_imm imms_encI_u8)) .nil)) (W37 F l70 l62 y73 hx74) rfl rfl rfl rfl (Sub.immT (Imm.tup .nil)) (.cons rfl (ObSub.box (.cons (Sub.ownT rfl rfl) .nil)) (.cons rfl ObSub.deadT (.cons rfl (ObSub.rowsT (rows_imm imms_encI_u8)) .nil))) _ rfl ?_
      refine fo (rn 6 rfl ?_)
      exact jX ((w64 (n61+1)),y73) (hk5 _ h) (gr [0,1,2,5] rfl (hB rfl rfl rfl (hB rfl rfl rfl (hB rfl rfl rfl (hR rfl rfl .nil)))) rfl)
     replace h:=RG.f h hb63
     unfold M10_L5 at h
     refine rn 1 rfl ?_
     exact jX l62 h (gr [0,1,2,3] rfl (hB rfl rfl rfl (hB rfl rfl rfl (hB rfl rfl rfl (hR rfl rfl .nil)))) rfl)
    intro l58 h
    refine rn 4 rfl ?_
    refine ln rfl rfl ?_
    refine rn 2 rfl ?_
    refine jK h (fun(p:(List Int))=>(⟨[(1,(V.ptr 0 4 0 0)),(5,(V.ptr 1 1 0 0)),(73,(V.lst 4 (a1.Funcs.map encTFunc))),(74,(iV ((a1.Funcs.length:Nat):Int))),(75,(iV n48))],[(0,(Ob.arr 27 4 [(encTGraph a1)])),(1,(Ob.arr 91 1 [[(V.own 2 p.length)]])),(2,(Ob.arr 5 1 (p.map encI_u8)))],3⟩:St)) (fun k76 p=>k76 p=some r) (fun k76 h=>?_) ?_
    ·refine rn 1 rfl ?_
     refine wl (A:=x53.Makes) 117 rfl (fun hA87=>?_)
     refine lC (fun(p:Int×(List Int))=>(⟨[(1,(V.ptr 0 4 0 0)),(5,(V.ptr 1 1 0 0)),(73,(V.lst 4 (a1.Funcs.map encTFunc))),(74,(iV ((a1.Funcs.length:Nat):Int))),(75,(iV n48)),(117,(V.lst 1 (x53.Makes.map encS))),(118,(iV ((x53.Makes.length:Nat):Int))),(119,(iV (p.1)))],[(0,(Ob.arr 27 4 [(encTGraph a1)])),(1,(Ob.arr 91 1 [[(V.own 2 (p.2).length)]])),(2,(Ob.arr 5 1 ((p.2).map encI_u8)))],3⟩:St)) (fun n p=>RG x53.Makes (fun tl nn=>M10_L6 F k76 tl p.2=some r) n p.1) (fun p h=>RG.zero h) (x53.Makes.length+1) (0,l58) (RG.start h) (gr [0,1,3] rfl (hB rfl rfl rfl (hB rfl rfl rfl (hR rfl rfl .nil))) rfl) (fun n p h=>?_)
     obtain⟨n80,l81⟩:=p
     refine rn 5 rfl ?_
     refine spL rfl (fun hb82=>?_) (fun hb82=>?_)
     ·obtain⟨x83,tl,hx84,h,hk6⟩:=RG.t hA87 h hb82
      unfold M10_L6 at h
      refine rn 5 rfl ?_
      refine ixh hx84 rfl rfl ?_
      refine rn 6 rfl ?_
      refine aops_buildSlice [(0,(sV ([109,97,107,101,115]:List UInt8))),(1,(sV x83))] [[(sV ([109,97,107,101,115]:List UInt8))],[(sV x83)]] tEl25 tZ9 rfl rfl rfl rfl wants_none (evp_cons rfl (evp_cons rfl evp_nil)) rfl rfl (by simp) rfl ?_
      obtain⟨y85,hx86,h⟩:=bind_some h
      refine aops_ghost (ghost_frzE 3 125 rfl (imms_rows (.cons (.cons (Imm.con _) .nil) (.cons (.cons (Imm.con _) .nil) .nil))) rfl rfl) ?_
      refine aops_mcallS (V.tup []) [(V.ptr 1 1 0 0),(V.lst 1 (([([109,97,107,101,115]:List UInt8),x83]:List (List UInt8)).map encS))] (fun i=>([1,2]:List Nat).getD i 0) (fun i=>([1,2,4]:List Nat).getD i 0) 4 5 [(1,(Ob.arr 91 1 [[(V.own 4 y85.length)]])),(2,Ob.dead),(4,(Ob.arr 5 1 (y85.map encI_u8)))] fOk37 wants_none rfl (evm_cons rfl (evm_cons rfl evm_nil)) (.cons (Sub.ptr rfl rfl) (.cons (Sub.imm (Imm.lst _ _)) .nil)) (.cons rfl (ObSub.box (.cons (Sub.own rfl rfl) .nil)) (.cons rfl (ObSub.rows (rows_imm imms_encI_u8)) .nil)) (W37 F ([([109,97,107,101,115]:List UInt8),x83]:List (List UInt8)) l81 y85 hx86) rfl rfl rfl rfl (Sub.immT (Imm.tup .nil)) (.cons rfl (ObSub.box (.cons (Sub.ownT rfl rfl) .nil)) (.cons rfl ObSub.deadT (.cons rfl (ObSub.rowsT (rows_imm imms_encI_u8)) .nil))) _ rfl ?_
      refine fo (rn 6 rfl ?_)
      exact jX ((w64 (n80+1)),y85) (hk6 _ h) (gr [0,1,4] rfl (hB rfl rfl rfl (hB rfl rfl rfl (hR rfl rfl .nil))) rfl)
     replace h:=RG.f h hb82
     unfold M10_L6 at h
     refine rn 1 rfl ?_
     exact jX l81 h (gr [0,1,2] rfl (hB rfl rfl rfl (hB rfl rfl rfl (hR rfl rfl .nil))) rfl)
    intro l77 h
    refine rn 1 rfl ?_
    exact jX l77 h (gr [0,1,2] rfl (hB rfl rfl rfl (hB rfl rfl rfl (hR rfl rfl .nil))) rfl)
   intro l52 h
   refine rn 4 rfl ?_
   exact jX ((w64 (n48+1)),l52) (hk4 _ h) (gr [0,1,2] rfl (hB rfl rfl rfl (hB rfl rfl rfl (hR rfl rfl .nil))) rfl)
  replace h:=RG.f h hb50
  unfold M10_L4 at h
  refine rn 1 rfl ?_
  exact jX l49 h (gr [0,1,2] rfl (hB rfl rfl rfl (hB rfl rfl rfl (hR rfl rfl .nil))) rfl)
 intro l45 h
 refine rn 5 rfl ?_
 refine ln rfl rfl ?_
 refine rn 2 rfl ?_
 refine jK h (fun(p:(List Int))=>(⟨[(5,(V.ptr 0 1 0 0))],[(0,(Ob.arr 91 1 [[(V.own 1 p.length)]])),(1,(Ob.arr 5 1 (p.map encI_u8)))],2⟩:St)) (fun k89 p=>k89 p=some r) (fun k89 h=>?_) ?_
 ·refine rn 1 rfl ?_
  refine wl (A:=a1.Entries) 130 rfl (fun hA100=>?_)
  refine lC (fun(p:Int×(List Int))=>(⟨[(5,(V.ptr 0 1 0 0)),(130,(V.lst 1 (a1.Entries.map encS))),(131,(iV ((a1.Entries.length:Nat):Int))),(132,(iV (p.1)))],[(0,(Ob.arr 91 1 [[(V.own 1 (p.2).length)]])),(1,(Ob.arr 5 1 ((p.2).map encI_u8)))],2⟩:St)) (fun n p=>RG a1.Entries (fun tl nn=>M10_L7 F k89 tl p.2=some r) n p.1) (fun p h=>RG.zero h) (a1.Entries.length+1) (0,l45) (RG.start h) (gr [1,2] rfl (hB rfl rfl rfl (hR rfl rfl .nil)) rfl) (fun n p h=>?_)
  obtain⟨n93,l94⟩:=p
  refine rn 5 rfl ?_
  refine spL rfl (fun hb95=>?_) (fun hb95=>?_)
  ·obtain⟨x96,tl,hx97,h,hk7⟩:=RG.t hA100 h hb95
   unfold M10_L7 at h
   refine rn 5 rfl ?_
   refine ixh hx97 rfl rfl ?_
   refine rn 6 rfl ?_
   refine aops_buildSlice [(0,(sV ([101,110,116,114,121]:List UInt8))),(1,(sV x96))] [[(sV ([101,110,116,114,121]:List UInt8))],[(sV x96)]] tEl25 tZ9 rfl rfl rfl rfl wants_none (evp_cons rfl (evp_cons rfl evp_nil)) rfl rfl (by simp) rfl ?_
   obtain⟨y98,hx99,h⟩:=bind_some h
   refine aops_ghost (ghost_frzE 2 138 rfl (imms_rows (.cons (.cons (Imm.con _) .nil) (.cons (.cons (Imm.con _) .nil) .nil))) rfl rfl) ?_
   refine aops_mcallS (V.tup []) [(V.ptr 0 1 0 0),(V.lst 1 (([([101,110,116,114,121]:List UInt8),x96]:List (List UInt8)).map encS))] (fun i=>([0,1]:List Nat).getD i 0) (fun i=>([0,1,3]:List Nat).getD i 0) 3 4 [(0,(Ob.arr 91 1 [[(V.own 3 y98.length)]])),(1,Ob.dead),(3,(Ob.arr 5 1 (y98.map encI_u8)))] fOk37 wants_none rfl (evm_cons rfl (evm_cons rfl evm_nil)) (.cons (Sub.ptr rfl rfl) (.cons (Sub.imm (Imm.lst _ _)) .nil)) (.cons rfl (ObSub.box (.cons (Sub.own rfl rfl) .nil)) (.cons rfl (ObSub.rows (rows_imm imms_encI_u8)) .nil)) (W37 F ([([101,110,116,114,121]:List UInt8),x96]:List (List UInt8)) l94 y98 hx99) rfl rfl rfl rfl (Sub.immT (Imm.tup .nil)) (.cons rfl (ObSub.box (.cons (Sub.ownT rfl rfl) .nil)) (.cons rfl ObSub.deadT (.cons rfl (ObSub.rowsT (rows_imm imms_encI_u8)) .nil))) _ rfl ?_
   refine fo (rn 6 rfl ?_)
   exact jX ((w64 (n93+1)),y98) (hk7 _ h) (gr [0,3] rfl (hB rfl rfl rfl (hR rfl rfl .nil)) rfl)
  replace h:=RG.f h hb95
  unfold M10_L7 at h
  refine rn 1 rfl ?_
  exact jX l94 h (gr [0,1] rfl (hB rfl rfl rfl (hR rfl rfl .nil)) rfl)
 intro l90 h
 refine rn 10 rfl ?_
 refine spC h rfl (fun hb101 h=>?_) (fun hb101 h=>?_)
 ·refine rn 5 rfl ?_
  exact rt h rfl
 refine rn 7 rfl ?_
 refine aops_ghost (ghost_frzEs 1 [150,144] rfl (rows_imm imms_encI_u8) (List.forall_mem_cons.2 ⟨rfl,(List.forall_mem_cons.2 ⟨rfl,(fun _ hx=>nomatch hx)⟩)⟩) (List.length_map ..).symm) ?_
 refine aops_bytesStr l90 tBy78 tStr9 wants_none rfl rfl ?_
 refine fo (rn 3 rfl ?_)
 exact rt h rfl
theorem W8(F:Nat)(r:Bool)(h:M8 F=some r):PureG (gl mx) Tryz.prog 8 [] (bV r):=by
 unfold M8 at h
 replace h:=Option.some.inj h
 subst h
 exact told_pure
theorem W11(F:Nat)(a1:(List UInt8))(a2:(List UInt8))(r:List (List UInt8))(h:M11 F a1 a2=some r):PureG (gl mx) Tryz.prog 11 [(sV a1),(sV a2)] (V.lst 1 (r.map encS)):=by
 unfold M11 at h
 obtain⟨hc,h⟩:=chk_some h
 replace h:=Option.some.inj h
 subst h
 exact pure_split (g:=0) (T:=9) rfl hc (fun w h1 h2 h3=>Go.Proofs.Tryz.strings_Split _ _ _ w h1 h2 h3)
theorem W16(F:Nat)(a1:(List UInt8))(a2:(List UInt8))(r:((List UInt8)×(List UInt8)×Bool))(h:M16 F a1 a2=some r):PureG (gl mx) Tryz.prog 16 [(sV a1),(sV a2)] (V.tup [(sV (r.1)),(sV (r.2.1)),(bV (r.2.2))]):=by
 unfold M16 at h
 obtain⟨hc,h⟩:=chk_some h
 replace h:=Option.some.inj h
 subst h
 exact pure_cut (g:=0) rfl hc (fun w h1 h2=>Go.Proofs.Tryz.strings_Cut _ _ _ w h1 h2)
theorem W12(F:Nat)(a1:(List UInt8))(r:(List (List UInt8)))(h:M12 F a1=some r):PureG (gl mx) Tryz.prog 12 [(sV a1)] (V.lst 1 (r.map encS)):=by
 refine pin (fun r=>(V.lst 1 (r.map encS))) r rfl Tryz.func12 rfl rfl rfl rfl rfl (fun w0 m0 hg=>?_)
 unfold M12 at h
 refine rn 7 rfl ?_
 refine cl h rfl rfl rfl (W16 _ _ _) rfl (fun y2 hx3 h=>?_)
 refine rn 14 rfl ?_
 refine cl h rfl rfl rfl (W11 _ _ _) rfl (fun y4 hx5 h=>?_)
 refine ln rfl rfl ?_
 refine rn 2 rfl ?_
 refine jK h (fun(p:(List (List UInt8)))=>(⟨[(3,(V.own 0 p.length))],[(0,(Ob.arr 9 1 (p.map encS)))],1⟩:St)) (fun k6 p=>k6 p=some r) (fun k6 h=>?_) ?_
 ·refine rn 1 rfl ?_
  refine wl (A:=y4) 13 rfl (fun hA19=>?_)
  refine lC (fun(p:Int×(List (List UInt8)))=>(⟨[(3,(V.own 0 (p.2).length)),(13,(V.lst 1 (y4.map encS))),(14,(iV ((y4.length:Nat):Int))),(15,(iV (p.1)))],[(0,(Ob.arr 9 1 ((p.2).map encS)))],1⟩:St)) (fun n p=>RG y4 (fun tl nn=>M12_L1 F k6 tl p.2=some r) n p.1) (fun p h=>RG.zero h) (y4.length+1) (0,([]:List (List UInt8))) (RG.start h) (Ghost.trans (ghost_nilE 3 9 1 rfl) (ghost_ren 1 (fun i=>([0]:List Nat).getD i 0) _ _ (by decide) (EnvSub.get (.cons (Sub.ownE rfl rfl (by simp)) (.cons (Sub.imm (Imm.lst _ _)) (.cons (Sub.imm (Imm.con _)) (.cons (Sub.imm (Imm.con _)) .nil))))) (HpSub.get (.cons rfl (ObSub.rows (rows_imm imms_encS)) .nil)) rfl)) (fun n p h=>?_)
  obtain⟨n10,l11⟩:=p
  refine rn 5 rfl ?_
  refine spL rfl (fun hb12=>?_) (fun hb12=>?_)
  ·obtain⟨x13,tl,hx14,h,hk1⟩:=RG.t hA19 h hb12
   unfold M12_L1 at h
   refine rn 5 rfl ?_
   refine ixh hx14 rfl rfl ?_
   refine rn 8 rfl ?_
   refine jK h (fun(p:(List (List UInt8)))=>(⟨[(3,(V.own 0 p.length)),(13,(V.lst 1 (y4.map encS))),(14,(iV ((y4.length:Nat):Int))),(15,(iV n10))],[(0,(Ob.arr 9 1 (p.map encS)))],1⟩:St)) (fun k15 p=>k15 p=some r) (fun k15 h=>?_) ?_
   ·refine spC h rfl (fun hb17 h=>?_) (fun hb17 h=>?_)
    ·refine rn 3 rfl ?_
     refine aops_buildSlice [(0,(sV x13))] [[(sV x13)]] tEl25 tZ9 rfl rfl rfl rfl wants_none (evp_cons rfl evp_nil) rfl rfl (by simp) rfl ?_
     refine fo ?_
     refine apO encS h rfl rfl rfl rfl rfl rfl rfl rfl (fun h=>?_)
     refine rn 2 rfl ?_
     exact jX (l11++([x13]:List (List UInt8))) h (gr [2] rfl (hR rfl rfl .nil) rfl)
    refine rn 1 rfl ?_
    exact jX l11 h (gr [0] rfl (hR rfl rfl .nil) rfl)
   intro l16 h
   refine rn 5 rfl ?_
   exact jX ((w64 (n10+1)),l16) (hk1 _ h) (gr [0] rfl (hR rfl rfl .nil) rfl)
  replace h:=RG.f h hb12
  unfold M12_L1 at h
  refine rn 1 rfl ?_
  exact jX l11 h (gr [0] rfl (hR rfl rfl .nil) rfl)
 intro l7 h
 refine rn 5 rfl ?_
 refine awp_ghost (ghost_frzEs 0 [2,3,26] rfl (rows_imm imms_encS) (List.forall_mem_cons.2 ⟨rfl,(List.forall_mem_cons.2 ⟨rfl,(List.forall_mem_cons.2 ⟨rfl,(fun _ hx=>nomatch hx)⟩)⟩)⟩) (List.length_map ..).symm) ?_
 refine fa ?_
 exact rt h rfl
theorem W75(F:Nat)(a1:Int)(a2:Int)(a3:(List (List UInt8)))(r:(TCall×Bool))(h:M75 F a1 a2 a3=some r):PureG (gl mx) Tryz.prog 75 [(iV a1),(iV a2),(V.lst 1 (a3.map encS))] (V.tup [(V.agg (encTCall (r.1))),(bV (r.2))]):=by
 refine pin (fun r=>(V.tup [(V.agg (encTCall (r.1))),(bV (r.2))])) r rfl Tryz.func75 rfl rfl rfl rfl rfl (fun w0 m0 hg=>?_)
 unfold M75 at h
 refine rn 17 rfl ?_
 refine ln rfl rfl ?_
 refine rn 4 rfl ?_
 refine jK h (fun(p:(List UInt8))=>(⟨[(1,(iV a2)),(2,(V.lst 1 (a3.map encS))),(6,(V.ptr 0 4 0 0)),(8,(V.ptr 1 4 0 0))],[(0,(Ob.arr 74 4 [[(iV 0),(sV ([]:List UInt8)),(sV ([]:List UInt8)),(sV ([]:List UInt8))]])),(1,(Ob.arr 74 4 [[(iV a1),(sV ([]:List UInt8)),(sV ([]:List UInt8)),(sV p)]]))],2⟩:St)) (fun k4 p=>k4 p=some r) (fun k4 h=>?_) ?_
 ·refine spC h rfl (fun hb6 h=>?_) (fun hb6 h=>?_)
  ·refine rn 1 rfl ?_
   exact jX ([]:List UInt8) h (gr [0,1] rfl (hB rfl rfl rfl (hB rfl rfl rfl .nil)) rfl)
  refine rn 3 rfl ?_
  refine ln rfl rfl ?_
  refine rn 4 rfl ?_
  refine spO 23 h rfl (fun hb7 h=>?_) (fun hb7 h=>?_)
  ·refine rn 2 rfl ?_
   refine ixl h rfl rfl (fun x8 hx9 h=>?_)
   refine rn 5 rfl ?_
   refine spC h rfl (fun hb10 h=>?_) (fun hb10 h=>?_)
   ·refine rn 4 rfl ?_
    refine ixl h rfl rfl (fun x11 hx12 h=>?_)
    refine rn 4 rfl ?_
    exact jX x11 h (gr [0,1] rfl (hB rfl rfl rfl (hB rfl rfl rfl .nil)) rfl)
   refine rn 6 rfl ?_
   exact rt h rfl
  refine rn 15 rfl ?_
  exact rt h rfl
 intro s5 h
 refine rn 4 rfl ?_
 refine ixl h rfl rfl (fun x13 hx14 h=>?_)
 refine rn 10 rfl ?_
 refine jK h (fun(p:(List UInt8))=>(⟨[(6,(V.ptr 0 4 0 0)),(8,(V.ptr 1 4 0 0))],[(0,(Ob.arr 74 4 [[(iV 0),(sV ([]:List UInt8)),(sV ([]:List UInt8)),(sV ([]:List UInt8))]])),(1,(Ob.arr 74 4 [[(iV a1),(sV x13),(sV p),(sV s5)]]))],2⟩:St)) (fun k15 p=>k15 p=some r) (fun k15 h=>?_) ?_
 ·refine spC h rfl (fun hb17 h=>?_) (fun hb17 h=>?_)
  ·refine rn 2 rfl ?_
   refine ixl h rfl rfl (fun x18 hx19 h=>?_)
   refine rn 4 rfl ?_
   exact jX x18 h (gr [0,1] rfl (hB rfl rfl rfl (hB rfl rfl rfl .nil)) rfl)
  refine rn 1 rfl ?_
  exact jX ([]:List UInt8) h (gr [0,1] rfl (hB rfl rfl rfl (hB rfl rfl rfl .nil)) rfl)
 intro s16 h
 refine rn 6 rfl ?_
 exact rt h rfl
theorem W39(F:Nat)(a1:(List (List UInt8)))(a2:Int)(a3:List TIface)(a4:List TType)(a5:List TFunc)(a6:List (List UInt8))(r:(Bool×(List TType)×(List TFunc)))(h:M39 F a1 a2 a3 a4 a5 a6=some r):MutG (gl mx) Tryz.prog 39 [(V.ptr 0 5 0 0),(V.lst 1 (a1.map encS))] 5 [(0,(Ob.arr 39 5 [[(V.own 1 a3.length),(V.own 2 a4.length),(V.own 3 a5.length),(V.own 4 a6.length),(iV a2)]])),(1,(Ob.arr 56 2 (a3.map encTIface))),(2,(Ob.arr 61 2 (a4.map dencTType))),(3,(Ob.arr 71 4 (a5.map dencTFunc))),(4,(Ob.arr 9 1 (a6.map encS)))] (resV [(bV (r.1))]) 5 [(0,(Ob.arr 39 5 [[(V.own 1 a3.length),(V.own 2 (r.2.1).length),(V.own 3 (r.2.2).length),(V.own 4 a6.length),(iV a2)]])),(1,(Ob.arr 56 2 (a3.map encTIface))),(2,(Ob.arr 61 2 ((r.2.1).map dencTType))),(3,(Ob.arr 71 4 ((r.2.2).map dencTFunc))),(4,(Ob.arr 9 1 (a6.map encS)))]:=by
 refine mut_enter Tryz.func39 rfl rfl (l:=[.tmp 4]) rfl rfl [(0,(V.ptr 0 5 0 0)),(1,(V.lst 1 (a1.map encS)))] rfl (fun w0 m0 β0 hg=>en ?_)
 unfold M39 at h
 refine rn 5 rfl ?_
 refine jK h (fun _:Unit=>(⟨[(0,(V.ptr 0 5 0 0)),(1,(V.lst 1 (a1.map encS)))],[(0,(Ob.arr 39 5 [[(V.own 1 a3.length),(V.own 2 a4.length),(V.own 3 a5.length),(V.own 4 a6.length),(iV a2)]])),(1,(Ob.arr 56 2 (a3.map encTIface))),(2,(Ob.arr 61 2 (a4.map dencTType))),(3,(Ob.arr 71 4 (a5.map dencTFunc))),(4,(Ob.arr 9 1 (a6.map encS)))],5⟩:St)) (fun k50 (_:Unit)=>k50=some r) (fun k50 h=>?_) ?_
 ·refine rn 4 rfl ?_
  refine ixl h rfl rfl (fun x51 hx52 h=>?_)
  refine rn 3 rfl ?_
  refine spO 14 h rfl (fun hb53 h=>?_) (fun hb53 h=>?_)
  ·refine rn 7 rfl ?_
   refine spO 21 h rfl (fun hb54 h=>?_) (fun hb54 h=>?_)
   ·refine rn 1 rfl ?_
    refine ln rfl rfl ?_
    refine rn 4 rfl ?_
    refine spC h rfl (fun hb55 h=>?_) (fun hb55 h=>?_)
    ·obtain⟨x56,hx57,h⟩:=bind_some h
     refine rn 1 rfl ?_
     refine dr mixed (vs 12 rfl (oD (a:=a4) hx57 rfl rfl rfl rfl (vs 1 rfl .nil))) (by kernel_rfl) ?_
     obtain⟨x58,hx59,h⟩:=bind_some h
     obtain⟨x60,hx61,h⟩:=bind_some h
     refine rn 1 rfl ?_
     refine ck h (fun hc62 h=>?_)
     refine awp_ghost ghost_res ?_
     refine awp_ghost ghost_res ?_
     refine fa ?_
     refine dr mixed (vs 4 rfl (xD (OD.mk [(42,(V.ptr 2 2 (w64 (((a4.length:Nat):Int) - 1)).toNat 1))] [(2,(Ob.arr 61 2 (a4.map dencTType))),(5,Ob.res)] [(43,(V.own 5 x56.Methods.length))] [(2,(Ob.arr 61 2 (setC (a4.map dencTType) ((w64 (((a4.length:Nat):Int) - 1)).toNat) (dencTType x56) 1 (V.own 5 x56.Methods.length)))),(5,(Ob.arr 64 2 (x56.Methods.map encTMethod)))]) ⟨⟨rfl,trivial⟩,⟨rfl,rfl,trivial⟩⟩ (by exact fun S hn h hh=>aops_load_takeS_at 5 rfl hn hh.2.1 dencTType encTMethod rfl tC59 wants_none h.1 hh.1 (idx_some hx57).2 rfl rfl (aops_nil ⟨rfl,rfl⟩)) rfl (vs 1 rfl (iD hx59 rfl rfl rfl (vs 2 rfl (iD hx61 rfl rfl rfl (vs 2 rfl (xD (OD.mk [(50,(V.agg [(sV x58),(sV x60)]))] [] [(51,(V.lst 2 (([(TMethod.mk x58 x60)]:List TMethod).map encTMethod)))] []) ⟨⟨rfl,trivial⟩,trivial⟩ (by exact fun S hn h hh=>aops_buildSlice_imm [(0,(V.agg [(sV x58),(sV x60)]))] [[(sV x58),(sV x60)]] tEl59 tZ64 wants_none rfl rfl rfl rfl (evp_cons h.1 evp_nil) rfl rfl (by simp) (imms_rows (.cons (.cons (Imm.con _) (.cons (Imm.con _) .nil)) .nil)) rfl (aops_nil ⟨rfl,rfl⟩)) rfl (xD (OD.mk [(43,(V.own 5 x56.Methods.length)),(51,(V.lst 2 (([(TMethod.mk x58 x60)]:List TMethod).map encTMethod)))] [(5,(Ob.arr 64 2 (x56.Methods.map encTMethod))),(6,Ob.res)] [(52,(V.own 6 (x56.Methods++([(TMethod.mk x58 x60)]:List TMethod)).length))] [(6,(Ob.arr 64 2 ((x56.Methods++([(TMethod.mk x58 x60)]:List TMethod)).map encTMethod))),(5,Ob.dead)]) ⟨⟨rfl,rfl,trivial⟩,⟨rfl,rfl,trivial⟩⟩ (by exact fun S hn h hh=>aops_append_at 6 rfl hn hh.2.1 (([(TMethod.mk x58 x60)]:List TMethod).map encTMethod) ((x56.Methods++([(TMethod.mk x58 x60)]:List TMethod)).map encTMethod) tEl59 tIsSl59 rfl rfl wants_none h.1 hh.1 (by simp) h.2.1 (.lst (rows_one one_encTMethod)) (map_snoc encTMethod x56.Methods ([(TMethod.mk x58 x60)]:List TMethod)) (List.length_map ..) hc62 rfl (aops_nil ⟨rfl,rfl⟩)) rfl (vs 2 rfl (xD (OD.mk [(54,(V.ptr 2 2 (w64 (((a4.length:Nat):Int) - 1)).toNat 1)),(52,(V.own 6 (x56.Methods++([(TMethod.mk x58 x60)]:List TMethod)).length))] [(2,(Ob.arr 61 2 (setC (a4.map dencTType) ((w64 (((a4.length:Nat):Int) - 1)).toNat) (dencTType x56) 1 (V.own 5 x56.Methods.length)))),(6,(Ob.arr 64 2 ((x56.Methods++([(TMethod.mk x58 x60)]:List TMethod)).map encTMethod)))] [] [(2,(Ob.arr 61 2 ((a4.set ((w64 (((a4.length:Nat):Int) - 1)).toNat) ({ x56 with Methods:=(x56.Methods++([(TMethod.mk x58 x60)]:List TMethod)) }:TType)).map dencTType))),(6,Ob.dead)]) ⟨⟨rfl,rfl,trivial⟩,⟨rfl,rfl,trivial⟩⟩ (by exact fun S hn h hh=>aops_store_untakeS dencTType encTMethod (fun z=>(imms_encTMethod z).keep) (a4.set ((w64 (((a4.length:Nat):Int) - 1)).toNat) ({ x56 with Methods:=(x56.Methods++([(TMethod.mk x58 x60)]:List TMethod)) }:TType)) tS59 wants_none h.1 h.2.1 hh.1 (Nat.le_of_ble_eq_true rfl) (by simpa using idx_lt hx57) hh.2.1 (by simp) rfl (by rw[List.map_set];rfl) (aops_nil ⟨rfl,rfl⟩)) rfl .nil))))))))))) (by kernel_rfl) ?_
     refine rn 4 rfl ?_
     replace h:=Option.some.inj h
     subst h
     exact wR ⟨.inl rfl,[(4,(bV true))],(ghost_ren 5 (fun i=>([0,1,2,3,4]:List Nat).getD i 0) _ _ (by decide) (EnvSub.get (.cons (Sub.imm (Imm.con _)) .nil)) (HpSub.get (.cons rfl (ObSub.box (.cons (Sub.own rfl rfl) (.cons (Sub.ownE rfl rfl (by simp)) (.cons (Sub.own rfl rfl) (.cons (Sub.own rfl rfl) (.cons (Sub.imm (Imm.con _)) .nil)))))) (.cons rfl (ObSub.rows (rows_imm imms_encTIface)) (.cons rfl (ObSub.rowsK RK.h) (.cons rfl (ObSub.rowsK RK.h) (.cons rfl (ObSub.rows (rows_imm imms_encS)) .nil)))))) rfl),(.cons (.tmp rfl) .nil)⟩
    refine rn 9 rfl ?_
    refine spC h rfl (fun hb63 h=>?_) (fun hb63 h=>?_)
    ·refine rn 4 rfl ?_
     replace h:=Option.some.inj h
     subst h
     exact wR ⟨.inl rfl,[(4,(bV false))],(gr [0,1,2,3,4] rfl (hB rfl rfl rfl (hR rfl rfl (hR rfl rfl (hR rfl rfl (hR rfl rfl .nil))))) rfl),(.cons (.tmp rfl) .nil)⟩
    refine rn 2 rfl ?_
    exact jX () h (gr [0,1,2,3,4] rfl (hB rfl rfl rfl (hR rfl rfl (hR rfl rfl (hR rfl rfl (hR rfl rfl .nil))))) rfl)
   refine rn 16 rfl ?_
   refine spC h rfl (fun hb64 h=>?_) (fun hb64 h=>?_)
   ·refine rn 4 rfl ?_
    replace h:=Option.some.inj h
    subst h
    exact wR ⟨.inl rfl,[(4,(bV false))],(gr [0,1,2,3,4] rfl (hB rfl rfl rfl (hR rfl rfl (hR rfl rfl (hR rfl rfl (hR rfl rfl .nil))))) rfl),(.cons (.tmp rfl) .nil)⟩
   refine rn 2 rfl ?_
   exact jX () h (gr [0,1,2,3,4] rfl (hB rfl rfl rfl (hR rfl rfl (hR rfl rfl (hR rfl rfl (hR rfl rfl .nil))))) rfl)
  refine rn 23 rfl ?_
  refine spC h rfl (fun hb65 h=>?_) (fun hb65 h=>?_)
  ·refine rn 4 rfl ?_
   replace h:=Option.some.inj h
   subst h
   exact wR ⟨.inl rfl,[(4,(bV false))],(gr [0,1,2,3,4] rfl (hB rfl rfl rfl (hR rfl rfl (hR rfl rfl (hR rfl rfl (hR rfl rfl .nil))))) rfl),(.cons (.tmp rfl) .nil)⟩
  refine rn 2 rfl ?_
  exact jX () h (gr [0,1,2,3,4] rfl (hB rfl rfl rfl (hR rfl rfl (hR rfl rfl (hR rfl rfl (hR rfl rfl .nil))))) rfl)
 intro _ h
 obtain⟨x66,hx67,h⟩:=bind_some h
 refine rn 1 rfl ?_
 refine dr mixed (vs 12 rfl (oD (a:=a5) hx67 rfl rfl rfl rfl (vs 1 rfl .nil))) (by kernel_rfl) ?_
 refine rn 11 rfl ?_
 refine ixl h rfl rfl (fun x68 hx69 h=>?_)
 refine rn 8 rfl ?_
 refine jK h (fun(p:Bool×Int×(List UInt8)×(List UInt8)×(List UInt8))=>(⟨[(6,(V.ptr 3 4 (w64 (((a5.length:Nat):Int) - 1)).toNat 0)),(7,(V.ptr 5 4 0 0)),(8,(bV (p.1)))],[(0,(Ob.arr 39 5 [[(V.own 1 a3.length),(V.own 2 a4.length),(V.own 3 a5.length),(V.own 4 a6.length),(iV a2)]])),(1,(Ob.arr 56 2 (a3.map encTIface))),(2,(Ob.arr 61 2 (a4.map dencTType))),(3,(Ob.arr 71 4 (a5.map dencTFunc))),(4,(Ob.arr 9 1 (a6.map encS))),(5,(Ob.arr 74 4 [[(iV (p.2.1)),(sV (p.2.2.1)),(sV (p.2.2.2.1)),(sV (p.2.2.2.2))]]))],6⟩:St)) (fun k70 p=>k70 p.1 p.2.1 p.2.2.1 p.2.2.2.1 p.2.2.2.2=some r) (fun k70 h=>?_) ?_
 ·refine spC h rfl (fun hb76 h=>?_) (fun hb76 h=>?_)
  ·refine rn 1 rfl ?_
   refine ck h (fun hc77 h=>?_)
   refine ck h (fun hc78 h=>?_)
   refine awp_ghost ghost_res ?_
   refine awp_ghost ghost_res ?_
   refine fa ?_
   refine dr mixed (vs 4 rfl (xD (OD.mk [(83,(V.ptr 3 4 (w64 (((a5.length:Nat):Int) - 1)).toNat 3))] [(3,(Ob.arr 71 4 (a5.map dencTFunc))),(6,Ob.res)] [(84,(V.own 6 x66.Makes.length))] [(3,(Ob.arr 71 4 (setC (a5.map dencTFunc) ((w64 (((a5.length:Nat):Int) - 1)).toNat) (dencTFunc x66) 3 (V.own 6 x66.Makes.length)))),(6,(Ob.arr 9 1 (x66.Makes.map encS)))]) ⟨⟨rfl,trivial⟩,⟨rfl,rfl,trivial⟩⟩ (by exact fun S hn h hh=>aops_load_takeS_at 6 rfl hn hh.2.1 dencTFunc encS rfl tC25 wants_none h.1 hh.1 (idx_some hx67).2 rfl rfl (aops_nil ⟨rfl,rfl⟩)) rfl (vs 1 rfl (xD (OD.mk [(85,(V.lst 1 (a1.map encS)))] [] [(86,(V.lst 1 ((a1.drop 1).map encS)))] []) ⟨⟨rfl,trivial⟩,trivial⟩ (by exact fun S hn h hh=>aops_slice_lst (1) (a1.length) ((a1.drop 1).map encS) tSl25 wants_none h.1 ⟨_,rfl⟩ (List.length_map ..).symm hc77 (Nat.le_of_eq (List.length_map ..).symm) slL_hi rfl (aops_nil ⟨rfl,rfl⟩)) rfl (xD (OD.mk [(84,(V.own 6 x66.Makes.length)),(86,(V.lst 1 ((a1.drop 1).map encS)))] [(6,(Ob.arr 9 1 (x66.Makes.map encS))),(7,Ob.res)] [(87,(V.own 7 (x66.Makes++(a1.drop 1)).length))] [(7,(Ob.arr 9 1 ((x66.Makes++(a1.drop 1)).map encS))),(6,Ob.dead)]) ⟨⟨rfl,rfl,trivial⟩,⟨rfl,rfl,trivial⟩⟩ (by exact fun S hn h hh=>aops_append_at 7 rfl hn hh.2.1 ((a1.drop 1).map encS) ((x66.Makes++(a1.drop 1)).map encS) tEl25 tIsSl25 rfl rfl wants_none h.1 hh.1 (by simp) h.2.1 (.lst (rows_one one_encS)) (map_snoc encS x66.Makes (a1.drop 1)) (List.length_map ..) hc78 rfl (aops_nil ⟨rfl,rfl⟩)) rfl (vs 2 rfl (xD (OD.mk [(89,(V.ptr 3 4 (w64 (((a5.length:Nat):Int) - 1)).toNat 3)),(87,(V.own 7 (x66.Makes++(a1.drop 1)).length))] [(3,(Ob.arr 71 4 (setC (a5.map dencTFunc) ((w64 (((a5.length:Nat):Int) - 1)).toNat) (dencTFunc x66) 3 (V.own 6 x66.Makes.length)))),(7,(Ob.arr 9 1 ((x66.Makes++(a1.drop 1)).map encS)))] [] [(3,(Ob.arr 71 4 ((a5.set ((w64 (((a5.length:Nat):Int) - 1)).toNat) ({ x66 with Makes:=(x66.Makes++(a1.drop 1)) }:TFunc)).map dencTFunc))),(7,Ob.dead)]) ⟨⟨rfl,rfl,trivial⟩,⟨rfl,rfl,trivial⟩⟩ (by exact fun S hn h hh=>aops_store_untakeS dencTFunc encS (fun z=>(imms_encS z).keep) (a5.set ((w64 (((a5.length:Nat):Int) - 1)).toNat) ({ x66 with Makes:=(x66.Makes++(a1.drop 1)) }:TFunc)) tS25 wants_none h.1 h.2.1 hh.1 (Nat.le_of_ble_eq_true rfl) (by simpa using idx_lt hx67) hh.2.1 (by simp) rfl (by rw[List.map_set];rfl) (aops_nil ⟨rfl,rfl⟩)) rfl .nil))))))) (by kernel_rfl) ?_
   refine rn 3 rfl ?_
   refine ln rfl rfl ?_
   refine rn 3 rfl ?_
   replace h:=Option.some.inj h
   subst h
   exact wR ⟨.inl rfl,[(4,(bV (((a1.length:Nat):Int)==2)))],(ghost_ren 5 (fun i=>([0,1,2,3,4]:List Nat).getD i 0) _ _ (by decide) (EnvSub.get (.cons (Sub.imm (Imm.con _)) .nil)) (HpSub.get (.cons rfl (ObSub.box (.cons (Sub.own rfl rfl) (.cons (Sub.own rfl rfl) (.cons (Sub.ownE rfl rfl (by simp)) (.cons (Sub.own rfl rfl) (.cons (Sub.imm (Imm.con _)) .nil)))))) (.cons rfl (ObSub.rows (rows_imm imms_encTIface)) (.cons rfl (ObSub.rowsK RK.h) (.cons rfl (ObSub.rowsK RK.h) (.cons rfl (ObSub.rows (rows_imm imms_encS)) .nil)))))) rfl),(.cons (.tmp rfl) .nil)⟩
  refine rn 5 rfl ?_
  refine spC h rfl (fun hb79 h=>?_) (fun hb79 h=>?_)
  ·refine rn 2 rfl ?_
   refine ck h (fun hc80 h=>?_)
   refine aops_slice_lst (1) (a1.length) ((a1.drop 1).map encS) tSl25 wants_none rfl ⟨_,rfl⟩ (List.length_map ..).symm hc80 (Nat.le_of_eq (List.length_map ..).symm) slL_hi rfl ?_
   refine fo ?_
   refine cl h rfl rfl rfl (W75 _ _ _ _) rfl (fun y81 hx82 h=>?_)
   refine rn 6 rfl ?_
   exact jX ((y81.2),(y81.1).Kind,(y81.1).Target,(y81.1).Method,(y81.1).Feature) h (gr [0,1,2,3,4,5] rfl (hB rfl rfl rfl (hR rfl rfl (hR rfl rfl (hR rfl rfl (hR rfl rfl (hB rfl rfl rfl .nil)))))) rfl)
  refine rn 5 rfl ?_
  refine spC h rfl (fun hb83 h=>?_) (fun hb83 h=>?_)
  ·refine rn 2 rfl ?_
   refine ck h (fun hc84 h=>?_)
   refine aops_slice_lst (1) (a1.length) ((a1.drop 1).map encS) tSl25 wants_none rfl ⟨_,rfl⟩ (List.length_map ..).symm hc84 (Nat.le_of_eq (List.length_map ..).symm) slL_hi rfl ?_
   refine fo ?_
   refine cl h rfl rfl rfl (W75 _ _ _ _) rfl (fun y85 hx86 h=>?_)
   refine rn 6 rfl ?_
   exact jX ((y85.2),(y85.1).Kind,(y85.1).Target,(y85.1).Method,(y85.1).Feature) h (gr [0,1,2,3,4,5] rfl (hB rfl rfl rfl (hR rfl rfl (hR rfl rfl (hR rfl rfl (hR rfl rfl (hB rfl rfl rfl .nil)))))) rfl)
  refine rn 1 rfl ?_
  exact jX (false,0,([]:List UInt8),([]:List UInt8),([]:List UInt8)) h (gr [0,1,2,3,4,5] rfl (hB rfl rfl rfl (hR rfl rfl (hR rfl rfl (hR rfl rfl (hR rfl rfl (hB rfl rfl rfl .nil)))))) rfl)
 rintro⟨b71,n72,s73,s74,s75⟩ h
 obtain⟨x87,hx88,h⟩:=bind_some h
 refine rn 2 rfl ?_
 refine ck h (fun hc89 h=>?_)
 refine awp_ghost ghost_res ?_
 refine awp_ghost ghost_res ?_
 refine fa ?_
 refine dr mixed (vs 4 rfl (xD (OD.mk [(112,(V.ptr 3 4 (w64 (((a5.length:Nat):Int) - 1)).toNat 2))] [(3,(Ob.arr 71 4 (a5.map dencTFunc))),(6,Ob.res)] [(113,(V.own 6 x87.Calls.length))] [(3,(Ob.arr 71 4 (setC (a5.map dencTFunc) ((w64 (((a5.length:Nat):Int) - 1)).toNat) (dencTFunc x87) 2 (V.own 6 x87.Calls.length)))),(6,(Ob.arr 74 4 (x87.Calls.map encTCall)))]) ⟨⟨rfl,trivial⟩,⟨rfl,rfl,trivial⟩⟩ (by exact fun S hn h hh=>aops_load_takeS_at 6 rfl hn hh.2.1 dencTFunc encTCall rfl tC69 wants_none h.1 hh.1 (idx_some hx88).2 rfl rfl (aops_nil ⟨rfl,rfl⟩)) rfl (vs 1 rfl (xD (OD.mk [(114,(V.agg [(iV n72),(sV s73),(sV s74),(sV s75)]))] [] [(115,(V.lst 4 (([(TCall.mk n72 s73 s74 s75)]:List TCall).map encTCall)))] []) ⟨⟨rfl,trivial⟩,trivial⟩ (by exact fun S hn h hh=>aops_buildSlice_imm [(0,(V.agg [(iV n72),(sV s73),(sV s74),(sV s75)]))] [[(iV n72),(sV s73),(sV s74),(sV s75)]] tEl69 tZ74 wants_none rfl rfl rfl rfl (evp_cons h.1 evp_nil) rfl rfl (by simp) (imms_rows (.cons (.cons (Imm.con _) (.cons (Imm.con _) (.cons (Imm.con _) (.cons (Imm.con _) .nil)))) .nil)) rfl (aops_nil ⟨rfl,rfl⟩)) rfl (xD (OD.mk [(113,(V.own 6 x87.Calls.length)),(115,(V.lst 4 (([(TCall.mk n72 s73 s74 s75)]:List TCall).map encTCall)))] [(6,(Ob.arr 74 4 (x87.Calls.map encTCall))),(7,Ob.res)] [(116,(V.own 7 (x87.Calls++([(TCall.mk n72 s73 s74 s75)]:List TCall)).length))] [(7,(Ob.arr 74 4 ((x87.Calls++([(TCall.mk n72 s73 s74 s75)]:List TCall)).map encTCall))),(6,Ob.dead)]) ⟨⟨rfl,rfl,trivial⟩,⟨rfl,rfl,trivial⟩⟩ (by exact fun S hn h hh=>aops_append_at 7 rfl hn hh.2.1 (([(TCall.mk n72 s73 s74 s75)]:List TCall).map encTCall) ((x87.Calls++([(TCall.mk n72 s73 s74 s75)]:List TCall)).map encTCall) tEl69 tIsSl69 rfl rfl wants_none h.1 hh.1 (by simp) h.2.1 (.lst (rows_one one_encTCall)) (map_snoc encTCall x87.Calls ([(TCall.mk n72 s73 s74 s75)]:List TCall)) (List.length_map ..) hc89 rfl (aops_nil ⟨rfl,rfl⟩)) rfl (vs 2 rfl (xD (OD.mk [(118,(V.ptr 3 4 (w64 (((a5.length:Nat):Int) - 1)).toNat 2)),(116,(V.own 7 (x87.Calls++([(TCall.mk n72 s73 s74 s75)]:List TCall)).length))] [(3,(Ob.arr 71 4 (setC (a5.map dencTFunc) ((w64 (((a5.length:Nat):Int) - 1)).toNat) (dencTFunc x87) 2 (V.own 6 x87.Calls.length)))),(7,(Ob.arr 74 4 ((x87.Calls++([(TCall.mk n72 s73 s74 s75)]:List TCall)).map encTCall)))] [] [(3,(Ob.arr 71 4 ((a5.set ((w64 (((a5.length:Nat):Int) - 1)).toNat) ({ x87 with Calls:=(x87.Calls++([(TCall.mk n72 s73 s74 s75)]:List TCall)) }:TFunc)).map dencTFunc))),(7,Ob.dead)]) ⟨⟨rfl,rfl,trivial⟩,⟨rfl,rfl,trivial⟩⟩ (by exact fun S hn h hh=>aops_store_untakeS dencTFunc encTCall (fun z=>(imms_encTCall z).keep) (a5.set ((w64 (((a5.length:Nat):Int) - 1)).toNat) ({ x87 with Calls:=(x87.Calls++([(TCall.mk n72 s73 s74 s75)]:List TCall)) }:TFunc)) tS69 wants_none h.1 h.2.1 hh.1 (Nat.le_of_ble_eq_true rfl) (by simpa using idx_lt hx88) hh.2.1 (by simp) rfl (by rw[List.map_set];rfl) (aops_nil ⟨rfl,rfl⟩)) rfl .nil))))))) (by kernel_rfl) ?_
 refine rn 5 rfl ?_
 replace h:=Option.some.inj h
 subst h
 exact wR ⟨.inl rfl,[(4,(bV b71))],(ghost_ren 5 (fun i=>([0,1,2,3,4]:List Nat).getD i 0) _ _ (by decide) (EnvSub.get (.cons (Sub.imm (Imm.con _)) .nil)) (HpSub.get (.cons rfl (ObSub.box (.cons (Sub.own rfl rfl) (.cons (Sub.own rfl rfl) (.cons (Sub.ownE rfl rfl (by simp)) (.cons (Sub.own rfl rfl) (.cons (Sub.imm (Imm.con _)) .nil)))))) (.cons rfl (ObSub.rows (rows_imm imms_encTIface)) (.cons rfl (ObSub.rowsK RK.h) (.cons rfl (ObSub.rowsK RK.h) (.cons rfl (ObSub.rows (rows_imm imms_encS)) .nil)))))) rfl),(.cons (.tmp rfl) .nil)⟩
theorem W13(F:Nat)(a1:(List (List UInt8)))(a2:Int)(a3:List TIface)(a4:List TType)(a5:List TFunc)(a6:List (List UInt8))(r:(Bool×Int×(List TIface)×(List TType)×(List TFunc)×(List (List UInt8))))(h:M13 F a1 a2 a3 a4 a5 a6=some r):MutG (gl mx) Tryz.prog 13 [(V.ptr 0 5 0 0),(V.lst 1 (a1.map encS))] 5 [(0,(Ob.arr 39 5 [[(V.own 1 a3.length),(V.own 2 a4.length),(V.own 3 a5.length),(V.own 4 a6.length),(iV a2)]])),(1,(Ob.arr 56 2 (a3.map encTIface))),(2,(Ob.arr 61 2 (a4.map dencTType))),(3,(Ob.arr 71 4 (a5.map dencTFunc))),(4,(Ob.arr 9 1 (a6.map encS)))] (resV [(bV (r.1))]) 9 [(0,(Ob.arr 39 5 [[(V.own 5 (r.2.2.1).length),(V.own 6 (r.2.2.2.1).length),(V.own 7 (r.2.2.2.2.1).length),(V.own 8 (r.2.2.2.2.2).length),(iV (r.2.1))]])),(1,Ob.dead),(2,Ob.dead),(3,Ob.dead),(4,Ob.dead),(5,(Ob.arr 56 2 ((r.2.2.1).map encTIface))),(6,(Ob.arr 61 2 ((r.2.2.2.1).map dencTType))),(7,(Ob.arr 71 4 ((r.2.2.2.2.1).map dencTFunc))),(8,(Ob.arr 9 1 ((r.2.2.2.2.2).map encS)))]:=by
 refine mut_enter Tryz.func13 rfl rfl (l:=[.tmp 4]) rfl rfl [(0,(V.ptr 0 5 0 0)),(1,(V.lst 1 (a1.map encS)))] rfl (fun w0 m0 β0 hg=>en ?_)
 unfold M13 at h
 refine rn 8 rfl ?_
 refine ixl h rfl rfl (fun x38 hx39 h=>?_)
 refine rn 8 rfl ?_
 refine spC h rfl (fun hb40 h=>?_) (fun hb40 h=>?_)
 ·refine rn 4 rfl ?_
  refine ln rfl rfl ?_
  refine rn 2 rfl ?_
  refine spC h rfl (fun hb41 h=>?_) (fun hb41 h=>?_)
  ·refine rn 4 rfl ?_
   replace h:=Option.some.inj h
   subst h
   exact wR ⟨.inl rfl,[(4,(bV false))],(Ghost.trans (ghost_mvC 1 0 5 56 2 (Ob.arr 39 5 [[(V.own 5 a3.length),(V.own 2 a4.length),(V.own 3 a5.length),(V.own 4 a6.length),(iV a2)]]) rfl rfl rfl (ObSub.box (.cons Sub.mv (.cons Sub.keepMv (.cons Sub.keepMv (.cons Sub.keepMv (.cons Sub.keepMv .nil)))))) rfl rfl) (Ghost.trans (ghost_mvC 2 0 6 61 2 (Ob.arr 39 5 [[(V.own 5 a3.length),(V.own 6 a4.length),(V.own 3 a5.length),(V.own 4 a6.length),(iV a2)]]) rfl rfl rfl (ObSub.box (.cons Sub.keepMv (.cons Sub.mv (.cons Sub.keepMv (.cons Sub.keepMv (.cons Sub.keepMv .nil)))))) rfl rfl) (Ghost.trans (ghost_mvC 3 0 7 71 4 (Ob.arr 39 5 [[(V.own 5 a3.length),(V.own 6 a4.length),(V.own 7 a5.length),(V.own 4 a6.length),(iV a2)]]) rfl rfl rfl (ObSub.box (.cons Sub.keepMv (.cons Sub.keepMv (.cons Sub.mv (.cons Sub.keepMv (.cons Sub.keepMv .nil)))))) rfl rfl) (Ghost.trans (ghost_mvC 4 0 8 9 1 (Ob.arr 39 5 [[(V.own 5 a3.length),(V.own 6 a4.length),(V.own 7 a5.length),(V.own 8 a6.length),(iV a2)]]) rfl rfl rfl (ObSub.box (.cons Sub.keepMv (.cons Sub.keepMv (.cons Sub.keepMv (.cons Sub.mv (.cons Sub.keepMv .nil)))))) rfl rfl) (gr [0,1,2,3,4,5,6,7,8] rfl (hB rfl rfl rfl (hD rfl (hD rfl (hD rfl (hD rfl (hR rfl rfl (hR rfl rfl (hR rfl rfl (hR rfl rfl .nil))))))))) rfl))))),(.cons (.tmp rfl) .nil)⟩
  obtain⟨x42,hx43,h⟩:=bind_some h
  refine rn 9 rfl ?_
  refine ck h (fun hc44 h=>?_)
  refine ck h (fun hc45 h=>?_)
  refine awp_ghost ghost_res ?_
  refine fa ?_
  refine dr mixed (vs 7 rfl (iD hx43 rfl rfl rfl (vs 2 rfl (xD (OD.mk [(25,(V.lst 1 (a1.map encS)))] [] [(26,(V.lst 1 ((a1.drop 2).map encS)))] []) ⟨⟨rfl,trivial⟩,trivial⟩ (by exact fun S hn h hh=>aops_slice_lst (2) (a1.length) ((a1.drop 2).map encS) tSl25 wants_none h.1 ⟨_,rfl⟩ (List.length_map ..).symm hc44 (Nat.le_of_eq (List.length_map ..).symm) slL_hi rfl (aops_nil ⟨rfl,rfl⟩)) rfl (vs 1 rfl (xD (OD.mk [(27,(V.agg [(sV x42),(V.lst 1 ((a1.drop 2).map encS))]))] [] [(28,(V.lst 2 (([(TIface.mk x42 (a1.drop 2))]:List TIface).map encTIface)))] []) ⟨⟨rfl,trivial⟩,trivial⟩ (by exact fun S hn h hh=>aops_buildSlice_imm [(0,(V.agg [(sV x42),(V.lst 1 ((a1.drop 2).map encS))]))] [[(sV x42),(V.lst 1 ((a1.drop 2).map encS))]] tEl22 tZ56 wants_none rfl rfl rfl rfl (evp_cons h.1 evp_nil) rfl rfl (by simp) (imms_rows (.cons (.cons (Imm.con _) (.cons (Imm.lst _ _) .nil)) .nil)) rfl (aops_nil ⟨rfl,rfl⟩)) rfl (xD (OD.mk [(21,(V.own 1 a3.length)),(28,(V.lst 2 (([(TIface.mk x42 (a1.drop 2))]:List TIface).map encTIface)))] [(1,(Ob.arr 56 2 (a3.map encTIface))),(5,Ob.res)] [(29,(V.own 5 (a3++([(TIface.mk x42 (a1.drop 2))]:List TIface)).length))] [(5,(Ob.arr 56 2 ((a3++([(TIface.mk x42 (a1.drop 2))]:List TIface)).map encTIface))),(1,Ob.dead)]) ⟨⟨rfl,rfl,trivial⟩,⟨rfl,rfl,trivial⟩⟩ (by exact fun S hn h hh=>aops_append_at 5 rfl hn hh.2.1 (([(TIface.mk x42 (a1.drop 2))]:List TIface).map encTIface) ((a3++([(TIface.mk x42 (a1.drop 2))]:List TIface)).map encTIface) tEl22 tIsSl22 rfl rfl wants_none h.1 hh.1 (by simp) h.2.1 (.lst (rows_one one_encTIface)) (map_snoc encTIface a3 ([(TIface.mk x42 (a1.drop 2))]:List TIface)) (List.length_map ..) hc45 rfl (aops_nil ⟨rfl,rfl⟩)) rfl (vs 4 rfl .nil)))))))) (by kernel_rfl) ?_
  refine rn 4 rfl ?_
  replace h:=Option.some.inj h
  subst h
  exact wR ⟨.inl rfl,[(4,(bV true))],(Ghost.trans (ghost_mvC 2 0 6 61 2 (Ob.arr 39 5 [[(V.own 5 (a3++([(TIface.mk x42 (a1.drop 2))]:List TIface)).length),(V.own 6 a4.length),(V.own 3 a5.length),(V.own 4 a6.length),(iV 0)]]) rfl rfl rfl (ObSub.box (.cons Sub.keepMv (.cons Sub.mv (.cons Sub.keepMv (.cons Sub.keepMv (.cons Sub.keepMv .nil)))))) rfl rfl) (Ghost.trans (ghost_mvC 3 0 7 71 4 (Ob.arr 39 5 [[(V.own 5 (a3++([(TIface.mk x42 (a1.drop 2))]:List TIface)).length),(V.own 6 a4.length),(V.own 7 a5.length),(V.own 4 a6.length),(iV 0)]]) rfl rfl rfl (ObSub.box (.cons Sub.keepMv (.cons Sub.keepMv (.cons Sub.mv (.cons Sub.keepMv (.cons Sub.keepMv .nil)))))) rfl rfl) (Ghost.trans (ghost_mvC 4 0 8 9 1 (Ob.arr 39 5 [[(V.own 5 (a3++([(TIface.mk x42 (a1.drop 2))]:List TIface)).length),(V.own 6 a4.length),(V.own 7 a5.length),(V.own 8 a6.length),(iV 0)]]) rfl rfl rfl (ObSub.box (.cons Sub.keepMv (.cons Sub.keepMv (.cons Sub.keepMv (.cons Sub.mv (.cons Sub.keepMv .nil)))))) rfl rfl) (gr [0,1,2,3,4,5,6,7,8] rfl (hB rfl rfl rfl (hD rfl (hD rfl (hD rfl (hD rfl (hR rfl rfl (hR rfl rfl (hR rfl rfl (hR rfl rfl .nil))))))))) rfl)))),(.cons (.tmp rfl) .nil)⟩
 refine rn 5 rfl ?_
 refine spC h rfl (fun hb46 h=>?_) (fun hb46 h=>?_)
 ·refine rn 4 rfl ?_
  refine ln rfl rfl ?_
  refine rn 2 rfl ?_
  refine spC h rfl (fun hb47 h=>?_) (fun hb47 h=>?_)
  ·refine rn 4 rfl ?_
   replace h:=Option.some.inj h
   subst h
   exact wR ⟨.inl rfl,[(4,(bV false))],(Ghost.trans (ghost_mvC 1 0 5 56 2 (Ob.arr 39 5 [[(V.own 5 a3.length),(V.own 2 a4.length),(V.own 3 a5.length),(V.own 4 a6.length),(iV a2)]]) rfl rfl rfl (ObSub.box (.cons Sub.mv (.cons Sub.keepMv (.cons Sub.keepMv (.cons Sub.keepMv (.cons Sub.keepMv .nil)))))) rfl rfl) (Ghost.trans (ghost_mvC 2 0 6 61 2 (Ob.arr 39 5 [[(V.own 5 a3.length),(V.own 6 a4.length),(V.own 3 a5.length),(V.own 4 a6.length),(iV a2)]]) rfl rfl rfl (ObSub.box (.cons Sub.keepMv (.cons Sub.mv (.cons Sub.keepMv (.cons Sub.keepMv (.cons Sub.keepMv .nil)))))) rfl rfl) (Ghost.trans (ghost_mvC 3 0 7 71 4 (Ob.arr 39 5 [[(V.own 5 a3.length),(V.own 6 a4.length),(V.own 7 a5.length),(V.own 4 a6.length),(iV a2)]]) rfl rfl rfl (ObSub.box (.cons Sub.keepMv (.cons Sub.keepMv (.cons Sub.mv (.cons Sub.keepMv (.cons Sub.keepMv .nil)))))) rfl rfl) (Ghost.trans (ghost_mvC 4 0 8 9 1 (Ob.arr 39 5 [[(V.own 5 a3.length),(V.own 6 a4.length),(V.own 7 a5.length),(V.own 8 a6.length),(iV a2)]]) rfl rfl rfl (ObSub.box (.cons Sub.keepMv (.cons Sub.keepMv (.cons Sub.keepMv (.cons Sub.mv (.cons Sub.keepMv .nil)))))) rfl rfl) (gr [0,1,2,3,4,5,6,7,8] rfl (hB rfl rfl rfl (hD rfl (hD rfl (hD rfl (hD rfl (hR rfl rfl (hR rfl rfl (hR rfl rfl (hR rfl rfl .nil))))))))) rfl))))),(.cons (.tmp rfl) .nil)⟩
  obtain⟨x48,hx49,h⟩:=bind_some h
  refine rn 9 rfl ?_
  refine ck h (fun hc50 h=>?_)
  refine awp_ghost ghost_res ?_
  refine awp_ghost ghost_res ?_
  refine fa ?_
  refine dr mixed (vs 7 rfl (iD hx49 rfl rfl rfl (vs 2 rfl (xD (OD.mk [(50,(V.agg [(sV x48),nV]))] [(5,Ob.res)] [(51,(V.own 5 1))] [(5,(Ob.arr 61 2 [[(sV x48),nV]]))]) ⟨⟨rfl,trivial⟩,⟨rfl,trivial⟩⟩ (by exact fun S hn h hh=>aops_buildSlice_at 5 rfl hn hh.1 [(0,(V.agg [(sV x48),nV]))] [[(sV x48),nV]] tEl23 tZ61 wants_none rfl rfl rfl rfl (evp_cons h.1 evp_nil) rfl rfl (by simp) rfl (aops_nil ⟨rfl,rfl⟩)) rfl (xD (OD.mk [(46,(V.own 2 a4.length)),(51,(V.own 5 1))] [(2,(Ob.arr 61 2 (a4.map dencTType))),(5,(Ob.arr 61 2 [[(sV x48),nV]])),(6,Ob.res)] [(52,(V.own 6 (a4++[(TType.mk x48 ([]:List TMethod))]).length))] [(6,(Ob.arr 61 2 ((a4++[(TType.mk x48 ([]:List TMethod))]).map dencTType))),(2,Ob.dead)]) ⟨⟨rfl,rfl,trivial⟩,⟨rfl,rfl,rfl,trivial⟩⟩ (by exact fun S hn h hh=>aops_appendS_at 6 rfl hn hh.2.2.1 dencTType (TType.mk x48 ([]:List TMethod)) tEl23 tIsSl23 rfl rfl wants_none h.1 hh.1 (by simp) h.2.1 hh.2.1 rfl (.cons (csub_keep _) (.cons (csub_nil 64 2) .nil)) rfl hc50 rfl (aops_nil ⟨rfl,rfl⟩)) rfl (vs 4 rfl .nil)))))) (by kernel_rfl) ?_
  refine rn 4 rfl ?_
  replace h:=Option.some.inj h
  subst h
  exact wR ⟨.inl rfl,[(4,(bV true))],(Ghost.trans (ghost_mvC 1 0 7 56 2 (Ob.arr 39 5 [[(V.own 7 a3.length),(V.own 6 (a4++[(TType.mk x48 ([]:List TMethod))]).length),(V.own 3 a5.length),(V.own 4 a6.length),(iV 1)]]) rfl rfl rfl (ObSub.box (.cons Sub.mv (.cons Sub.keepMv (.cons Sub.keepMv (.cons Sub.keepMv (.cons Sub.keepMv .nil)))))) rfl rfl) (Ghost.trans (ghost_mvC 3 0 8 71 4 (Ob.arr 39 5 [[(V.own 7 a3.length),(V.own 6 (a4++[(TType.mk x48 ([]:List TMethod))]).length),(V.own 8 a5.length),(V.own 4 a6.length),(iV 1)]]) rfl rfl rfl (ObSub.box (.cons Sub.keepMv (.cons Sub.keepMv (.cons Sub.mv (.cons Sub.keepMv (.cons Sub.keepMv .nil)))))) rfl rfl) (Ghost.trans (ghost_mvC 4 0 9 9 1 (Ob.arr 39 5 [[(V.own 7 a3.length),(V.own 6 (a4++[(TType.mk x48 ([]:List TMethod))]).length),(V.own 8 a5.length),(V.own 9 a6.length),(iV 1)]]) rfl rfl rfl (ObSub.box (.cons Sub.keepMv (.cons Sub.keepMv (.cons Sub.keepMv (.cons Sub.mv (.cons Sub.keepMv .nil)))))) rfl rfl) (gr [0,1,2,3,4,7,6,8,9] rfl (hB rfl rfl rfl (hD rfl (hD rfl (hD rfl (hD rfl (hR rfl rfl (hR rfl rfl (hR rfl rfl (hR rfl rfl .nil))))))))) rfl)))),(.cons (.tmp rfl) .nil)⟩
 refine rn 5 rfl ?_
 refine spC h rfl (fun hb51 h=>?_) (fun hb51 h=>?_)
 ·refine rn 4 rfl ?_
  refine ln rfl rfl ?_
  refine rn 2 rfl ?_
  refine spC h rfl (fun hb52 h=>?_) (fun hb52 h=>?_)
  ·refine rn 4 rfl ?_
   replace h:=Option.some.inj h
   subst h
   exact wR ⟨.inl rfl,[(4,(bV false))],(Ghost.trans (ghost_mvC 1 0 5 56 2 (Ob.arr 39 5 [[(V.own 5 a3.length),(V.own 2 a4.length),(V.own 3 a5.length),(V.own 4 a6.length),(iV a2)]]) rfl rfl rfl (ObSub.box (.cons Sub.mv (.cons Sub.keepMv (.cons Sub.keepMv (.cons Sub.keepMv (.cons Sub.keepMv .nil)))))) rfl rfl) (Ghost.trans (ghost_mvC 2 0 6 61 2 (Ob.arr 39 5 [[(V.own 5 a3.length),(V.own 6 a4.length),(V.own 3 a5.length),(V.own 4 a6.length),(iV a2)]]) rfl rfl rfl (ObSub.box (.cons Sub.keepMv (.cons Sub.mv (.cons Sub.keepMv (.cons Sub.keepMv (.cons Sub.keepMv .nil)))))) rfl rfl) (Ghost.trans (ghost_mvC 3 0 7 71 4 (Ob.arr 39 5 [[(V.own 5 a3.length),(V.own 6 a4.length),(V.own 7 a5.length),(V.own 4 a6.length),(iV a2)]]) rfl rfl rfl (ObSub.box (.cons Sub.keepMv (.cons Sub.keepMv (.cons Sub.mv (.cons Sub.keepMv (.cons Sub.keepMv .nil)))))) rfl rfl) (Ghost.trans (ghost_mvC 4 0 8 9 1 (Ob.arr 39 5 [[(V.own 5 a3.length),(V.own 6 a4.length),(V.own 7 a5.length),(V.own 8 a6.length),(iV a2)]]) rfl rfl rfl (ObSub.box (.cons Sub.keepMv (.cons Sub.keepMv (.cons Sub.keepMv (.cons Sub.mv (.cons Sub.keepMv .nil)))))) rfl rfl) (gr [0,1,2,3,4,5,6,7,8] rfl (hB rfl rfl rfl (hD rfl (hD rfl (hD rfl (hD rfl (hR rfl rfl (hR rfl rfl (hR rfl rfl (hR rfl rfl .nil))))))))) rfl))))),(.cons (.tmp rfl) .nil)⟩
  obtain⟨x53,hx54,h⟩:=bind_some h
  obtain⟨x55,hx56,h⟩:=bind_some h
  refine rn 9 rfl ?_
  refine ck h (fun hc57 h=>?_)
  refine awp_ghost ghost_res ?_
  refine awp_ghost ghost_res ?_
  refine fa ?_
  refine dr mixed (vs 7 rfl (iD hx54 rfl rfl rfl (vs 2 rfl (iD hx56 rfl rfl rfl (vs 2 rfl (xD (OD.mk [(76,(V.agg [(sV x53),(sV x55),nV,nV]))] [(5,Ob.res)] [(77,(V.own 5 1))] [(5,(Ob.arr 71 4 [[(sV x53),(sV x55),nV,nV]]))]) ⟨⟨rfl,trivial⟩,⟨rfl,trivial⟩⟩ (by exact fun S hn h hh=>aops_buildSlice_at 5 rfl hn hh.1 [(0,(V.agg [(sV x53),(sV x55),nV,nV]))] [[(sV x53),(sV x55),nV,nV]] tEl24 tZ71 wants_none rfl rfl rfl rfl (evp_cons h.1 evp_nil) rfl rfl (by simp) rfl (aops_nil ⟨rfl,rfl⟩)) rfl (xD (OD.mk [(69,(V.own 3 a5.length)),(77,(V.own 5 1))] [(3,(Ob.arr 71 4 (a5.map dencTFunc))),(5,(Ob.arr 71 4 [[(sV x53),(sV x55),nV,nV]])),(6,Ob.res)] [(78,(V.own 6 (a5++[(TFunc.mk x53 x55 ([]:List TCall) ([]:List (List UInt8)))]).length))] [(6,(Ob.arr 71 4 ((a5++[(TFunc.mk x53 x55 ([]:List TCall) ([]:List (List UInt8)))]).map dencTFunc))),(3,Ob.dead)]) ⟨⟨rfl,rfl,trivial⟩,⟨rfl,rfl,rfl,trivial⟩⟩ (by exact fun S hn h hh=>aops_appendS_at 6 rfl hn hh.2.2.1 dencTFunc (TFunc.mk x53 x55 ([]:List TCall) ([]:List (List UInt8))) tEl24 tIsSl24 rfl rfl wants_none h.1 hh.1 (by simp) h.2.1 hh.2.1 rfl (.cons (csub_keep _) (.cons (csub_keep _) (.cons (csub_nil 74 4) (.cons (csub_nil 9 1) .nil)))) rfl hc57 rfl (aops_nil ⟨rfl,rfl⟩)) rfl (vs 4 rfl .nil)))))))) (by kernel_rfl) ?_
  refine rn 4 rfl ?_
  replace h:=Option.some.inj h
  subst h
  exact wR ⟨.inl rfl,[(4,(bV true))],(Ghost.trans (ghost_mvC 1 0 7 56 2 (Ob.arr 39 5 [[(V.own 7 a3.length),(V.own 2 a4.length),(V.own 6 (a5++[(TFunc.mk x53 x55 ([]:List TCall) ([]:List (List UInt8)))]).length),(V.own 4 a6.length),(iV 2)]]) rfl rfl rfl (ObSub.box (.cons Sub.mv (.cons Sub.keepMv (.cons Sub.keepMv (.cons Sub.keepMv (.cons Sub.keepMv .nil)))))) rfl rfl) (Ghost.trans (ghost_mvC 2 0 8 61 2 (Ob.arr 39 5 [[(V.own 7 a3.length),(V.own 8 a4.length),(V.own 6 (a5++[(TFunc.mk x53 x55 ([]:List TCall) ([]:List (List UInt8)))]).length),(V.own 4 a6.length),(iV 2)]]) rfl rfl rfl (ObSub.box (.cons Sub.keepMv (.cons Sub.mv (.cons Sub.keepMv (.cons Sub.keepMv (.cons Sub.keepMv .nil)))))) rfl rfl) (Ghost.trans (ghost_mvC 4 0 9 9 1 (Ob.arr 39 5 [[(V.own 7 a3.length),(V.own 8 a4.length),(V.own 6 (a5++[(TFunc.mk x53 x55 ([]:List TCall) ([]:List (List UInt8)))]).length),(V.own 9 a6.length),(iV 2)]]) rfl rfl rfl (ObSub.box (.cons Sub.keepMv (.cons Sub.keepMv (.cons Sub.keepMv (.cons Sub.mv (.cons Sub.keepMv .nil)))))) rfl rfl) (gr [0,1,2,3,4,7,8,6,9] rfl (hB rfl rfl rfl (hD rfl (hD rfl (hD rfl (hD rfl (hR rfl rfl (hR rfl rfl (hR rfl rfl (hR rfl rfl .nil))))))))) rfl)))),(.cons (.tmp rfl) .nil)⟩
 refine rn 5 rfl ?_
 refine spC h rfl (fun hb58 h=>?_) (fun hb58 h=>?_)
 ·refine rn 8 rfl ?_
  refine ck h (fun hc59 h=>?_)
  refine ck h (fun hc60 h=>?_)
  refine awp_ghost ghost_res ?_
  refine fa ?_
  refine dr mixed (vs 7 rfl (xD (OD.mk [(93,(V.lst 1 (a1.map encS)))] [] [(94,(V.lst 1 ((a1.drop 1).map encS)))] []) ⟨⟨rfl,trivial⟩,trivial⟩ (by exact fun S hn h hh=>aops_slice_lst (1) (a1.length) ((a1.drop 1).map encS) tSl25 wants_none h.1 ⟨_,rfl⟩ (List.length_map ..).symm hc59 (Nat.le_of_eq (List.length_map ..).symm) slL_hi rfl (aops_nil ⟨rfl,rfl⟩)) rfl (xD (OD.mk [(92,(V.own 4 a6.length)),(94,(V.lst 1 ((a1.drop 1).map encS)))] [(4,(Ob.arr 9 1 (a6.map encS))),(5,Ob.res)] [(95,(V.own 5 (a6++(a1.drop 1)).length))] [(5,(Ob.arr 9 1 ((a6++(a1.drop 1)).map encS))),(4,Ob.dead)]) ⟨⟨rfl,rfl,trivial⟩,⟨rfl,rfl,trivial⟩⟩ (by exact fun S hn h hh=>aops_append_at 5 rfl hn hh.2.1 ((a1.drop 1).map encS) ((a6++(a1.drop 1)).map encS) tEl25 tIsSl25 rfl rfl wants_none h.1 hh.1 (by simp) h.2.1 (.lst (rows_one one_encS)) (map_snoc encS a6 (a1.drop 1)) (List.length_map ..) hc60 rfl (aops_nil ⟨rfl,rfl⟩)) rfl (vs 4 rfl .nil)))) (by kernel_rfl) ?_
  refine rn 3 rfl ?_
  refine ln rfl rfl ?_
  refine rn 3 rfl ?_
  replace h:=Option.some.inj h
  subst h
  exact wR ⟨.inl rfl,[(4,(bV (((a1.length:Nat):Int)==2)))],(Ghost.trans (ghost_mvC 1 0 6 56 2 (Ob.arr 39 5 [[(V.own 6 a3.length),(V.own 2 a4.length),(V.own 3 a5.length),(V.own 5 (a6++(a1.drop 1)).length),(iV 0)]]) rfl rfl rfl (ObSub.box (.cons Sub.mv (.cons Sub.keepMv (.cons Sub.keepMv (.cons Sub.keepMv (.cons Sub.keepMv .nil)))))) rfl rfl) (Ghost.trans (ghost_mvC 2 0 7 61 2 (Ob.arr 39 5 [[(V.own 6 a3.length),(V.own 7 a4.length),(V.own 3 a5.length),(V.own 5 (a6++(a1.drop 1)).length),(iV 0)]]) rfl rfl rfl (ObSub.box (.cons Sub.keepMv (.cons Sub.mv (.cons Sub.keepMv (.cons Sub.keepMv (.cons Sub.keepMv .nil)))))) rfl rfl) (Ghost.trans (ghost_mvC 3 0 8 71 4 (Ob.arr 39 5 [[(V.own 6 a3.length),(V.own 7 a4.length),(V.own 8 a5.length),(V.own 5 (a6++(a1.drop 1)).length),(iV 0)]]) rfl rfl rfl (ObSub.box (.cons Sub.keepMv (.cons Sub.keepMv (.cons Sub.mv (.cons Sub.keepMv (.cons Sub.keepMv .nil)))))) rfl rfl) (gr [0,1,2,3,4,6,7,8,5] rfl (hB rfl rfl rfl (hD rfl (hD rfl (hD rfl (hD rfl (hR rfl rfl (hR rfl rfl (hR rfl rfl (hR rfl rfl .nil))))))))) rfl)))),(.cons (.tmp rfl) .nil)⟩
 obtain⟨y61,hx62,h⟩:=bind_some h
 refine rn 6 rfl ?_
 refine aops_mcallS (bV (y61.1)) [(V.ptr 0 5 0 0),(V.lst 1 (a1.map encS))] (fun i=>([0,1,2,3,4]:List Nat).getD i 0) (fun i=>([0,1,2,3,4]:List Nat).getD i 0) 5 5 [(0,(Ob.arr 39 5 [[(V.own 1 a3.length),(V.own 2 (y61.2.1).length),(V.own 3 (y61.2.2).length),(V.own 4 a6.length),(iV a2)]])),(1,(Ob.arr 56 2 (a3.map encTIface))),(2,(Ob.arr 61 2 ((y61.2.1).map dencTType))),(3,(Ob.arr 71 4 ((y61.2.2).map dencTFunc))),(4,(Ob.arr 9 1 (a6.map encS)))] fOk39 wants_none rfl (evm_cons rfl (evm_cons rfl evm_nil)) (.cons (Sub.ptr rfl rfl) (.cons (Sub.imm (Imm.lst _ _)) .nil)) (.cons rfl (ObSub.box (.cons (Sub.own rfl rfl) (.cons (Sub.own rfl rfl) (.cons (Sub.own rfl rfl) (.cons (Sub.own rfl rfl) (.cons (Sub.imm (Imm.con _)) .nil)))))) (.cons rfl (ObSub.rows (rows_imm imms_encTIface)) (.cons rfl (ObSub.rowsK RK.h) (.cons rfl (ObSub.rowsK RK.h) (.cons rfl (ObSub.rows (rows_imm imms_encS)) .nil))))) (W39 F a1 a2 a3 a4 a5 a6 y61 hx62) rfl rfl rfl rfl (Sub.immT (Imm.con _)) (.cons rfl (ObSub.box (.cons (Sub.ownT rfl rfl) (.cons (Sub.ownT rfl rfl) (.cons (Sub.ownT rfl rfl) (.cons (Sub.ownT rfl rfl) (.cons (Sub.immT (Imm.con _)) .nil)))))) (.cons rfl (ObSub.rowsT (rows_imm imms_encTIface)) (.cons rfl (ObSub.rowsTK RK.h) (.cons rfl (ObSub.rowsTK RK.h) (.cons rfl (ObSub.rowsT (rows_imm imms_encS)) .nil))))) _ rfl ?_
 refine fo (rn 2 rfl ?_)
 replace h:=Option.some.inj h
 subst h
 exact wR ⟨.inl rfl,[(4,(bV (y61.1)))],(Ghost.trans (ghost_mvC 1 0 5 56 2 (Ob.arr 39 5 [[(V.own 5 a3.length),(V.own 2 (y61.2.1).length),(V.own 3 (y61.2.2).length),(V.own 4 a6.length),(iV a2)]]) rfl rfl rfl (ObSub.box (.cons Sub.mv (.cons Sub.keepMv (.cons Sub.keepMv (.cons Sub.keepMv (.cons Sub.keepMv .nil)))))) rfl rfl) (Ghost.trans (ghost_mvC 2 0 6 61 2 (Ob.arr 39 5 [[(V.own 5 a3.length),(V.own 6 (y61.2.1).length),(V.own 3 (y61.2.2).length),(V.own 4 a6.length),(iV a2)]]) rfl rfl rfl (ObSub.box (.cons Sub.keepMv (.cons Sub.mv (.cons Sub.keepMv (.cons Sub.keepMv (.cons Sub.keepMv .nil)))))) rfl rfl) (Ghost.trans (ghost_mvC 3 0 7 71 4 (Ob.arr 39 5 [[(V.own 5 a3.length),(V.own 6 (y61.2.1).length),(V.own 7 (y61.2.2).length),(V.own 4 a6.length),(iV a2)]]) rfl rfl rfl (ObSub.box (.cons Sub.keepMv (.cons Sub.keepMv (.cons Sub.mv (.cons Sub.keepMv (.cons Sub.keepMv .nil)))))) rfl rfl) (Ghost.trans (ghost_mvC 4 0 8 9 1 (Ob.arr 39 5 [[(V.own 5 a3.length),(V.own 6 (y61.2.1).length),(V.own 7 (y61.2.2).length),(V.own 8 a6.length),(iV a2)]]) rfl rfl rfl (ObSub.box (.cons Sub.keepMv (.cons Sub.keepMv (.cons Sub.keepMv (.cons Sub.mv (.cons Sub.keepMv .nil)))))) rfl rfl) (gr [0,1,2,3,4,5,6,7,8] rfl (hB rfl rfl rfl (hD rfl (hD rfl (hD rfl (hD rfl (hR rfl rfl (hR rfl rfl (hR rfl rfl (hR rfl rfl .nil))))))))) rfl))))),(.cons (.tmp rfl) .nil)⟩
theorem W77(F:Nat)(a1:(List UInt8))(r:Bool)(h:M77 F a1=some r):PureG (gl mx) Tryz.prog 77 [(sV a1)] (bV r):=by
 refine pin (fun r=>(bV r)) r rfl Tryz.func77 rfl rfl rfl rfl rfl (fun w0 m0 hg=>?_)
 unfold M77 at h
 refine rn 11 rfl ?_
 exact rt h rfl
theorem W42(F:Nat)(a1:(List UInt8))(a2:(List UInt8))(r:Int)(h:M42 F a1 a2=some r):PureG (gl mx) Tryz.prog 42 [(sV a1),(sV a2)] (iV r):=by
 refine pin (fun r=>(iV r)) r rfl Tryz.func42 rfl rfl rfl rfl rfl (fun w0 m0 hg=>?_)
 unfold M42 at h
 refine rn 7 rfl ?_
 refine cl h rfl rfl rfl (W77 _ _) rfl (fun y3 hx4 h=>?_)
 refine rn 5 rfl ?_
 refine cl h rfl rfl rfl (W77 _ _) rfl (fun y5 hx6 h=>?_)
 refine rn 7 rfl ?_
 refine spC h rfl (fun hb7 h=>?_) (fun hb7 h=>?_)
 ·refine rn 5 rfl ?_
  refine spC h rfl (fun hb8 h=>?_) (fun hb8 h=>?_)
  ·refine rn 4 rfl ?_
   exact rt h rfl
  refine rn 5 rfl ?_
  exact rt h rfl
 refine rn 6 rfl ?_
 refine spC h rfl (fun hb9 h=>?_) (fun hb9 h=>?_)
 ·refine rn 4 rfl ?_
  exact rt h rfl
 refine rn 8 rfl ?_
 refine spC h rfl (fun hb10 h=>?_) (fun hb10 h=>?_)
 ·refine rn 4 rfl ?_
  exact rt h rfl
 refine rn 8 rfl ?_
 refine spC h rfl (fun hb11 h=>?_) (fun hb11 h=>?_)
 ·refine rn 4 rfl ?_
  exact rt h rfl
 refine rn 5 rfl ?_
 exact rt h rfl
theorem W41(F:Nat)(a1:TMethod)(a2:TMethod)(r:Int)(h:M41 F a1 a2=some r):PureG (gl mx) Tryz.prog 41 [(V.agg (encTMethod a1)),(V.agg (encTMethod a2))] (iV r):=by
 refine pin (fun r=>(iV r)) r rfl Tryz.func41 rfl rfl rfl rfl rfl (fun w0 m0 hg=>?_)
 unfold M41 at h
 refine rn 12 rfl ?_
 refine cl h rfl rfl rfl (W42 _ _ _) rfl (fun y3 hx4 h=>?_)
 refine rn 2 rfl ?_
 exact rt h rfl
theorem W109(F:Nat)(a1:Int)(a2:Int)(a3:List TMethod)(r:(List TMethod))(h:M109 F a1 a2 a3=some r):MutG (gl mx) Tryz.prog 109 [(V.own 0 a3.length),(iV a1),(iV a2),(V.fn (.func 41) [] [])] 1 [(0,(Ob.arr 64 2 (a3.map encTMethod)))] (resV []) 1 [(0,(Ob.arr 64 2 (r.map encTMethod)))]:=by
 refine mut_enter Tryz.func109 rfl rfl (l:=[]) rfl rfl [(0,(V.own 0 a3.length)),(1,(iV a1)),(2,(iV a2)),(3,(V.fn (.func 41) [] []))] rfl (fun w0 m0 β0 hg=>en ?_)
 unfold M109 at h
 refine rn 7 rfl ?_
 refine lC (fun(p:Int×(List TMethod))=>(⟨[(0,(V.own 0 (p.2).length)),(1,(iV a1)),(2,(iV a2)),(3,(V.fn (.func 41) [] [])),(8,(iV (p.1)))],[(0,(Ob.arr 64 2 ((p.2).map encTMethod)))],1⟩:St)) (fun n p=>M109_L1 F a1 a2 n p.1 p.2=some r) (fun p h=>by simp[M109_L1] at h) F ((w64 (a1+1)),a3) h (gr [0] rfl (hR rfl rfl .nil) rfl) (fun n p h=>?_)
 obtain⟨n36,l37⟩:=p
 unfold M109_L1 at h
 refine rn 7 rfl ?_
 refine spC h rfl (fun hb38 h=>?_) (fun hb38 h=>?_)
 ·refine rn 2 rfl ?_
  refine jK h (fun(p:(List TMethod))=>(⟨[(0,(V.own 0 p.length)),(1,(iV a1)),(2,(iV a2)),(3,(V.fn (.func 41) [] [])),(8,(iV n36))],[(0,(Ob.arr 64 2 (p.map encTMethod)))],1⟩:St)) (fun k39 p=>k39 p=some r) (fun k39 h=>?_) ?_
  ·refine rn 6 rfl ?_
   refine jK h (fun(p:(List TMethod))=>(⟨[(0,(V.own 0 p.length)),(1,(iV a1)),(2,(iV a2)),(3,(V.fn (.func 41) [] [])),(8,(iV n36))],[(0,(Ob.arr 64 2 (p.map encTMethod)))],1⟩:St)) (fun k41 p=>k41 p=some r) (fun k41 h=>?_) ?_
   ·refine rn 1 rfl ?_
    refine lC (fun(p:Int×(List TMethod))=>(⟨[(0,(V.own 0 (p.2).length)),(1,(iV a1)),(2,(iV a2)),(3,(V.fn (.func 41) [] [])),(8,(iV n36)),(9,(iV (p.1)))],[(0,(Ob.arr 64 2 ((p.2).map encTMethod)))],1⟩:St)) (fun n p=>M109_L2 F a1 k41 n p.1 p.2=some r) (fun p h=>by simp[M109_L2] at h) F (n36,l37) h (gr [0] rfl (hR rfl rfl .nil) rfl) (fun n p h=>?_)
    obtain⟨n45,l46⟩:=p
    unfold M109_L2 at h
    refine rn 2 rfl ?_
    refine bs h (fun hb47 h=>?_) (fun hb47 h=>?_)
    ·obtain⟨x48,hx49,h⟩:=bind_some h
     obtain⟨x50,hx51,h⟩:=bind_some h
     obtain⟨y52,hx53,h⟩:=bind_some h
     refine dr mixed (vs 3 rfl (vb hb47 rfl (vs 3 rfl (oD (a:=l46) hx49 rfl rfl rfl rfl (lD hx49 rfl rfl rfl rfl rfl (vs 3 rfl (oD (a:=l46) hx51 rfl rfl rfl rfl (lD hx51 rfl rfl rfl rfl rfl (cD rfl rfl rfl rfl (W41 _ _ _ _ hx53) rfl (vs 2 rfl .nil)))))))))) (by kernel_rfl) ?_
     refine spC h rfl (fun hb54 h=>?_) (fun hb54 h=>?_)
     ·obtain⟨x55,hx56,h⟩:=bind_some h
      obtain⟨x57,hx58,h⟩:=bind_some h
      obtain⟨x59,hx60,h⟩:=bind_some h
      obtain⟨x61,hx62,h⟩:=bind_some h
      refine rn 3 rfl ?_
      refine dr mixed (vs 8 rfl (oD (a:=l46) hx56 rfl rfl rfl rfl (lD hx56 rfl rfl rfl rfl rfl (vs 2 rfl (oD (a:=l46) hx58 rfl rfl rfl rfl (lD hx58 rfl rfl rfl rfl rfl (oD (a:=l46) hx60 rfl rfl rfl rfl (xD (OD.mk [(51,(V.ptr 0 2 n45.toNat 0)),(46,(V.agg (encTMethod x55)))] [(0,(Ob.arr 64 2 (l46.map encTMethod)))] [] [(0,(Ob.arr 64 2 ((l46.set n45.toNat x55).map encTMethod)))]) ⟨⟨rfl,rfl,trivial⟩,⟨rfl,trivial⟩⟩ (by exact fun S hn h hh=>aops_store (encTMethod x55) ((l46.set n45.toNat x55).map encTMethod) tS64 wants_none h.1 h.2.1 rfl rfl hh.1 (idx_map encTMethod hx60) rfl (map_set encTMethod l46 _ x55) (aops_nil ⟨rfl,rfl⟩)) rfl (xD (OD.mk [(39,(V.own 0 l46.length)),(41,(iV (w64 (n45 - 1))))] [] [(52,(V.ptr 0 2 (w64 (n45 - 1)).toNat 0))] []) ⟨⟨rfl,rfl,trivial⟩,trivial⟩ (by exact fun S hn h hh=>aops_index_own tSl59 wants_none h.1 h.2.1 (idx_some hx62).1 (by simpa using idx_lt hx62) rfl (aops_nil ⟨rfl,rfl⟩)) rfl (xD (OD.mk [(52,(V.ptr 0 2 (w64 (n45 - 1)).toNat 0)),(50,(V.agg (encTMethod x57)))] [(0,(Ob.arr 64 2 ((l46.set n45.toNat x55).map encTMethod)))] [] [(0,(Ob.arr 64 2 (((l46.set n45.toNat x55).set (w64 (n45 - 1)).toNat x57).map encTMethod)))]) ⟨⟨rfl,rfl,trivial⟩,⟨rfl,trivial⟩⟩ (by exact fun S hn h hh=>aops_store (encTMethod x57) (((l46.set n45.toNat x55).set (w64 (n45 - 1)).toNat x57).map encTMethod) tS64 wants_none h.1 h.2.1 rfl rfl hh.1 (idx_map encTMethod hx62) rfl (map_set encTMethod (l46.set n45.toNat x55) _ x57) (aops_nil ⟨rfl,rfl⟩)) rfl .nil)))))))))) (by kernel_rfl) ?_
      refine rn 6 rfl ?_
      exact jX ((w64 (n45 - 1)),((l46.set n45.toNat x55).set (w64 (n45 - 1)).toNat x57)) h (ghost_ren 1 (fun i=>([0]:List Nat).getD i 0) _ _ (by decide) (EnvSub.get (.cons (Sub.ownE rfl rfl (by simp)) (.cons (Sub.imm (Imm.con _)) (.cons (Sub.imm (Imm.con _)) (.cons (Sub.imm (Imm.fn .nil .nil)) (.cons (Sub.imm (Imm.con _)) (.cons (Sub.imm (Imm.con _)) .nil))))))) (HpSub.get (.cons rfl (ObSub.rows (rows_imm imms_encTMethod)) .nil)) rfl)
     refine rn 1 rfl ?_
     exact jX l46 h (gr [0] rfl (hR rfl rfl .nil) rfl)
    refine dr mixed (vs 3 rfl (vb hb47 rfl (vs 13 rfl .nil))) (by kernel_rfl) ?_
    refine rn 2 rfl ?_
    exact jX l46 h (gr [0] rfl (hR rfl rfl .nil) rfl)
   intro l42 h
   refine rn 1 rfl ?_
   exact jX l42 h (gr [0] rfl (hR rfl rfl .nil) rfl)
  intro l40 h
  refine rn 5 rfl ?_
  exact jX ((w64 (n36+1)),l40) h (gr [0] rfl (hR rfl rfl .nil) rfl)
 refine rn 1 rfl ?_
 replace h:=Option.some.inj h
 subst h
 exact wE ⟨.inr rfl,[],(gr [0] rfl (hR rfl rfl .nil) rfl),.nil⟩
theorem W174(F:Nat)(a1:Int)(a2:Int)(a3:Int)(a4:List TMethod)(r:(List TMethod))(h:M174 F a1 a2 a3 a4=some r):MutG (gl mx) Tryz.prog 174 [(V.own 0 a4.length),(iV a1),(iV a2),(iV a3),(V.fn (.func 41) [] [])] 1 [(0,(Ob.arr 64 2 (a4.map encTMethod)))] (resV []) 1 [(0,(Ob.arr 64 2 (r.map encTMethod)))]:=by
 refine mut_enter Tryz.func174 rfl rfl (l:=[]) rfl rfl [(0,(V.own 0 a4.length)),(1,(iV a1)),(2,(iV a2)),(3,(iV a3)),(4,(V.fn (.func 41) [] []))] rfl (fun w0 m0 β0 hg=>en ?_)
 unfold M174 at h
 refine rn 5 rfl ?_
 refine ck h (fun hA33 h=>?_)
 refine lC (fun(p:Int×(List TMethod))=>(⟨[(0,(V.own 0 (p.2).length)),(1,(iV a1)),(2,(iV a2)),(3,(iV a3)),(10,(iV (p.1)))],[(0,(Ob.arr 64 2 ((p.2).map encTMethod)))],1⟩:St)) (fun n p=>RC a3 (fun tl nn=>M174_L1 F a1 a2 tl nn p.2=some r) n p.1) (fun p h=>RC.zero h) (Int.toNat a3+1) (0,a4) (RC.start h) (gr [0] rfl (hR rfl rfl .nil) rfl) (fun n p h=>?_)
 obtain⟨n22,l23⟩:=p
 refine rn 7 rfl ?_
 refine spL rfl (fun hb24=>?_) (fun hb24=>?_)
 ·obtain⟨tl,h,hk1⟩:=RC.t hA33 h hb24
  unfold M174_L1 at h
  obtain⟨x25,hx26,h⟩:=bind_some h
  obtain⟨x27,hx28,h⟩:=bind_some h
  obtain⟨x29,hx30,h⟩:=bind_some h
  obtain⟨x31,hx32,h⟩:=bind_some h
  refine rn 3 rfl ?_
  refine dr mixed (vs 12 rfl (oD (a:=l23) hx26 rfl rfl rfl rfl (lD hx26 rfl rfl rfl rfl rfl (vs 4 rfl (oD (a:=l23) hx28 rfl rfl rfl rfl (lD hx28 rfl rfl rfl rfl rfl (oD (a:=l23) hx30 rfl rfl rfl rfl (xD (OD.mk [(36,(V.ptr 0 2 (w64 (a1+n22)).toNat 0)),(29,(V.agg (encTMethod x25)))] [(0,(Ob.arr 64 2 (l23.map encTMethod)))] [] [(0,(Ob.arr 64 2 ((l23.set (w64 (a1+n22)).toNat x25).map encTMethod)))]) ⟨⟨rfl,rfl,trivial⟩,⟨rfl,trivial⟩⟩ (by exact fun S hn h hh=>aops_store (encTMethod x25) ((l23.set (w64 (a1+n22)).toNat x25).map encTMethod) tS64 wants_none h.1 h.2.1 rfl rfl hh.1 (idx_map encTMethod hx30) rfl (map_set encTMethod l23 _ x25) (aops_nil ⟨rfl,rfl⟩)) rfl (xD (OD.mk [(20,(V.own 0 l23.length)),(23,(iV (w64 (a2+n22))))] [] [(37,(V.ptr 0 2 (w64 (a2+n22)).toNat 0))] []) ⟨⟨rfl,rfl,trivial⟩,trivial⟩ (by exact fun S hn h hh=>aops_index_own tSl59 wants_none h.1 h.2.1 (idx_some hx32).1 (by simpa using idx_lt hx32) rfl (aops_nil ⟨rfl,rfl⟩)) rfl (xD (OD.mk [(37,(V.ptr 0 2 (w64 (a2+n22)).toNat 0)),(35,(V.agg (encTMethod x27)))] [(0,(Ob.arr 64 2 ((l23.set (w64 (a1+n22)).toNat x25).map encTMethod)))] [] [(0,(Ob.arr 64 2 (((l23.set (w64 (a1+n22)).toNat x25).set (w64 (a2+n22)).toNat x27).map encTMethod)))]) ⟨⟨rfl,rfl,trivial⟩,⟨rfl,trivial⟩⟩ (by exact fun S hn h hh=>aops_store (encTMethod x27) (((l23.set (w64 (a1+n22)).toNat x25).set (w64 (a2+n22)).toNat x27).map encTMethod) tS64 wants_none h.1 h.2.1 rfl rfl hh.1 (idx_map encTMethod hx32) rfl (map_set encTMethod (l23.set (w64 (a1+n22)).toNat x25) _ x27) (aops_nil ⟨rfl,rfl⟩)) rfl .nil)))))))))) (by kernel_rfl) ?_
  refine rn 6 rfl ?_
  exact jX ((w64 (n22+1)),((l23.set (w64 (a1+n22)).toNat x25).set (w64 (a2+n22)).toNat x27)) (hk1 _ h) (ghost_ren 1 (fun i=>([0]:List Nat).getD i 0) _ _ (by decide) (EnvSub.get (.cons (Sub.ownE rfl rfl (by simp)) (.cons (Sub.imm (Imm.con _)) (.cons (Sub.imm (Imm.con _)) (.cons (Sub.imm (Imm.con _)) (.cons (Sub.imm (Imm.con _)) .nil)))))) (HpSub.get (.cons rfl (ObSub.rows (rows_imm imms_encTMethod)) .nil)) rfl)
 replace h:=RC.f h hb24
 unfold M174_L1 at h
 refine rn 1 rfl ?_
 replace h:=Option.some.inj h
 subst h
 exact wE ⟨.inr rfl,[],(gr [0] rfl (hR rfl rfl .nil) rfl),.nil⟩
theorem W139(F:Nat)(a1:Int)(a2:Int)(a3:Int)(a4:List TMethod)(r:(List TMethod))(h:M139 F a1 a2 a3 a4=some r):MutG (gl mx) Tryz.prog 139 [(V.own 0 a4.length),(iV a1),(iV a2),(iV a3),(V.fn (.func 41) [] [])] 1 [(0,(Ob.arr 64 2 (a4.map encTMethod)))] (resV []) 1 [(0,(Ob.arr 64 2 (r.map encTMethod)))]:=by
 refine mut_enter Tryz.func139 rfl rfl (l:=[]) rfl rfl [(0,(V.own 0 a4.length)),(1,(iV a1)),(2,(iV a2)),(3,(iV a3)),(4,(V.fn (.func 41) [] []))] rfl (fun w0 m0 β0 hg=>en ?_)
 unfold M139 at h
 refine rn 15 rfl ?_
 refine jK h (fun(p:Int×(List TMethod))=>(⟨[(0,(V.own 0 (p.2).length)),(2,(iV a2)),(4,(V.fn (.func 41) [] [])),(10,(iV (p.1)))],[(0,(Ob.arr 64 2 ((p.2).map encTMethod)))],1⟩:St)) (fun k30 p=>k30 p.1 p.2=some r) (fun k30 h=>?_) ?_
 ·refine rn 1 rfl ?_
  refine lC (fun(p:Int×Int×(List TMethod))=>(⟨[(0,(V.own 0 (p.2.2).length)),(2,(iV a2)),(4,(V.fn (.func 41) [] [])),(10,(iV (p.1))),(11,(iV (p.2.1)))],[(0,(Ob.arr 64 2 ((p.2.2).map encTMethod)))],1⟩:St)) (fun n p=>M139_L1 F a2 k30 n p.1 p.2.1 p.2.2=some r) (fun p h=>by simp[M139_L1] at h) F ((w64 (a2 - a1)),(w64 (a3 - a2)),a4) h (gr [0] rfl (hR rfl rfl .nil) rfl) (fun n p h=>?_)
  obtain⟨n36,n37,l38⟩:=p
  unfold M139_L1 at h
  refine rn 7 rfl ?_
  refine spC h rfl (fun hb39 h=>?_) (fun hb39 h=>?_)
  ·refine rn 8 rfl ?_
   refine jK h (fun(p:Int×Int×(List TMethod))=>(⟨[(0,(V.own 0 (p.2.2).length)),(2,(iV a2)),(4,(V.fn (.func 41) [] [])),(10,(iV (p.1))),(11,(iV (p.2.1)))],[(0,(Ob.arr 64 2 ((p.2.2).map encTMethod)))],1⟩:St)) (fun k40 p=>k40 p.1 p.2.1 p.2.2=some r) (fun k40 h=>?_) ?_
   ·refine spC h rfl (fun hb44 h=>?_) (fun hb44 h=>?_)
    ·obtain⟨y45,hx46,h⟩:=bind_some h
     refine rn 9 rfl ?_
     refine ck h (fun hc47 h=>?_)
     refine aops_mcallS (V.tup []) [(V.own 0 l38.length),(iV (w64 (a2 - n36))),(iV a2),(iV n37),(V.fn (.func 41) [] [])] (fun i=>([0]:List Nat).getD i 0) (fun i=>([0]:List Nat).getD i 0) 1 1 [(0,(Ob.arr 64 2 (y45.map encTMethod)))] fOk174 wants_none rfl (evm_cons rfl (evm_cons rfl (evm_cons rfl (evm_cons rfl (evm_cons rfl evm_nil))))) (.cons (Sub.own rfl rfl) (.cons (Sub.imm (Imm.con _)) (.cons (Sub.imm (Imm.con _)) (.cons (Sub.imm (Imm.con _)) (.cons (Sub.imm (Imm.fn .nil .nil)) .nil))))) (.cons rfl (ObSub.rows (rows_imm imms_encTMethod)) .nil) (W174 F (w64 (a2 - n36)) a2 n37 l38 y45 hx46) rfl rfl rfl rfl (Sub.immT (Imm.tup .nil)) (.cons rfl (ObSub.rowsT (rows_imm imms_encTMethod)) .nil) _ rfl ?_
     refine aops_ghost (ghost_tell 0 (V.own 0 y45.length) rfl (Sub.ownI hc47)) ?_
     refine aops_ghost (ghost_tell 24 (V.own 0 y45.length) rfl (Sub.ownI hc47)) ?_
     refine fo (rn 7 rfl ?_)
     exact jX ((w64 (n36 - n37)),n37,y45) h (gr [0] rfl (hR rfl rfl .nil) rfl)
    obtain⟨y48,hx49,h⟩:=bind_some h
    refine rn 13 rfl ?_
    refine ck h (fun hc50 h=>?_)
    refine aops_mcallS (V.tup []) [(V.own 0 l38.length),(iV (w64 (a2 - n36))),(iV (w64 ((w64 (a2+n37)) - n36))),(iV n36),(V.fn (.func 41) [] [])] (fun i=>([0]:List Nat).getD i 0) (fun i=>([0]:List Nat).getD i 0) 1 1 [(0,(Ob.arr 64 2 (y48.map encTMethod)))] fOk174 wants_none rfl (evm_cons rfl (evm_cons rfl (evm_cons rfl (evm_cons rfl (evm_cons rfl evm_nil))))) (.cons (Sub.own rfl rfl) (.cons (Sub.imm (Imm.con _)) (.cons (Sub.imm (Imm.con _)) (.cons (Sub.imm (Imm.con _)) (.cons (Sub.imm (Imm.fn .nil .nil)) .nil))))) (.cons rfl (ObSub.rows (rows_imm imms_encTMethod)) .nil) (W174 F (w64 (a2 - n36)) (w64 ((w64 (a2+n37)) - n36)) n36 l38 y48 hx49) rfl rfl rfl rfl (Sub.immT (Imm.tup .nil)) (.cons rfl (ObSub.rowsT (rows_imm imms_encTMethod)) .nil) _ rfl ?_
    refine aops_ghost (ghost_tell 0 (V.own 0 y48.length) rfl (Sub.ownI hc50)) ?_
    refine aops_ghost (ghost_tell 35 (V.own 0 y48.length) rfl (Sub.ownI hc50)) ?_
    refine fo (rn 7 rfl ?_)
    exact jX (n36,(w64 (n37 - n36)),y48) h (gr [0] rfl (hR rfl rfl .nil) rfl)
   rintro⟨n41,n42,l43⟩ h
   refine rn 1 rfl ?_
   exact jX (n41,n42,l43) h (gr [0] rfl (hR rfl rfl .nil) rfl)
  refine rn 1 rfl ?_
  exact jX (n36,l38) h (gr [0] rfl (hR rfl rfl .nil) rfl)
 rintro⟨n31,l32⟩ h
 obtain⟨y51,hx52,h⟩:=bind_some h
 refine rn 8 rfl ?_
 refine ck h (fun hc53 h=>?_)
 refine aops_mcallS (V.tup []) [(V.own 0 l32.length),(iV (w64 (a2 - n31))),(iV a2),(iV n31),(V.fn (.func 41) [] [])] (fun i=>([0]:List Nat).getD i 0) (fun i=>([0]:List Nat).getD i 0) 1 1 [(0,(Ob.arr 64 2 (y51.map encTMethod)))] fOk174 wants_none rfl (evm_cons rfl (evm_cons rfl (evm_cons rfl (evm_cons rfl (evm_cons rfl evm_nil))))) (.cons (Sub.own rfl rfl) (.cons (Sub.imm (Imm.con _)) (.cons (Sub.imm (Imm.con _)) (.cons (Sub.imm (Imm.con _)) (.cons (Sub.imm (Imm.fn .nil .nil)) .nil))))) (.cons rfl (ObSub.rows (rows_imm imms_encTMethod)) .nil) (W174 F (w64 (a2 - n31)) a2 n31 l32 y51 hx52) rfl rfl rfl rfl (Sub.immT (Imm.tup .nil)) (.cons rfl (ObSub.rowsT (rows_imm imms_encTMethod)) .nil) _ rfl ?_
 refine aops_ghost (ghost_tell 0 (V.own 0 y51.length) rfl (Sub.ownI hc53)) ?_
 refine aops_ghost (ghost_tell 50 (V.own 0 y51.length) rfl (Sub.ownI hc53)) ?_
 refine fo (rn 1 rfl ?_)
 replace h:=Option.some.inj h
 subst h
 exact wE ⟨.inr rfl,[],(gr [0] rfl (hR rfl rfl .nil) rfl),.nil⟩
end Go.Proofs.YtjofofmllnpkpaaGreatDoor
