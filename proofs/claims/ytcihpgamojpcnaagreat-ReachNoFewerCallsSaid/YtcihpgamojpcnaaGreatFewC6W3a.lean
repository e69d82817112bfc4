/- Part of the proof: C6W3a. -/
import Derived.Test.YtcihpgamojpcnaaGreatFewC6Ord
import Derived.Test.YtcihpgamojpcnaaGreatFewC6Sh
import Derived.KernelRfl
namespace Go.Proofs.YtcihpgamojpcnaaGreat
open Go Go.Pv
set_option linter.unusedVariables false
set_option maxRecDepth 100000
theorem W52(F:Nat)(a1:TGraph)(a2:Bool)(r:Treach_checker)(h:M52 F a1 a2=some r):Pure Tryz.prog 52 [(V.agg (encTGraph a1)),(bV a2)] (V.agg (encTreach_checker r)):=by
 refine pin (fun r=>(V.agg (encTreach_checker r))) r rfl Tryz.func52 rfl rfl rfl rfl rfl (fun w0 m0 hg=>?_)
 unfold M52 at h
 refine rn 20 rfl ?_
 refine ln rfl rfl ?_
 refine rn 2 rfl ?_
 refine jK h (fun(p:(List ((List UInt8)×TIface)))=>(⟨[(2,(V.ptr 0 4 0 0)),(4,(V.ptr 1 4 0 0)),(5,(V.ptr 2 4 0 0))],[(0,(Ob.arr 27 4 [(encTGraph a1)])),(1,(Ob.arr 132 4 [[(bV false),(V.con (.map none)),(V.con (.map none)),(V.con (.map none))]])),(2,(Ob.arr 132 4 [[(bV a2),(V.map 3),(V.map 4),(V.map 5)]])),(3,(Ob.map (p.map encM9_80))),(4,(Ob.map (([]:List ((List UInt8)×Bool)).map encM9_4))),(5,(Ob.map (([]:List ((List UInt8)×Bool)).map encM9_4)))],6⟩:St)) (fun k3 p=>k3 p=some r) (fun k3 h=>?_) ?_
 ·refine rn 1 rfl ?_
  refine wl (A:=a1.Ifaces) 18 rfl (fun hA12=>?_)
  refine lC (fun(p:Int×(List ((List UInt8)×TIface)))=>(⟨[(2,(V.ptr 0 4 0 0)),(4,(V.ptr 1 4 0 0)),(5,(V.ptr 2 4 0 0)),(18,(V.lst 2 (a1.Ifaces.map encTIface))),(19,(iV ((a1.Ifaces.length:Nat):Int))),(20,(iV (p.1)))],[(0,(Ob.arr 27 4 [(encTGraph a1)])),(1,(Ob.arr 132 4 [[(bV false),(V.con (.map none)),(V.con (.map none)),(V.con (.map none))]])),(2,(Ob.arr 132 4 [[(bV a2),(V.map 3),(V.map 4),(V.map 5)]])),(3,(Ob.map ((p.2).map encM9_80))),(4,(Ob.map (([]:List ((List UInt8)×Bool)).map encM9_4))),(5,(Ob.map (([]:List ((List UInt8)×Bool)).map encM9_4)))],6⟩:St)) (fun n p=>RG a1.Ifaces (fun tl nn=>M52_L1 F k3 tl p.2=some r) n p.1) (fun p h=>RG.zero h) (a1.Ifaces.length+1) (0,([]:List ((List UInt8)×TIface))) (RG.start h) (gr [0,1,5,2,3,4] rfl (hB rfl rfl rfl (hB rfl rfl rfl (hB rfl rfl rfl (hM rfl rfl (hM rfl rfl (hM rfl rfl .nil)))))) rfl) (fun n p h=>?_)
  obtain⟨n7,m8⟩:=p
  refine rn 5 rfl ?_
  refine spL rfl (fun hb9=>?_) (fun hb9=>?_)
  ·obtain⟨x10,tl,hx11,h,hk1⟩:=RG.t hA12 h hb9
   unfold M52_L1 at h
   refine rn 5 rfl ?_
   refine ixh hx11 rfl rfl ?_
   refine rn 10 rfl ?_
   refine aops_mapUpdate (es:=m8.map encM9_80) ((mput m8 x10.Name x10).map encM9_80) tMap130 tKey9 wants_none rfl rfl (.con rfl) ⟨_,rfl⟩ encM9_80_good rfl (encM9_80_puts m8 x10.Name x10) ?_
   refine fo (rn 6 rfl ?_)
   exact jX ((w64 (n7+1)),(mput m8 x10.Name x10)) (hk1 _ h) (gr [0,1,2,3,4,5] rfl (hB rfl rfl rfl (hB rfl rfl rfl (hB rfl rfl rfl (hM rfl rfl (hM rfl rfl (hM rfl rfl .nil)))))) rfl)
  replace h:=RG.f h hb9
  unfold M52_L1 at h
  refine rn 1 rfl ?_
  exact jX m8 h (gr [0,1,2,3,4,5] rfl (hB rfl rfl rfl (hB rfl rfl rfl (hB rfl rfl rfl (hM rfl rfl (hM rfl rfl (hM rfl rfl .nil)))))) rfl)
 intro m4 h
 refine rn 5 rfl ?_
 refine ln rfl rfl ?_
 refine rn 2 rfl ?_
 refine jK h (fun(p:(List ((List UInt8)×Bool)))=>(⟨[(2,(V.ptr 0 4 0 0)),(4,(V.ptr 1 4 0 0)),(5,(V.ptr 2 4 0 0))],[(0,(Ob.arr 27 4 [(encTGraph a1)])),(1,(Ob.arr 132 4 [[(bV false),(V.con (.map none)),(V.con (.map none)),(V.con (.map none))]])),(2,(Ob.arr 132 4 [[(bV a2),(V.map 3),(V.map 4),(V.map 5)]])),(3,(Ob.map (m4.map encM9_80))),(4,(Ob.map (p.map encM9_4))),(5,(Ob.map (([]:List ((List UInt8)×Bool)).map encM9_4)))],6⟩:St)) (fun k13 p=>k13 p=some r) (fun k13 h=>?_) ?_
 ·refine rn 1 rfl ?_
  refine wl (A:=a1.Types) 31 rfl (fun hA22=>?_)
  refine lC (fun(p:Int×(List ((List UInt8)×Bool)))=>(⟨[(2,(V.ptr 0 4 0 0)),(4,(V.ptr 1 4 0 0)),(5,(V.ptr 2 4 0 0)),(31,(V.lst 2 (a1.Types.map encTType))),(32,(iV ((a1.Types.length:Nat):Int))),(33,(iV (p.1)))],[(0,(Ob.arr 27 4 [(encTGraph a1)])),(1,(Ob.arr 132 4 [[(bV false),(V.con (.map none)),(V.con (.map none)),(V.con (.map none))]])),(2,(Ob.arr 132 4 [[(bV a2),(V.map 3),(V.map 4),(V.map 5)]])),(3,(Ob.map (m4.map encM9_80))),(4,(Ob.map ((p.2).map encM9_4))),(5,(Ob.map (([]:List ((List UInt8)×Bool)).map encM9_4)))],6⟩:St)) (fun n p=>RG a1.Types (fun tl nn=>M52_L2 F k13 tl p.2=some r) n p.1) (fun p h=>RG.zero h) (a1.Types.length+1) (0,([]:List ((List UInt8)×Bool))) (RG.start h) (gr [0,1,2,3,4,5] rfl (hB rfl rfl rfl (hB rfl rfl rfl (hB rfl rfl rfl (hM rfl rfl (hM rfl rfl (hM rfl rfl .nil)))))) rfl) (fun n p h=>?_)
  obtain⟨n17,m18⟩:=p
  refine rn 5 rfl ?_
  refine spL rfl (fun hb19=>?_) (fun hb19=>?_)
  ·obtain⟨x20,tl,hx21,h,hk2⟩:=RG.t hA22 h hb19
   unfold M52_L2 at h
   refine rn 5 rfl ?_
   refine ixh hx21 rfl rfl ?_
   refine rn 9 rfl ?_
   refine aops_mapUpdate (es:=m18.map encM9_4) ((mput m18 x20.Name true).map encM9_4) tMap63 tKey9 wants_none rfl rfl (.con rfl) ⟨_,rfl⟩ encM9_4_good rfl (encM9_4_puts m18 x20.Name true) ?_
   refine fo (rn 6 rfl ?_)
   exact jX ((w64 (n17+1)),(mput m18 x20.Name true)) (hk2 _ h) (gr [0,1,2,3,4,5] rfl (hB rfl rfl rfl (hB rfl rfl rfl (hB rfl rfl rfl (hM rfl rfl (hM rfl rfl (hM rfl rfl .nil)))))) rfl)
  replace h:=RG.f h hb19
  unfold M52_L2 at h
  refine rn 1 rfl ?_
  exact jX m18 h (gr [0,1,2,3,4,5] rfl (hB rfl rfl rfl (hB rfl rfl rfl (hB rfl rfl rfl (hM rfl rfl (hM rfl rfl (hM rfl rfl .nil)))))) rfl)
 intro m14 h
 refine rn 5 rfl ?_
 refine ln rfl rfl ?_
 refine rn 2 rfl ?_
 refine jK h (fun(p:(List ((List UInt8)×Bool)))=>(⟨[(4,(V.ptr 0 4 0 0)),(5,(V.ptr 1 4 0 0))],[(0,(Ob.arr 132 4 [[(bV false),(V.con (.map none)),(V.con (.map none)),(V.con (.map none))]])),(1,(Ob.arr 132 4 [[(bV a2),(V.map 2),(V.map 3),(V.map 4)]])),(2,(Ob.map (m4.map encM9_80))),(3,(Ob.map (m14.map encM9_4))),(4,(Ob.map (p.map encM9_4)))],5⟩:St)) (fun k23 p=>k23 p=some r) (fun k23 h=>?_) ?_
 ·refine rn 1 rfl ?_
  refine wl (A:=a1.Funcs) 43 rfl (fun hA32=>?_)
  refine lC (fun(p:Int×(List ((List UInt8)×Bool)))=>(⟨[(4,(V.ptr 0 4 0 0)),(5,(V.ptr 1 4 0 0)),(43,(V.lst 4 (a1.Funcs.map encTFunc))),(44,(iV ((a1.Funcs.length:Nat):Int))),(45,(iV (p.1)))],[(0,(Ob.arr 132 4 [[(bV false),(V.con (.map none)),(V.con (.map none)),(V.con (.map none))]])),(1,(Ob.arr 132 4 [[(bV a2),(V.map 2),(V.map 3),(V.map 4)]])),(2,(Ob.map (m4.map encM9_80))),(3,(Ob.map (m14.map encM9_4))),(4,(Ob.map ((p.2).map encM9_4)))],5⟩:St)) (fun n p=>RG a1.Funcs (fun tl nn=>M52_L3 F k23 tl p.2=some r) n p.1) (fun p h=>RG.zero h) (a1.Funcs.length+1) (0,([]:List ((List UInt8)×Bool))) (RG.start h) (gr [1,2,3,4,5] rfl (hB rfl rfl rfl (hB rfl rfl rfl (hM rfl rfl (hM rfl rfl (hM rfl rfl .nil))))) rfl) (fun n p h=>?_)
  obtain⟨n27,m28⟩:=p
  refine rn 5 rfl ?_
  refine spL rfl (fun hb29=>?_) (fun hb29=>?_)
  ·obtain⟨x30,tl,hx31,h,hk3⟩:=RG.t hA32 h hb29
   unfold M52_L3 at h
   refine rn 5 rfl ?_
   refine ixh hx31 rfl rfl ?_
   refine rn 9 rfl ?_
   refine aops_mapUpdate (es:=m28.map encM9_4) ((mput m28 x30.Name true).map encM9_4) tMap63 tKey9 wants_none rfl rfl (.con rfl) ⟨_,rfl⟩ encM9_4_good rfl (encM9_4_puts m28 x30.Name true) ?_
   refine fo (rn 6 rfl ?_)
   exact jX ((w64 (n27+1)),(mput m28 x30.Name true)) (hk3 _ h) (gr [0,1,2,3,4] rfl (hB rfl rfl rfl (hB rfl rfl rfl (hM rfl rfl (hM rfl rfl (hM rfl rfl .nil))))) rfl)
  replace h:=RG.f h hb29
  unfold M52_L3 at h
  refine rn 1 rfl ?_
  exact jX m28 h (gr [0,1,2,3,4] rfl (hB rfl rfl rfl (hB rfl rfl rfl (hM rfl rfl (hM rfl rfl (hM rfl rfl .nil))))) rfl)
 intro m24 h
 refine rn 5 rfl ?_
 refine awp_ghost (ghost_frzMC 2 0 (Ob.arr 132 4 [[(bV a2),(V.imap (m4.map encM9_80)),(V.map 3),(V.map 4)]]) rfl encM9_80_imm (ObSub.box (.cons Sub.keepM (.cons Sub.frzM (.cons Sub.keepM (.cons Sub.keepM .nil)))))) ?_
 refine awp_ghost (ghost_frzMC 3 0 (Ob.arr 132 4 [[(bV a2),(V.imap (m4.map encM9_80)),(V.imap (m14.map encM9_4)),(V.map 4)]]) rfl encM9_4_imm (ObSub.box (.cons Sub.keepM (.cons Sub.keepM (.cons Sub.frzM (.cons Sub.keepM .nil)))))) ?_
 refine awp_ghost (ghost_frzMC 4 0 (Ob.arr 132 4 [[(bV a2),(V.imap (m4.map encM9_80)),(V.imap (m14.map encM9_4)),(V.imap (m24.map encM9_4))]]) rfl encM9_4_imm (ObSub.box (.cons Sub.keepM (.cons Sub.keepM (.cons Sub.keepM (.cons Sub.frzM .nil)))))) ?_
 refine fa ?_
 exact rt h rfl
theorem W108(F:Nat)(a1:(List UInt8))(r:Bool)(h:M108 F a1=some r):Pure Tryz.prog 108 [(sV a1)] (bV r):=by
 refine pin (fun r=>(bV r)) r rfl Tryz.func108 rfl rfl rfl rfl rfl (fun w0 m0 hg=>?_)
 unfold M108 at h
 refine rn 11 rfl ?_
 refine jK h (fun _:Unit=>(⟨[(0,(sV a1))],[],0⟩:St)) (fun k2 (_:Unit)=>k2=some r) (fun k2 h=>?_) ?_
 ·refine rn 1 rfl ?_
  refine ck h (fun hA15 h=>?_)
  refine lC (fun(p:Int)=>(⟨[(0,(sV a1)),(5,(iV (a1.length:Int))),(6,(iV p))],[],0⟩:St)) (fun n p=>RC (a1.length:Int) (fun tl nn=>M108_L1 F a1 k2 tl nn=some r) n p) (fun p h=>RC.zero h) (Int.toNat (a1.length:Int)+1) 0 (RC.start h) (g0 rfl rfl) (fun n n4 h=>?_)
  refine rn 5 rfl ?_
  refine spL rfl (fun hb5=>?_) (fun hb5=>?_)
  ·obtain⟨tl,h,hk1⟩:=RC.t hA15 h hb5
   unfold M108_L1 at h
   refine rn 12 rfl ?_
   refine ixs h rfl rfl (fun c6 hx7 h=>?_)
   refine rn 2 rfl ?_
   refine spO 13 h rfl (fun hb8 h=>?_) (fun hb8 h=>?_)
   ·refine rn 17 rfl ?_
    exact rt h rfl
   refine rn 2 rfl ?_
   refine ixs h rfl rfl (fun c9 hx10 h=>?_)
   refine rn 3 rfl ?_
   refine spO 19 h rfl (fun hb11 h=>?_) (fun hb11 h=>?_)
   ·refine rn 11 rfl ?_
    exact rt h rfl
   refine rn 2 rfl ?_
   refine ixs h rfl rfl (fun c12 hx13 h=>?_)
   refine rn 3 rfl ?_
   refine spC h rfl (fun hb14 h=>?_) (fun hb14 h=>?_)
   ·refine rn 4 rfl ?_
    exact rt h rfl
   refine rn 6 rfl ?_
   exact jX (w64 (n4+1)) (hk1 _ h) (g0 rfl rfl)
  replace h:=RC.f h hb5
  unfold M108_L1 at h
  refine rn 1 rfl ?_
  exact jX () h (g0 rfl rfl)
 intro _ h
 refine rn 5 rfl ?_
 refine spO 28 h rfl (fun hb16 h=>?_) (fun hb16 h=>?_)
 ·refine rn 6 rfl ?_
  exact rt h rfl
 refine rn 6 rfl ?_
 exact rt h rfl
theorem W87(F:Nat)(a1:(List UInt8))(a2:(List UInt8))(a3:Bool)(r:Int)(h:M87 F a1 a2 a3=some r):Pure Tryz.prog 87 [(sV a1),(sV a2),(bV a3)] (iV r):=by
 refine pin (fun r=>(iV r)) r rfl Tryz.func87 rfl rfl rfl rfl rfl (fun w0 m0 hg=>?_)
 unfold M87 at h
 refine rn 9 rfl ?_
 refine cl h rfl rfl rfl (W108 _ _) rfl (fun y4 hx5 h=>?_)
 refine rn 3 rfl ?_
 refine jK h (fun _:Unit=>(⟨[],[],0⟩:St)) (fun k6 (_:Unit)=>k6=some r) (fun k6 h=>?_) ?_
 ·refine spC h rfl (fun hb7 h=>?_) (fun hb7 h=>?_)
  ·refine rn 4 rfl ?_
   exact rt h rfl
  refine rn 5 rfl ?_
  refine spO 14 h rfl (fun hb8 h=>?_) (fun hb8 h=>?_)
  ·refine rn 6 rfl ?_
   refine spC h rfl (fun hb9 h=>?_) (fun hb9 h=>?_)
   ·refine rn 4 rfl ?_
    exact rt h rfl
   refine rn 1 rfl ?_
   exact jX () h (g0 rfl rfl)
  refine rn 8 rfl ?_
  exact jX () h (g0 rfl rfl)
 intro _ h
 refine rn 5 rfl ?_
 exact rt h rfl
theorem W75(F:Nat)(a1:Treach_checker)(a2:(List TIface))(r:Int)(h:M75 F a1 a2=some r):Pure Tryz.prog 75 [(V.agg (encTreach_checker a1)),(V.lst 2 (a2.map encTIface))] (iV r):=by
 refine pin (fun r=>(iV r)) r rfl Tryz.func75 rfl rfl rfl rfl rfl (fun w0 m0 hg=>?_)
 unfold M75 at h
 refine rn 13 rfl ?_
 refine ln rfl rfl ?_
 refine rn 2 rfl ?_
 refine jK h (fun _:Unit=>(⟨[],[],0⟩:St)) (fun k3 (_:Unit)=>k3=some r) (fun k3 h=>?_) ?_
 ·refine rn 1 rfl ?_
  refine wl (A:=a2) 1 rfl (fun hA30=>?_)
  refine lC (fun(p:(List UInt8)×Int)=>(⟨[(5,(sV (p.1))),(13,(V.lst 2 (a2.map encTIface))),(14,(iV ((a2.length:Nat):Int))),(15,(iV (p.2)))],[],0⟩:St)) (fun n p=>RG a2 (fun tl nn=>M75_L1 F k3 tl nn p.1=some r) n p.2) (fun p h=>RG.zero h) (a2.length+1) (([]:List UInt8),0) (RG.start h) (g0 rfl rfl) (fun n p h=>?_)
  obtain⟨s6,n7⟩:=p
  refine rn 5 rfl ?_
  refine spL rfl (fun hb8=>?_) (fun hb8=>?_)
  ·obtain⟨x11,tl,hx12,h,hk1⟩:=RG.t hA30 h hb8
   unfold M75_L1 at h
   refine rn 2 rfl ?_
   refine jK h (fun(p:(List UInt8))=>(⟨[(5,(sV p)),(13,(V.lst 2 (a2.map encTIface))),(14,(iV ((a2.length:Nat):Int))),(15,(iV n7))],[],0⟩:St)) (fun k9 p=>k9 p=some r) (fun k9 h=>?_) ?_
   ·refine rn 4 rfl ?_
    refine ixh hx12 rfl rfl ?_
    refine rn 13 rfl ?_
    refine cl h rfl rfl rfl (W87 _ _ _ _) rfl (fun y13 hx14 h=>?_)
    refine rn 7 rfl ?_
    refine spC h rfl (fun hb15 h=>?_) (fun hb15 h=>?_)
    ·refine rn 5 rfl ?_
     exact rt h rfl
    refine rn 13 rfl ?_
    refine ln rfl rfl ?_
    refine rn 3 rfl ?_
    refine spC h rfl (fun hb16 h=>?_) (fun hb16 h=>?_)
    ·refine rn 4 rfl ?_
     exact rt h rfl
    refine rn 4 rfl ?_
    refine ln rfl rfl ?_
    refine rn 3 rfl ?_
    refine spC h rfl (fun hb17 h=>?_) (fun hb17 h=>?_)
    ·refine rn 4 rfl ?_
     exact rt h rfl
    refine rn 10 rfl ?_
    refine ln rfl rfl ?_
    refine rn 2 rfl ?_
    refine jK h (fun _:Unit=>(⟨[(5,(sV x11.Name)),(13,(V.lst 2 (a2.map encTIface))),(14,(iV ((a2.length:Nat):Int))),(15,(iV n7))],[],0⟩:St)) (fun k18 (_:Unit)=>k18=some r) (fun k18 h=>?_) ?_
    ·refine rn 1 rfl ?_
     refine wl (A:=x11.Methods) 33 rfl (fun hA29=>?_)
     refine lC (fun(p:(List UInt8)×Int)=>(⟨[(5,(sV x11.Name)),(9,(sV (p.1))),(13,(V.lst 2 (a2.map encTIface))),(14,(iV ((a2.length:Nat):Int))),(15,(iV n7)),(42,(V.lst 1 (x11.Methods.map encS))),(43,(iV ((x11.Methods.length:Nat):Int))),(44,(iV (p.2)))],[],0⟩:St)) (fun n p=>RG x11.Methods (fun tl nn=>M75_L2 F k18 tl nn p.1=some r) n p.2) (fun p h=>RG.zero h) (x11.Methods.length+1) (([]:List UInt8),0) (RG.start h) (g0 rfl rfl) (fun n p h=>?_)
     obtain⟨s21,n22⟩:=p
     refine rn 5 rfl ?_
     refine spL rfl (fun hb23=>?_) (fun hb23=>?_)
     ·obtain⟨x24,tl,hx25,h,hk2⟩:=RG.t hA29 h hb23
      unfold M75_L2 at h
      refine rn 6 rfl ?_
      refine ixh hx25 rfl rfl ?_
      refine rn 11 rfl ?_
      refine cl h rfl rfl rfl (W87 _ _ _ _) rfl (fun y26 hx27 h=>?_)
      refine rn 7 rfl ?_
      refine spC h rfl (fun hb28 h=>?_) (fun hb28 h=>?_)
      ·refine rn 5 rfl ?_
       exact rt h rfl
      refine rn 10 rfl ?_
      exact jX (x24,(w64 (n22+1))) (hk2 _ h) (g0 rfl rfl)
     replace h:=RG.f h hb23
     unfold M75_L2 at h
     refine rn 1 rfl ?_
     exact jX () h (g0 rfl rfl)
    intro _ h
    refine rn 1 rfl ?_
    exact jX x11.Name h (g0 rfl rfl)
   intro s10 h
   refine rn 4 rfl ?_
   exact jX (s10,(w64 (n7+1))) (hk1 _ h) (g0 rfl rfl)
  replace h:=RG.f h hb8
  unfold M75_L1 at h
  refine rn 1 rfl ?_
  exact jX () h (g0 rfl rfl)
 intro _ h
 refine rn 4 rfl ?_
 exact rt h rfl
theorem W76(F:Nat)(a1:Treach_checker)(a2:(List TType))(r:Int)(h:M76 F a1 a2=some r):Pure Tryz.prog 76 [(V.agg (encTreach_checker a1)),(V.lst 2 (a2.map encTType))] (iV r):=by
 refine pin (fun r=>(iV r)) r rfl Tryz.func76 rfl rfl rfl rfl rfl (fun w0 m0 hg=>?_)
 unfold M76 at h
 refine rn 13 rfl ?_
 refine ln rfl rfl ?_
 refine rn 2 rfl ?_
 refine jK h (fun _:Unit=>(⟨[],[],0⟩:St)) (fun k3 (_:Unit)=>k3=some r) (fun k3 h=>?_) ?_
 ·refine rn 1 rfl ?_
  refine wl (A:=a2) 1 rfl (fun hA33=>?_)
  refine lC (fun(p:(List UInt8)×Int)=>(⟨[(2,(V.ptr 0 4 0 0)),(5,(sV (p.1))),(13,(V.lst 2 (a2.map encTType))),(14,(iV ((a2.length:Nat):Int))),(15,(iV (p.2)))],[(0,(Ob.arr 132 4 [(encTreach_checker a1)]))],1⟩:St)) (fun n p=>RG a2 (fun tl nn=>M76_L1 F a1 k3 tl nn p.1=some r) n p.2) (fun p h=>RG.zero h) (a2.length+1) (([]:List UInt8),0) (RG.start h) (gr [0] rfl (hB rfl rfl rfl .nil) rfl) (fun n p h=>?_)
  obtain⟨s6,n7⟩:=p
  refine rn 5 rfl ?_
  refine spL rfl (fun hb8=>?_) (fun hb8=>?_)
  ·obtain⟨x11,tl,hx12,h,hk1⟩:=RG.t hA33 h hb8
   unfold M76_L1 at h
   refine rn 2 rfl ?_
   refine jK h (fun(p:(List UInt8))=>(⟨[(2,(V.ptr 0 4 0 0)),(5,(sV p)),(13,(V.lst 2 (a2.map encTType))),(14,(iV ((a2.length:Nat):Int))),(15,(iV n7))],[(0,(Ob.arr 132 4 [(encTreach_checker a1)]))],1⟩:St)) (fun k9 p=>k9 p=some r) (fun k9 h=>?_) ?_
   ·refine rn 4 rfl ?_
    refine ixh hx12 rfl rfl ?_
    refine rn 13 rfl ?_
    refine cl h rfl rfl rfl (W87 _ _ _ _) rfl (fun y13 hx14 h=>?_)
    refine rn 7 rfl ?_
    refine spC h rfl (fun hb15 h=>?_) (fun hb15 h=>?_)
    ·refine rn 5 rfl ?_
     exact rt h rfl
    refine rn 12 rfl ?_
    refine ln rfl rfl ?_
    refine rn 2 rfl ?_
    refine spC h rfl (fun hb16 h=>?_) (fun hb16 h=>?_)
    ·refine rn 4 rfl ?_
     exact rt h rfl
    refine rn 9 rfl ?_
    refine ln rfl rfl ?_
    refine rn 2 rfl ?_
    refine jK h (fun _:Unit=>(⟨[(2,(V.ptr 0 4 0 0)),(5,(sV x11.Name)),(13,(V.lst 2 (a2.map encTType))),(14,(iV ((a2.length:Nat):Int))),(15,(iV n7))],[(0,(Ob.arr 132 4 [(encTreach_checker a1)]))],1⟩:St)) (fun k17 (_:Unit)=>k17=some r) (fun k17 h=>?_) ?_
    ·refine rn 1 rfl ?_
     refine wl (A:=x11.Methods) 32 rfl (fun hA32=>?_)
     refine lC (fun(p:(List UInt8)×Int)=>(⟨[(2,(V.ptr 0 4 0 0)),(5,(sV x11.Name)),(9,(sV (p.1))),(13,(V.lst 2 (a2.map encTType))),(14,(iV ((a2.length:Nat):Int))),(15,(iV n7)),(36,(V.lst 2 (x11.Methods.map encTMethod))),(37,(iV ((x11.Methods.length:Nat):Int))),(38,(iV (p.2)))],[(0,(Ob.arr 132 4 [(encTreach_checker a1)]))],1⟩:St)) (fun n p=>RG x11.Methods (fun tl nn=>M76_L2 F a1 k17 tl nn p.1=some r) n p.2) (fun p h=>RG.zero h) (x11.Methods.length+1) (([]:List UInt8),0) (RG.start h) (gr [0] rfl (hB rfl rfl rfl .nil) rfl) (fun n p h=>?_)
     obtain⟨s20,n21⟩:=p
     refine rn 5 rfl ?_
     refine spL rfl (fun hb22=>?_) (fun hb22=>?_)
     ·obtain⟨x25,tl,hx26,h,hk2⟩:=RG.t hA32 h hb22
      unfold M76_L2 at h
      refine rn 2 rfl ?_
      refine jK h (fun(p:(List UInt8))=>(⟨[(2,(V.ptr 0 4 0 0)),(5,(sV x11.Name)),(9,(sV p)),(13,(V.lst 2 (a2.map encTType))),(14,(iV ((a2.length:Nat):Int))),(15,(iV n7)),(36,(V.lst 2 (x11.Methods.map encTMethod))),(37,(iV ((x11.Methods.length:Nat):Int))),(38,(iV n21))],[(0,(Ob.arr 132 4 [(encTreach_checker a1)]))],1⟩:St)) (fun k23 p=>k23 p=some r) (fun k23 h=>?_) ?_
      ·refine rn 4 rfl ?_
       refine ixh hx26 rfl rfl ?_
       refine rn 13 rfl ?_
       refine cl h rfl rfl rfl (W87 _ _ _ _) rfl (fun y27 hx28 h=>?_)
       refine rn 7 rfl ?_
       refine spC h rfl (fun hb29 h=>?_) (fun hb29 h=>?_)
       ·refine rn 5 rfl ?_
        exact rt h rfl
       refine rn 13 rfl ?_
       refine spO 57 h rfl (fun hb30 h=>?_) (fun hb30 h=>?_)
       ·refine rn 4 rfl ?_
        refine aops_lookup _ (bV false) (bV ((mget a1.funcs x25.Func).getD false)) tMap63 tKey9 tZo4 (irel_con _) (wants_some (c:=true) (b:=true) 57 rfl rfl rfl) rfl .imm (.con rfl) ⟨_,rfl⟩ encM9_4_good (encM9_4_look a1.funcs x25.Func) (getD_map (encM9_4_val) (mget a1.funcs x25.Func) false) rfl ?_
        refine fo (rn 3 rfl ?_)
        refine spC h rfl (fun hb31 h=>?_) (fun hb31 h=>?_)
        ·refine rn 4 rfl ?_
         exact rt h rfl
        refine rn 2 rfl ?_
        exact jX x25.Name h (gr [0] rfl (hB rfl rfl rfl .nil) rfl)
       refine rn 11 rfl ?_
       exact jX x25.Name h (gr [0] rfl (hB rfl rfl rfl .nil) rfl)
      intro s24 h
      refine rn 4 rfl ?_
      exact jX (s24,(w64 (n21+1))) (hk2 _ h) (gr [0] rfl (hB rfl rfl rfl .nil) rfl)
     replace h:=RG.f h hb22
     unfold M76_L2 at h
     refine rn 1 rfl ?_
     exact jX () h (gr [0] rfl (hB rfl rfl rfl .nil) rfl)
    intro _ h
    refine rn 1 rfl ?_
    exact jX x11.Name h (gr [0] rfl (hB rfl rfl rfl .nil) rfl)
   intro s10 h
   refine rn 4 rfl ?_
   exact jX (s10,(w64 (n7+1))) (hk1 _ h) (gr [0] rfl (hB rfl rfl rfl .nil) rfl)
  replace h:=RG.f h hb8
  unfold M76_L1 at h
  refine rn 1 rfl ?_
  exact jX () h (g0 rfl rfl)
 intro _ h
 refine rn 4 rfl ?_
 exact rt h rfl
theorem W35(F:Nat)(a1:(List (List UInt8)))(a2:(List UInt8))(r:Int)(h:M35 F a1 a2=some r):Pure Tryz.prog 35 [(V.lst 1 (a1.map encS)),(sV a2)] (iV r):=by
 refine pin (fun r=>(iV r)) r rfl Tryz.func35 rfl rfl rfl rfl rfl (fun w0 m0 hg=>?_)
 unfold M35 at h
 refine rn 8 rfl ?_
 refine ln rfl rfl ?_
 refine rn 2 rfl ?_
 refine jK h (fun _:Unit=>(⟨[],[],0⟩:St)) (fun k3 (_:Unit)=>k3=some r) (fun k3 h=>?_) ?_
 ·refine rn 1 rfl ?_
  refine wl (A:=a1) 0 rfl (fun hA10=>?_)
  refine lC (fun(p:Int)=>(⟨[(0,(V.lst 1 (a1.map encS))),(1,(sV a2)),(7,(iV ((a1.length:Nat):Int))),(8,(iV p))],[],0⟩:St)) (fun n p=>RG a1 (fun tl nn=>M35_L1 F a2 k3 tl nn=some r) n p) (fun p h=>RG.zero h) (a1.length+1) 0 (RG.start h) (g0 rfl rfl) (fun n n5 h=>?_)
  refine rn 5 rfl ?_
  refine spL rfl (fun hb6=>?_) (fun hb6=>?_)
  ·obtain⟨x7,tl,hx8,h,hk1⟩:=RG.t hA10 h hb6
   unfold M35_L1 at h
   refine rn 13 rfl ?_
   refine ixh hx8 rfl rfl ?_
   refine rn 3 rfl ?_
   refine spC h rfl (fun hb9 h=>?_) (fun hb9 h=>?_)
   ·refine rn 5 rfl ?_
    exact rt h rfl
   refine rn 6 rfl ?_
   exact jX (w64 (n5+1)) (hk1 _ h) (g0 rfl rfl)
  replace h:=RG.f h hb6
  unfold M35_L1 at h
  refine rn 1 rfl ?_
  exact jX () h (g0 rfl rfl)
 intro _ h
 refine rn 4 rfl ?_
 exact rt h rfl
theorem W10(F:Nat)(a1:(List (List UInt8)))(a2:(List UInt8))(r:Bool)(h:M10 F a1 a2=some r):Pure Tryz.prog 10 [(V.lst 1 (a1.map encS)),(sV a2)] (bV r):=by
 refine pin (fun r=>(bV r)) r rfl Tryz.func10 rfl rfl rfl rfl rfl (fun w0 m0 hg=>?_)
 unfold M10 at h
 refine rn 8 rfl ?_
 refine cl h rfl rfl rfl (W35 _ _ _) rfl (fun y3 hx4 h=>?_)
 refine rn 3 rfl ?_
 exact rt h rfl
theorem W109(F:Nat)(a1:Treach_checker)(a2:TCall)(r:Int)(h:M109 F a1 a2=some r):Pure Tryz.prog 109 [(V.agg (encTreach_checker a1)),(V.agg (encTCall a2))] (iV r):=by
 refine pin (fun r=>(iV r)) r rfl Tryz.func109 rfl rfl rfl rfl rfl (fun w0 m0 hg=>?_)
 unfold M109 at h
 refine rn 18 rfl ?_
 refine jK h (fun _:Unit=>(⟨[(3,(V.ptr 0 4 0 0))],[(0,(Ob.arr 54 4 [(encTCall a2)]))],1⟩:St)) (fun k3 (_:Unit)=>k3=some r) (fun k3 h=>?_) ?_
 ·refine spC h rfl (fun hb4 h=>?_) (fun hb4 h=>?_)
  ·refine rn 7 rfl ?_
   refine spO 14 h rfl (fun hb5 h=>?_) (fun hb5 h=>?_)
   ·refine rn 4 rfl ?_
    refine aops_lookup _ (bV false) (bV ((mget a1.funcs a2.Target).getD false)) tMap63 tKey9 tZo4 (irel_con _) (wants_some (c:=true) (b:=true) 14 rfl rfl rfl) rfl .imm (.con rfl) ⟨_,rfl⟩ encM9_4_good (encM9_4_look a1.funcs a2.Target) (getD_map (encM9_4_val) (mget a1.funcs a2.Target) false) rfl ?_
    refine fo (rn 3 rfl ?_)
    refine spC h rfl (fun hb6 h=>?_) (fun hb6 h=>?_)
    ·refine rn 4 rfl ?_
     exact rt h rfl
    refine rn 7 rfl ?_
    refine spC h rfl (fun hb7 h=>?_) (fun hb7 h=>?_)
    ·refine rn 4 rfl ?_
     exact rt h rfl
    refine rn 1 rfl ?_
    exact jX () h (gr [1] rfl (hB rfl rfl rfl .nil) rfl)
   refine rn 16 rfl ?_
   refine spC h rfl (fun hb8 h=>?_) (fun hb8 h=>?_)
   ·refine rn 4 rfl ?_
    exact rt h rfl
   refine rn 1 rfl ?_
   exact jX () h (gr [1] rfl (hB rfl rfl rfl .nil) rfl)
  refine rn 5 rfl ?_
  refine spC h rfl (fun hb9 h=>?_) (fun hb9 h=>?_)
  ·refine rn 6 rfl ?_
   refine aops_lookup_okB _ (V.agg [(sV ([]:List UInt8)),(V.lst 1 (([]:List (List UInt8)).map encS))]) (V.agg (encTIface ((mget a1.ifaces a2.Target).getD (TIface.mk ([]:List UInt8) ([]:(List (List UInt8))))))) tMap130 tKey9 tZo80 (irel_aggZ (.con (.sl .nil))) wants_none rfl .imm (.con rfl) ⟨_,rfl⟩ encM9_80_good (encM9_80_look a1.ifaces a2.Target) (getD_map (encM9_80_val) (mget a1.ifaces a2.Target) (TIface.mk ([]:List UInt8) ([]:(List (List UInt8))))) (isSome_map ..) rfl ?_
   refine fo (rn 13 rfl ?_)
   refine spO 38 h rfl (fun hb10 h=>?_) (fun hb10 h=>?_)
   ·refine rn 3 rfl ?_
    refine spO 41 h rfl (fun hb11 h=>?_) (fun hb11 h=>?_)
    ·refine rn 14 rfl ?_
     exact rt h rfl
    refine rn 4 rfl ?_
    refine cl h rfl rfl rfl (W10 _ _ _) rfl (fun y12 hx13 h=>?_)
    refine rn 4 rfl ?_
    refine spC h rfl (fun hb14 h=>?_) (fun hb14 h=>?_)
    ·refine rn 4 rfl ?_
     exact rt h rfl
    refine rn 1 rfl ?_
    exact jX () h (gr [1] rfl (hB rfl rfl rfl .nil) rfl)
   refine rn 14 rfl ?_
   exact jX () h (gr [1] rfl (hB rfl rfl rfl .nil) rfl)
  refine rn 4 rfl ?_
  exact rt h rfl
 intro _ h
 refine rn 8 rfl ?_
 refine spO 53 h rfl (fun hb15 h=>?_) (fun hb15 h=>?_)
 ·refine rn 2 rfl ?_
  refine cl h rfl rfl rfl (W108 _ _) rfl (fun y16 hx17 h=>?_)
  refine rn 3 rfl ?_
  refine spC h rfl (fun hb18 h=>?_) (fun hb18 h=>?_)
  ·refine rn 4 rfl ?_
   exact rt h rfl
  refine rn 5 rfl ?_
  exact rt h rfl
 refine rn 12 rfl ?_
 exact rt h rfl
theorem W78(F:Nat)(a1:Treach_checker)(a2:(List (List UInt8)))(a3:(List ((List UInt8)×Bool)))(r:Int)(h:M78 F a1 a2 a3=some r):Pure Tryz.prog 78 [(V.agg (encTreach_checker a1)),(V.lst 1 (a2.map encS)),(V.imap (a3.map encM9_4))] (iV r):=by
 refine pin (fun r=>(iV r)) r rfl Tryz.func78 rfl rfl rfl rfl rfl (fun w0 m0 hg=>?_)
 unfold M78 at h
 refine rn 9 rfl ?_
 refine ln rfl rfl ?_
 refine rn 2 rfl ?_
 refine jK h (fun _:Unit=>(⟨[],[],0⟩:St)) (fun k4 (_:Unit)=>k4=some r) (fun k4 h=>?_) ?_
 ·refine rn 1 rfl ?_
  refine wl (A:=a2) 1 rfl (fun hA22=>?_)
  refine lC (fun(p:Int)=>(⟨[(1,(V.lst 1 (a2.map encS))),(2,(V.imap (a3.map encM9_4))),(3,(V.ptr 0 4 0 0)),(9,(V.lst 1 (a2.map encS))),(10,(iV ((a2.length:Nat):Int))),(11,(iV p))],[(0,(Ob.arr 132 4 [(encTreach_checker a1)]))],1⟩:St)) (fun n p=>RG a2 (fun tl nn=>M78_L1 F a1 a2 a3 k4 tl nn=some r) n p) (fun p h=>RG.zero h) (a2.length+1) 0 (RG.start h) (gr [0] rfl (hB rfl rfl rfl .nil) rfl) (fun n n6 h=>?_)
  refine rn 5 rfl ?_
  refine spL rfl (fun hb7=>?_) (fun hb7=>?_)
  ·obtain⟨x8,tl,hx9,h,hk1⟩:=RG.t hA22 h hb7
   unfold M78_L1 at h
   refine rn 6 rfl ?_
   refine ixh hx9 rfl rfl ?_
   refine rn 4 rfl ?_
   refine jK h (fun _:Unit=>(⟨[(1,(V.lst 1 (a2.map encS))),(2,(V.imap (a3.map encM9_4))),(3,(V.ptr 0 4 0 0)),(9,(V.lst 1 (a2.map encS))),(10,(iV ((a2.length:Nat):Int))),(11,(iV n6))],[(0,(Ob.arr 132 4 [(encTreach_checker a1)]))],1⟩:St)) (fun k10 (_:Unit)=>k10=some r) (fun k10 h=>?_) ?_
   ·refine rn 7 rfl ?_
    refine spO 20 h rfl (fun hb11 h=>?_) (fun hb11 h=>?_)
    ·refine rn 2 rfl ?_
     refine aops_lookup _ (bV false) (bV ((mget a3 x8).getD false)) tMap63 tKey9 tZo4 (irel_con _) (wants_some (c:=true) (b:=true) 20 rfl rfl rfl) rfl .imm (.con rfl) ⟨_,rfl⟩ encM9_4_good (encM9_4_look a3 x8) (getD_map (encM9_4_val) (mget a3 x8) false) rfl ?_
     refine fo (rn 4 rfl ?_)
     refine jK h (fun _:Unit=>(⟨[(1,(V.lst 1 (a2.map encS))),(2,(V.imap (a3.map encM9_4))),(3,(V.ptr 0 4 0 0)),(9,(V.lst 1 (a2.map encS))),(10,(iV ((a2.length:Nat):Int))),(11,(iV n6)),(24,(bV (!((mget a3 x8).getD false))))],[(0,(Ob.arr 132 4 [(encTreach_checker a1)]))],1⟩:St)) (fun k12 (_:Unit)=>k12=some r) (fun k12 h=>?_) ?_
     ·refine spC h rfl (fun hb13 h=>?_) (fun hb13 h=>?_)
      ·refine rn 4 rfl ?_
       exact rt h rfl
      refine rn 5 rfl ?_
      refine spO 29 h rfl (fun hb14 h=>?_) (fun hb14 h=>?_)
      ·refine rn 4 rfl ?_
       refine ixl h rfl rfl (fun x15 hx16 h=>?_)
       refine rn 5 rfl ?_
       refine spC h rfl (fun hb17 h=>?_) (fun hb17 h=>?_)
       ·refine rn 4 rfl ?_
        exact rt h rfl
       refine rn 1 rfl ?_
       exact jX () h (gr [0] rfl (hB rfl rfl rfl .nil) rfl)
      refine rn 12 rfl ?_
      exact jX () h (gr [0] rfl (hB rfl rfl rfl .nil) rfl)
     intro _ h
     refine rn 1 rfl ?_
     exact jX () h (gr [0] rfl (hB rfl rfl rfl .nil) rfl)
    refine rn 13 rfl ?_
    refine spO 29 h rfl (fun hb18 h=>?_) (fun hb18 h=>?_)
    ·refine rn 4 rfl ?_
     refine ixl h rfl rfl (fun x19 hx20 h=>?_)
     refine rn 5 rfl ?_
     refine spC h rfl (fun hb21 h=>?_) (fun hb21 h=>?_)
     ·refine rn 4 rfl ?_
      exact rt h rfl
     refine rn 2 rfl ?_
     exact jX () h (gr [0] rfl (hB rfl rfl rfl .nil) rfl)
    refine rn 13 rfl ?_
    exact jX () h (gr [0] rfl (hB rfl rfl rfl .nil) rfl)
   intro _ h
   refine rn 5 rfl ?_
   exact jX (w64 (n6+1)) (hk1 _ h) (gr [0] rfl (hB rfl rfl rfl .nil) rfl)
  replace h:=RG.f h hb7
  unfold M78_L1 at h
  refine rn 1 rfl ?_
  exact jX () h (g0 rfl rfl)
 intro _ h
 refine rn 4 rfl ?_
 exact rt h rfl
theorem W77(F:Nat)(a1:Treach_checker)(a2:(List TFunc))(r:Int)(h:M77 F a1 a2=some r):Pure Tryz.prog 77 [(V.agg (encTreach_checker a1)),(V.lst 4 (a2.map encTFunc))] (iV r):=by
 refine pin (fun r=>(iV r)) r rfl Tryz.func77 rfl rfl rfl rfl rfl (fun w0 m0 hg=>?_)
 unfold M77 at h
 refine rn 13 rfl ?_
 refine ln rfl rfl ?_
 refine rn 2 rfl ?_
 refine jK h (fun _:Unit=>(⟨[],[],0⟩:St)) (fun k3 (_:Unit)=>k3=some r) (fun k3 h=>?_) ?_
 ·refine rn 1 rfl ?_
  refine wl (A:=a2) 1 rfl (fun hA33=>?_)
  refine lC (fun(p:(List UInt8)×Int)=>(⟨[(2,(V.ptr 0 4 0 0)),(5,(sV (p.1))),(13,(V.lst 4 (a2.map encTFunc))),(14,(iV ((a2.length:Nat):Int))),(15,(iV (p.2)))],[(0,(Ob.arr 132 4 [(encTreach_checker a1)]))],1⟩:St)) (fun n p=>RG a2 (fun tl nn=>M77_L1 F a1 k3 tl nn p.1=some r) n p.2) (fun p h=>RG.zero h) (a2.length+1) (([]:List UInt8),0) (RG.start h) (gr [0] rfl (hB rfl rfl rfl .nil) rfl) (fun n p h=>?_)
  obtain⟨s6,n7⟩:=p
  refine rn 5 rfl ?_
  refine spL rfl (fun hb8=>?_) (fun hb8=>?_)
  ·obtain⟨x11,tl,hx12,h,hk1⟩:=RG.t hA33 h hb8
   unfold M77_L1 at h
   refine rn 2 rfl ?_
   refine jK h (fun(p:(List UInt8))=>(⟨[(2,(V.ptr 0 4 0 0)),(5,(sV p)),(13,(V.lst 4 (a2.map encTFunc))),(14,(iV ((a2.length:Nat):Int))),(15,(iV n7))],[(0,(Ob.arr 132 4 [(encTreach_checker a1)]))],1⟩:St)) (fun k9 p=>k9 p=some r) (fun k9 h=>?_) ?_
   ·refine rn 4 rfl ?_
    refine ixh hx12 rfl rfl ?_
    refine rn 13 rfl ?_
    refine cl h rfl rfl rfl (W87 _ _ _ _) rfl (fun y13 hx14 h=>?_)
    refine rn 7 rfl ?_
    refine spC h rfl (fun hb15 h=>?_) (fun hb15 h=>?_)
    ·refine rn 5 rfl ?_
     exact rt h rfl
    refine rn 13 rfl ?_
    refine cl h rfl rfl rfl (W108 _ _) rfl (fun y16 hx17 h=>?_)
    refine rn 3 rfl ?_
    refine spC h rfl (fun hb18 h=>?_) (fun hb18 h=>?_)
    ·refine rn 4 rfl ?_
     exact rt h rfl
    refine rn 4 rfl ?_
    refine ln rfl rfl ?_
    refine rn 3 rfl ?_
    refine spC h rfl (fun hb19 h=>?_) (fun hb19 h=>?_)
    ·refine rn 4 rfl ?_
     exact rt h rfl
    refine rn 7 rfl ?_
    refine ln rfl rfl ?_
    refine rn 2 rfl ?_
    refine jK h (fun _:Unit=>(⟨[(2,(V.ptr 0 4 0 0)),(5,(sV x11.Name)),(7,(V.ptr 1 4 0 0)),(13,(V.lst 4 (a2.map encTFunc))),(14,(iV ((a2.length:Nat):Int))),(15,(iV n7))],[(0,(Ob.arr 132 4 [(encTreach_checker a1)])),(1,(Ob.arr 52 4 [(encTFunc x11)]))],2⟩:St)) (fun k20 (_:Unit)=>k20=some r) (fun k20 h=>?_) ?_
    ·refine rn 1 rfl ?_
     refine wl (A:=x11.Calls) 38 rfl (fun hA29=>?_)
     refine lC (fun(p:Int)=>(⟨[(2,(V.ptr 0 4 0 0)),(5,(sV x11.Name)),(7,(V.ptr 1 4 0 0)),(13,(V.lst 4 (a2.map encTFunc))),(14,(iV ((a2.length:Nat):Int))),(15,(iV n7)),(42,(V.lst 4 (x11.Calls.map encTCall))),(43,(iV ((x11.Calls.length:Nat):Int))),(44,(iV p))],[(0,(Ob.arr 132 4 [(encTreach_checker a1)])),(1,(Ob.arr 52 4 [(encTFunc x11)]))],2⟩:St)) (fun n p=>RG x11.Calls (fun tl nn=>M77_L2 F a1 k20 tl=some r) n p) (fun p h=>RG.zero h) (x11.Calls.length+1) 0 (RG.start h) (gr [0,1] rfl (hB rfl rfl rfl (hB rfl rfl rfl .nil)) rfl) (fun n n22 h=>?_)
     refine rn 5 rfl ?_
     refine spL rfl (fun hb23=>?_) (fun hb23=>?_)
     ·obtain⟨x24,tl,hx25,h,hk2⟩:=RG.t hA29 h hb23
      unfold M77_L2 at h
      refine rn 5 rfl ?_
      refine ixh hx25 rfl rfl ?_
      refine rn 8 rfl ?_
      refine cl h rfl rfl rfl (W109 _ _ _) rfl (fun y26 hx27 h=>?_)
      refine rn 7 rfl ?_
      refine spC h rfl (fun hb28 h=>?_) (fun hb28 h=>?_)
      ·refine rn 5 rfl ?_
       exact rt h rfl
      refine rn 6 rfl ?_
      exact jX (w64 (n22+1)) (hk2 _ h) (gr [0,1] rfl (hB rfl rfl rfl (hB rfl rfl rfl .nil)) rfl)
     replace h:=RG.f h hb23
     unfold M77_L2 at h
     refine rn 1 rfl ?_
     exact jX () h (gr [0,1] rfl (hB rfl rfl rfl (hB rfl rfl rfl .nil)) rfl)
    intro _ h
    refine rn 7 rfl ?_
    refine cl h rfl rfl rfl (W78 _ _ _ _) rfl (fun y30 hx31 h=>?_)
    refine rn 7 rfl ?_
    refine spC h rfl (fun hb32 h=>?_) (fun hb32 h=>?_)
    ·refine rn 5 rfl ?_
     exact rt h rfl
    refine rn 2 rfl ?_
    exact jX x11.Name h (gr [0] rfl (hB rfl rfl rfl .nil) rfl)
   intro s10 h
   refine rn 4 rfl ?_
   exact jX (s10,(w64 (n7+1))) (hk1 _ h) (gr [0] rfl (hB rfl rfl rfl .nil) rfl)
  replace h:=RG.f h hb8
  unfold M77_L1 at h
  refine rn 1 rfl ?_
  exact jX () h (g0 rfl rfl)
 intro _ h
 refine rn 4 rfl ?_
 exact rt h rfl
theorem W53(F:Nat)(a1:Treach_checker)(a2:TGraph)(r:Int)(h:M53 F a1 a2=some r):Pure Tryz.prog 53 [(V.agg (encTreach_checker a1)),(V.agg (encTGraph a2))] (iV r):=by
 refine pin (fun r=>(iV r)) r rfl Tryz.func53 rfl rfl rfl rfl rfl (fun w0 m0 hg=>?_)
 unfold M53 at h
 refine rn 11 rfl ?_
 refine ln rfl rfl ?_
 refine rn 2 rfl ?_
 refine spO 12 h rfl (fun hb3 h=>?_) (fun hb3 h=>?_)
 ·refine rn 17 rfl ?_
  exact rt h rfl
 refine rn 2 rfl ?_
 refine ln rfl rfl ?_
 refine rn 3 rfl ?_
 refine spO 18 h rfl (fun hb4 h=>?_) (fun hb4 h=>?_)
 ·refine rn 11 rfl ?_
  exact rt h rfl
 refine rn 2 rfl ?_
 refine ln rfl rfl ?_
 refine rn 3 rfl ?_
 refine spC h rfl (fun hb5 h=>?_) (fun hb5 h=>?_)
 ·refine rn 4 rfl ?_
  exact rt h rfl
 refine rn 7 rfl ?_
 refine cl h rfl rfl rfl (W75 _ _ _) rfl (fun y6 hx7 h=>?_)
 refine rn 7 rfl ?_
 refine spC h rfl (fun hb8 h=>?_) (fun hb8 h=>?_)
 ·refine rn 5 rfl ?_
  exact rt h rfl
 refine rn 7 rfl ?_
 refine cl h rfl rfl rfl (W76 _ _ _) rfl (fun y9 hx10 h=>?_)
 refine rn 7 rfl ?_
 refine spC h rfl (fun hb11 h=>?_) (fun hb11 h=>?_)
 ·refine rn 5 rfl ?_
  exact rt h rfl
 refine rn 7 rfl ?_
 refine cl h rfl rfl rfl (W77 _ _ _) rfl (fun y12 hx13 h=>?_)
 refine rn 7 rfl ?_
 refine spC h rfl (fun hb14 h=>?_) (fun hb14 h=>?_)
 ·refine rn 5 rfl ?_
  exact rt h rfl
 refine rn 8 rfl ?_
 refine cl h rfl rfl rfl (W78 _ _ _ _) rfl (fun y15 hx16 h=>?_)
 refine rn 2 rfl ?_
 exact rt h rfl
theorem W20(F:Nat)(a1:TGraph)(r:Int)(h:M20 F a1=some r):Pure Tryz.prog 20 [(V.agg (encTGraph a1))] (iV r):=by
 refine pin (fun r=>(iV r)) r rfl Tryz.func20 rfl rfl rfl rfl rfl (fun w0 m0 hg=>?_)
 unfold M20 at h
 obtain⟨y2,hx3,h⟩:=bind_some h
 obtain⟨y4,hx5,h⟩:=bind_some h
 refine rn 6 rfl ?_
 refine dr mixed (vs 1 rfl (cD rfl rfl rfl rfl (W52 _ _ _ _ hx3) rfl (vs 1 rfl (cD rfl rfl rfl rfl (W53 _ _ _ _ hx5) rfl (vs 1 rfl .nil))))) (by kernel_rfl) ?_
 exact rt h rfl
theorem W66(F:Nat)(a1:(List (List UInt8)))(r:Int)(h:M66 F a1=some r):Pure Tryz.prog 66 [(V.lst 1 (a1.map encS))] (iV r):=by
 refine pin (fun r=>(iV r)) r rfl Tryz.func66 rfl rfl rfl rfl rfl (fun w0 m0 hg=>?_)
 unfold M66 at h
 refine rn 8 rfl ?_
 refine ln rfl rfl ?_
 refine rn 2 rfl ?_
 refine spC h rfl (fun hb2 h=>?_) (fun hb2 h=>?_)
 ·refine rn 4 rfl ?_
  exact rt h rfl
 refine rn 9 rfl ?_
 refine ln rfl rfl ?_
 refine rn 2 rfl ?_
 refine jK h (fun _:Unit=>(⟨[],[],0⟩:St)) (fun k3 (_:Unit)=>k3=some r) (fun k3 h=>?_) ?_
 ·refine rn 1 rfl ?_
  refine wl (A:=a1) 0 rfl (fun hA14=>?_)
  refine lC (fun(p:(List UInt8)×Int)=>(⟨[(3,(sV (p.1))),(10,(V.lst 1 (a1.map encS))),(11,(iV ((a1.length:Nat):Int))),(12,(iV (p.2)))],[],0⟩:St)) (fun n p=>RG a1 (fun tl nn=>M66_L1 F k3 tl nn p.1=some r) n p.2) (fun p h=>RG.zero h) (a1.length+1) (([]:List UInt8),0) (RG.start h) (g0 rfl rfl) (fun n p h=>?_)
  obtain⟨s6,n7⟩:=p
  refine rn 5 rfl ?_
  refine spL rfl (fun hb8=>?_) (fun hb8=>?_)
  ·obtain⟨x9,tl,hx10,h,hk1⟩:=RG.t hA14 h hb8
   unfold M66_L1 at h
   refine rn 6 rfl ?_
   refine ixh hx10 rfl rfl ?_
   refine rn 11 rfl ?_
   refine cl h rfl rfl rfl (W87 _ _ _ _) rfl (fun y11 hx12 h=>?_)
   refine rn 7 rfl ?_
   refine spC h rfl (fun hb13 h=>?_) (fun hb13 h=>?_)
   ·refine rn 5 rfl ?_
    exact rt h rfl
   refine rn 10 rfl ?_
   exact jX (x9,(w64 (n7+1))) (hk1 _ h) (g0 rfl rfl)
  replace h:=RG.f h hb8
  unfold M66_L1 at h
  refine rn 1 rfl ?_
  exact jX () h (g0 rfl rfl)
 intro _ h
 refine rn 4 rfl ?_
 exact rt h rfl
theorem W79(F:Nat)(a1:(List UInt8))(r:Bool)(h:M79 F a1=some r):Pure Tryz.prog 79 [(sV a1)] (bV r):=by
 refine pin (fun r=>(bV r)) r rfl Tryz.func79 rfl rfl rfl rfl rfl (fun w0 m0 hg=>?_)
 unfold M79 at h
 refine rn 11 rfl ?_
 exact rt h rfl
theorem W56(F:Nat)(a1:(List UInt8))(a2:(List UInt8))(r:Int)(h:M56 F a1 a2=some r):Pure Tryz.prog 56 [(sV a1),(sV a2)] (iV r):=by
 refine pin (fun r=>(iV r)) r rfl Tryz.func56 rfl rfl rfl rfl rfl (fun w0 m0 hg=>?_)
 unfold M56 at h
 refine rn 7 rfl ?_
 refine cl h rfl rfl rfl (W79 _ _) rfl (fun y3 hx4 h=>?_)
 refine rn 5 rfl ?_
 refine cl h rfl rfl rfl (W79 _ _) rfl (fun y5 hx6 h=>?_)
 refine rn 7 rfl ?_
 refine spC h rfl (fun hb7 h=>?_) (fun hb7 h=>?_)
 ·refine rn 5 rfl ?_
  refine spC h rfl (fun hb8 h=>?_) (fun hb8 h=>?_)
  ·refine rn 4 rfl ?_
   exact rt h rfl
  refine rn 5 rfl ?_
  exact rt h rfl
 refine rn 6 rfl ?_
 refine spC h rfl (fun hb9 h=>?_) (fun hb9 h=>?_)
 ·refine rn 4 rfl ?_
  exact rt h rfl
 refine rn 8 rfl ?_
 refine spC h rfl (fun hb10 h=>?_) (fun hb10 h=>?_)
 ·refine rn 4 rfl ?_
  exact rt h rfl
 refine rn 8 rfl ?_
 refine spC h rfl (fun hb11 h=>?_) (fun hb11 h=>?_)
 ·refine rn 4 rfl ?_
  exact rt h rfl
 refine rn 5 rfl ?_
 exact rt h rfl
theorem W96(F:Nat)(a1:TMethod)(a2:(List UInt8))(r:Int)(h:M96 F a1 a2=some r):Pure Tryz.prog 96 [(V.agg (encTMethod a1)),(sV a2)] (iV r):=by
 refine pin (fun r=>(iV r)) r rfl Tryz.func96 rfl rfl rfl rfl rfl (fun w0 m0 hg=>?_)
 unfold M96 at h
 refine rn 10 rfl ?_
 refine cl h rfl rfl rfl (W56 _ _ _) rfl (fun y3 hx4 h=>?_)
 refine rn 2 rfl ?_
 exact rt h rfl
theorem W95(F:Nat)(a1:(List TMethod))(a2:(List UInt8))(r:(Int×Bool))(h:M95 F a1 a2=some r):Pure Tryz.prog 95 [(V.lst 2 (a1.map encTMethod)),(sV a2),(V.fn (.func 96) [] [])] (V.tup [(iV (r.1)),(bV (r.2))]):=by
 refine pin (fun r=>(V.tup [(iV (r.1)),(bV (r.2))])) r rfl Tryz.func95 rfl rfl rfl rfl rfl (fun w0 m0 hg=>?_)
 unfold M95 at h
 refine rn 8 rfl ?_
 refine ln rfl rfl ?_
 refine rn 9 rfl ?_
 refine jK h (fun(p:Int)=>(⟨[(0,(V.lst 2 (a1.map encTMethod))),(1,(sV a2)),(2,(V.fn (.func 96) [] [])),(8,(iV ((a1.length:Nat):Int))),(9,(iV p))],[],0⟩:St)) (fun k3 p=>k3 p=some r) (fun k3 h=>?_) ?_
 ·refine rn 1 rfl ?_
  refine lC (fun(p:Int×Int)=>(⟨[(0,(V.lst 2 (a1.map encTMethod))),(1,(sV a2)),(2,(V.fn (.func 96) [] [])),(8,(iV ((a1.length:Nat):Int))),(9,(iV (p.1))),(10,(iV (p.2)))],[],0⟩:St)) (fun n p=>M95_L1 F a1 a2 k3 n p.1 p.2=some r) (fun p h=>by simp[M95_L1] at h) F (0,((a1.length:Nat):Int)) h (g0 rfl rfl) (fun n p h=>?_)
  obtain⟨n7,n8⟩:=p
  unfold M95_L1 at h
  refine rn 7 rfl ?_
  refine spC h rfl (fun hb9 h=>?_) (fun hb9 h=>?_)
  ·refine rn 17 rfl ?_
   refine ixl h rfl rfl (fun x10 hx11 h=>?_)
   refine rn 2 rfl ?_
   refine cl h rfl rfl rfl (W96 _ _ _) rfl (fun y12 hx13 h=>?_)
   refine rn 2 rfl ?_
   refine jK h (fun(p:Int×Int)=>(⟨[(0,(V.lst 2 (a1.map encTMethod))),(1,(sV a2)),(2,(V.fn (.func 96) [] [])),(8,(iV ((a1.length:Nat):Int))),(9,(iV (p.1))),(10,(iV (p.2)))],[],0⟩:St)) (fun k14 p=>k14 p.1 p.2=some r) (fun k14 h=>?_) ?_
   ·refine spC h rfl (fun hb17 h=>?_) (fun hb17 h=>?_)
    ·refine rn 5 rfl ?_
     exact jX ((w64 ((w64 (Int.fdiv (IntKind.wrap .u64 (w64 (n7+n8))) (2 ^ (min (Int.toNat 1) (IntKind.bits .u64)))))+1)),n8) h (g0 rfl rfl)
    refine rn 4 rfl ?_
    exact jX (n7,(w64 (Int.fdiv (IntKind.wrap .u64 (w64 (n7+n8))) (2 ^ (min (Int.toNat 1) (IntKind.bits .u64)))))) h (g0 rfl rfl)
   rintro⟨n15,n16⟩ h
   refine rn 1 rfl ?_
   exact jX (n15,n16) h (g0 rfl rfl)
  refine rn 1 rfl ?_
  exact jX n7 h (g0 rfl rfl)
 intro n4 h
 refine rn 7 rfl ?_
 refine spO 39 h rfl (fun hb18 h=>?_) (fun hb18 h=>?_)
 ·refine rn 3 rfl ?_
  refine ixl h rfl rfl (fun x19 hx20 h=>?_)
  refine rn 2 rfl ?_
  refine cl h rfl rfl rfl (W96 _ _ _) rfl (fun y21 hx22 h=>?_)
  refine rn 5 rfl ?_
  exact rt h rfl
 refine rn 12 rfl ?_
 exact rt h rfl
theorem W72(F:Nat)(a1:TType)(a2:(List UInt8))(r:((List UInt8)×Bool))(h:M72 F a1 a2=some r):Pure Tryz.prog 72 [(V.agg (encTType a1)),(sV a2)] (V.tup [(sV (r.1)),(bV (r.2))]):=by
 refine pin (fun r=>(V.tup [(sV (r.1)),(bV (r.2))])) r rfl Tryz.func72 rfl rfl rfl rfl rfl (fun w0 m0 hg=>?_)
 unfold M72 at h
 refine rn 11 rfl ?_
 refine cl h rfl rfl rfl (W95 _ _ _) rfl (fun y3 hx4 h=>?_)
 refine rn 12 rfl ?_
 refine spC h rfl (fun hb5 h=>?_) (fun hb5 h=>?_)
 ·refine rn 5 rfl ?_
  exact rt h rfl
 refine rn 6 rfl ?_
 refine ixl h rfl rfl (fun x6 hx7 h=>?_)
 refine rn 5 rfl ?_
 exact rt h rfl
theorem W54(F:Nat)(a1:TType)(a2:TIface)(r:Bool)(h:M54 F a1 a2=some r):Pure Tryz.prog 54 [(V.agg (encTType a1)),(V.agg (encTIface a2))] (bV r):=by
 refine pin (fun r=>(bV r)) r rfl Tryz.func54 rfl rfl rfl rfl rfl (fun w0 m0 hg=>?_)
 unfold M54 at h
 refine rn 11 rfl ?_
 refine ln rfl rfl ?_
 refine rn 2 rfl ?_
 refine jK h (fun _:Unit=>(⟨[],[],0⟩:St)) (fun k3 (_:Unit)=>k3=some r) (fun k3 h=>?_) ?_
 ·refine rn 1 rfl ?_
  refine wl (A:=a2.Methods) 10 rfl (fun hA12=>?_)
  refine lC (fun(p:Int)=>(⟨[(2,(V.ptr 0 2 0 0)),(10,(V.lst 1 (a2.Methods.map encS))),(11,(iV ((a2.Methods.length:Nat):Int))),(12,(iV p))],[(0,(Ob.arr 86 2 [(encTType a1)]))],1⟩:St)) (fun n p=>RG a2.Methods (fun tl nn=>M54_L1 F a1 k3 tl=some r) n p) (fun p h=>RG.zero h) (a2.Methods.length+1) 0 (RG.start h) (gr [0] rfl (hB rfl rfl rfl .nil) rfl) (fun n n5 h=>?_)
  refine rn 5 rfl ?_
  refine spL rfl (fun hb6=>?_) (fun hb6=>?_)
  ·obtain⟨x7,tl,hx8,h,hk1⟩:=RG.t hA12 h hb6
   unfold M54_L1 at h
   refine rn 5 rfl ?_
   refine ixh hx8 rfl rfl ?_
   refine rn 7 rfl ?_
   refine cl h rfl rfl rfl (W72 _ _ _) rfl (fun y9 hx10 h=>?_)
   refine rn 11 rfl ?_
   refine spC h rfl (fun hb11 h=>?_) (fun hb11 h=>?_)
   ·refine rn 4 rfl ?_
    exact rt h rfl
   refine rn 6 rfl ?_
   exact jX (w64 (n5+1)) (hk1 _ h) (gr [0] rfl (hB rfl rfl rfl .nil) rfl)
  replace h:=RG.f h hb6
  unfold M54_L1 at h
  refine rn 1 rfl ?_
  exact jX () h (g0 rfl rfl)
 intro _ h
 refine rn 4 rfl ?_
 exact rt h rfl
theorem W21(F:Nat)(a1:TGraph)(a2:Int)(a3:(List (List UInt8)))(r:(Option Treach_world))(h:M21 F a1 a2 a3=some r):Pure Tryz.prog 21 [(V.agg (encTGraph a1)),(iV a2),(V.lst 1 (a3.map encS))] (optr encTreach_world r):=by
 refine pin (fun r=>(optr encTreach_world r)) r rfl Tryz.func21 rfl rfl rfl rfl rfl (fun w0 m0 hg=>?_)
 unfold M21 at h
 refine rn 12 rfl ?_
 refine aops_insert (es:=([]:List ((List UInt8)×Bool)).map encM9_4) ((mput ([]:List ((List UInt8)×Bool)) ([]:List UInt8) true).map encM9_4) tMap63 tKey9 wants_none rfl rfl (.con rfl) ⟨_,rfl⟩ encM9_4_good rfl (encM9_4_puts ([]:List ((List UInt8)×Bool)) ([]:List UInt8) true) ?_
 refine fo (rn 12 rfl ?_)
 refine ln rfl rfl ?_
 refine rn 2 rfl ?_
 refine jK h (fun(p:(List ((List UInt8)×Int)))=>(⟨[(2,(V.lst 1 (a3.map encS))),(3,(V.ptr 0 4 0 0)),(7,(V.ptr 1 9 0 0))],[(0,(Ob.arr 27 4 [(encTGraph a1)])),(1,(Ob.arr 65 9 [[(V.lst 2 (a1.Ifaces.map encTIface)),(V.lst 2 (a1.Types.map encTType)),(V.lst 4 (a1.Funcs.map encTFunc)),(V.lst 1 (a1.Entries.map encS)),(V.map 2),(V.map 3),(V.map 4),(V.map 5),(bV (a2==2))]])),(2,(Ob.map (p.map encM9_3))),(3,(Ob.map (([]:List ((List UInt8)×Int)).map encM9_3))),(4,(Ob.map (([]:List ((List UInt8)×(List Int))).map encM9_248))),(5,(Ob.map ((mput ([]:List ((List UInt8)×Bool)) ([]:List UInt8) true).map encM9_4)))],6⟩:St)) (fun k4 p=>k4 p=some r) (fun k4 h=>?_) ?_
 ·refine rn 1 rfl ?_
  refine wl (A:=a1.Funcs) 29 rfl (fun hA13=>?_)
  refine lC (fun(p:Int×(List ((List UInt8)×Int)))=>(⟨[(2,(V.lst 1 (a3.map encS))),(3,(V.ptr 0 4 0 0)),(7,(V.ptr 1 9 0 0)),(29,(V.lst 4 (a1.Funcs.map encTFunc))),(30,(iV ((a1.Funcs.length:Nat):Int))),(31,(iV (p.1)))],[(0,(Ob.arr 27 4 [(encTGraph a1)])),(1,(Ob.arr 65 9 [[(V.lst 2 (a1.Ifaces.map encTIface)),(V.lst 2 (a1.Types.map encTType)),(V.lst 4 (a1.Funcs.map encTFunc)),(V.lst 1 (a1.Entries.map encS)),(V.map 2),(V.map 3),(V.map 4),(V.map 5),(bV (a2==2))]])),(2,(Ob.map ((p.2).map encM9_3))),(3,(Ob.map (([]:List ((List UInt8)×Int)).map encM9_3))),(4,(Ob.map (([]:List ((List UInt8)×(List Int))).map encM9_248))),(5,(Ob.map ((mput ([]:List ((List UInt8)×Bool)) ([]:List UInt8) true).map encM9_4)))],6⟩:St)) (fun n p=>RG a1.Funcs (fun tl nn=>M21_L1 F k4 tl nn p.2=some r) n p.1) (fun p h=>RG.zero h) (a1.Funcs.length+1) (0,([]:List ((List UInt8)×Int))) (RG.start h) (gr [0,5,1,2,3,4] rfl (hB rfl rfl rfl (hB rfl rfl rfl (hM rfl rfl (hM rfl rfl (hM rfl rfl (hM rfl rfl .nil)))))) rfl) (fun n p h=>?_)
  obtain⟨n8,m9⟩:=p
  refine rn 5 rfl ?_
  refine spL rfl (fun hb10=>?_) (fun hb10=>?_)
  ·obtain⟨x11,tl,hx12,h,hk1⟩:=RG.t hA13 h hb10
   unfold M21_L1 at h
   refine rn 6 rfl ?_
   refine ixh hx12 rfl rfl ?_
   refine rn 5 rfl ?_
   refine dr mixed (vs 7 rfl (xD (OD.mk [(39,(V.map 2)),(41,(sV x11.Name)),(42,(iV n8))] [(2,(Ob.map (m9.map encM9_3)))] [] [(2,(Ob.map ((mput m9 x11.Name n8).map encM9_3)))]) ⟨⟨rfl,rfl,rfl,trivial⟩,⟨rfl,trivial⟩⟩ (by exact fun S hn h hh=>aops_mapUpdate (es:=m9.map encM9_3) ((mput m9 x11.Name n8).map encM9_3) tMap61 tKey9 wants_none h.1 hh.1 (.con h.2.1) ⟨_,rfl⟩ encM9_3_good h.2.2.1 (encM9_3_puts m9 x11.Name n8) (aops_nil ⟨rfl,rfl⟩)) rfl .nil)) (by kernel_rfl) ?_
   refine rn 5 rfl ?_
   exact jX ((w64 (n8+1)),(mput m9 x11.Name n8)) (hk1 _ h) (gr [0,1,2,3,4,5] rfl (hB rfl rfl rfl (hB rfl rfl rfl (hM rfl rfl (hM rfl rfl (hM rfl rfl (hM rfl rfl .nil)))))) rfl)
  replace h:=RG.f h hb10
  unfold M21_L1 at h
  refine rn 1 rfl ?_
  exact jX m9 h (gr [0,1,2,3,4,5] rfl (hB rfl rfl rfl (hB rfl rfl rfl (hM rfl rfl (hM rfl rfl (hM rfl rfl (hM rfl rfl .nil)))))) rfl)
 intro m5 h
 refine rn 5 rfl ?_
 refine ln rfl rfl ?_
 refine rn 2 rfl ?_
 refine jK h (fun(p:(List ((List UInt8)×Int)))=>(⟨[(2,(V.lst 1 (a3.map encS))),(3,(V.ptr 0 4 0 0)),(7,(V.ptr 1 9 0 0))],[(0,(Ob.arr 27 4 [(encTGraph a1)])),(1,(Ob.arr 65 9 [[(V.lst 2 (a1.Ifaces.map encTIface)),(V.lst 2 (a1.Types.map encTType)),(V.lst 4 (a1.Funcs.map encTFunc)),(V.lst 1 (a1.Entries.map encS)),(V.map 2),(V.map 3),(V.map 4),(V.map 5),(bV (a2==2))]])),(2,(Ob.map (m5.map encM9_3))),(3,(Ob.map (p.map encM9_3))),(4,(Ob.map (([]:List ((List UInt8)×(List Int))).map encM9_248))),(5,(Ob.map ((mput ([]:List ((List UInt8)×Bool)) ([]:List UInt8) true).map encM9_4)))],6⟩:St)) (fun k14 p=>k14 p=some r) (fun k14 h=>?_) ?_
 ·refine rn 1 rfl ?_
  refine wl (A:=a1.Types) 45 rfl (fun hA23=>?_)
  refine lC (fun(p:Int×(List ((List UInt8)×Int)))=>(⟨[(2,(V.lst 1 (a3.map encS))),(3,(V.ptr 0 4 0 0)),(7,(V.ptr 1 9 0 0)),(45,(V.lst 2 (a1.Types.map encTType))),(46,(iV ((a1.Types.length:Nat):Int))),(47,(iV (p.1)))],[(0,(Ob.arr 27 4 [(encTGraph a1)])),(1,(Ob.arr 65 9 [[(V.lst 2 (a1.Ifaces.map encTIface)),(V.lst 2 (a1.Types.map encTType)),(V.lst 4 (a1.Funcs.map encTFunc)),(V.lst 1 (a1.Entries.map encS)),(V.map 2),(V.map 3),(V.map 4),(V.map 5),(bV (a2==2))]])),(2,(Ob.map (m5.map encM9_3))),(3,(Ob.map ((p.2).map encM9_3))),(4,(Ob.map (([]:List ((List UInt8)×(List Int))).map encM9_248))),(5,(Ob.map ((mput ([]:List ((List UInt8)×Bool)) ([]:List UInt8) true).map encM9_4)))],6⟩:St)) (fun n p=>RG a1.Types (fun tl nn=>M21_L2 F k14 tl nn p.2=some r) n p.1) (fun p h=>RG.zero h) (a1.Types.length+1) (0,([]:List ((List UInt8)×Int))) (RG.start h) (gr [0,1,2,3,4,5] rfl (hB rfl rfl rfl (hB rfl rfl rfl (hM rfl rfl (hM rfl rfl (hM rfl rfl (hM rfl rfl .nil)))))) rfl) (fun n p h=>?_)
  obtain⟨n18,m19⟩:=p
  refine rn 5 rfl ?_
  refine spL rfl (fun hb20=>?_) (fun hb20=>?_)
  ·obtain⟨x21,tl,hx22,h,hk2⟩:=RG.t hA23 h hb20
   unfold M21_L2 at h
   refine rn 6 rfl ?_
   refine ixh hx22 rfl rfl ?_
   refine rn 5 rfl ?_
   refine dr mixed (vs 7 rfl (xD (OD.mk [(55,(V.map 3)),(57,(sV x21.Name)),(58,(iV n18))] [(3,(Ob.map (m19.map encM9_3)))] [] [(3,(Ob.map ((mput m19 x21.Name n18).map encM9_3)))]) ⟨⟨rfl,rfl,rfl,trivial⟩,⟨rfl,trivial⟩⟩ (by exact fun S hn h hh=>aops_mapUpdate (es:=m19.map encM9_3) ((mput m19 x21.Name n18).map encM9_3) tMap61 tKey9 wants_none h.1 hh.1 (.con h.2.1) ⟨_,rfl⟩ encM9_3_good h.2.2.1 (encM9_3_puts m19 x21.Name n18) (aops_nil ⟨rfl,rfl⟩)) rfl .nil)) (by kernel_rfl) ?_
   refine rn 5 rfl ?_
   exact jX ((w64 (n18+1)),(mput m19 x21.Name n18)) (hk2 _ h) (gr [0,1,2,3,4,5] rfl (hB rfl rfl rfl (hB rfl rfl rfl (hM rfl rfl (hM rfl rfl (hM rfl rfl (hM rfl rfl .nil)))))) rfl)
  replace h:=RG.f h hb20
  unfold M21_L2 at h
  refine rn 1 rfl ?_
  exact jX m19 h (gr [0,1,2,3,4,5] rfl (hB rfl rfl rfl (hB rfl rfl rfl (hM rfl rfl (hM rfl rfl (hM rfl rfl (hM rfl rfl .nil)))))) rfl)
 intro m15 h
 refine rn 5 rfl ?_
 refine ln rfl rfl ?_
 refine rn 2 rfl ?_
 refine jK h (fun(p:(List ((List UInt8)×(List Int))))=>(⟨[(2,(V.lst 1 (a3.map encS))),(7,(V.ptr 0 9 0 0))],[(0,(Ob.arr 65 9 [[(V.lst 2 (a1.Ifaces.map encTIface)),(V.lst 2 (a1.Types.map encTType)),(V.lst 4 (a1.Funcs.map encTFunc)),(V.lst 1 (a1.Entries.map encS)),(V.map 1),(V.map 2),(V.map 3),(V.map 4),(bV (a2==2))]])),(1,(Ob.map (m5.map encM9_3))),(2,(Ob.map (m15.map encM9_3))),(3,(Ob.map (p.map encM9_248))),(4,(Ob.map ((mput ([]:List ((List UInt8)×Bool)) ([]:List UInt8) true).map encM9_4)))],5⟩:St)) (fun k24 p=>k24 p=some r) (fun k24 h=>?_) ?_
 ·refine rn 1 rfl ?_
  refine wl (A:=a1.Ifaces) 61 rfl (fun hA51=>?_)
  refine lC (fun(p:Int×(List ((List UInt8)×(List Int))))=>(⟨[(2,(V.lst 1 (a3.map encS))),(3,(V.ptr 0 4 0 0)),(7,(V.ptr 1 9 0 0)),(61,(V.lst 2 (a1.Ifaces.map encTIface))),(62,(iV ((a1.Ifaces.length:Nat):Int))),(63,(iV (p.1)))],[(0,(Ob.arr 27 4 [(encTGraph a1)])),(1,(Ob.arr 65 9 [[(V.lst 2 (a1.Ifaces.map encTIface)),(V.lst 2 (a1.Types.map encTType)),(V.lst 4 (a1.Funcs.map encTFunc)),(V.lst 1 (a1.Entries.map encS)),(V.map 2),(V.map 3),(V.map 4),(V.map 5),(bV (a2==2))]])),(2,(Ob.map (m5.map encM9_3))),(3,(Ob.map (m15.map encM9_3))),(4,(Ob.map ((p.2).map encM9_248))),(5,(Ob.map ((mput ([]:List ((List UInt8)×Bool)) ([]:List UInt8) true).map encM9_4)))],6⟩:St)) (fun n p=>RG a1.Ifaces (fun tl nn=>M21_L3 F a1 k24 tl p.2=some r) n p.1) (fun p h=>RG.zero h) (a1.Ifaces.length+1) (0,([]:List ((List UInt8)×(List Int)))) (RG.start h) (gr [0,1,2,3,4,5] rfl (hB rfl rfl rfl (hB rfl rfl rfl (hM rfl rfl (hM rfl rfl (hM rfl rfl (hM rfl rfl .nil)))))) rfl) (fun n p h=>?_)
  obtain⟨n28,m29⟩:=p
  refine rn 5 rfl ?_
  refine spL rfl (fun hb30=>?_) (fun hb30=>?_)
  ·obtain⟨x33,tl,hx34,h,hk3⟩:=RG.t hA51 h hb30
   unfold M21_L3 at h
   refine rn 2 rfl ?_
   refine jK h (fun(p:(List ((List UInt8)×(List Int))))=>(⟨[(2,(V.lst 1 (a3.map encS))),(3,(V.ptr 0 4 0 0)),(7,(V.ptr 1 9 0 0)),(61,(V.lst 2 (a1.Ifaces.map encTIface))),(62,(iV ((a1.Ifaces.length:Nat):Int))),(63,(iV n28))],[(0,(Ob.arr 27 4 [(encTGraph a1)])),(1,(Ob.arr 65 9 [[(V.lst 2 (a1.Ifaces.map encTIface)),(V.lst 2 (a1.Types.map encTType)),(V.lst 4 (a1.Funcs.map encTFunc)),(V.lst 1 (a1.Entries.map encS)),(V.map 2),(V.map 3),(V.map 4),(V.map 5),(bV (a2==2))]])),(2,(Ob.map (m5.map encM9_3))),(3,(Ob.map (m15.map encM9_3))),(4,(Ob.map (p.map encM9_248))),(5,(Ob.map ((mput ([]:List ((List UInt8)×Bool)) ([]:List UInt8) true).map encM9_4)))],6⟩:St)) (fun k31 p=>k31 p=some r) (fun k31 h=>?_) ?_
   ·refine rn 3 rfl ?_
    refine ixh hx34 rfl rfl ?_
    refine rn 8 rfl ?_
    refine ln rfl rfl ?_
    refine rn 2 rfl ?_
    refine jK h (fun(p:(List ((List UInt8)×(List Int))))=>(⟨[(2,(V.lst 1 (a3.map encS))),(3,(V.ptr 0 4 0 0)),(7,(V.ptr 1 9 0 0)),(61,(V.lst 2 (a1.Ifaces.map encTIface))),(62,(iV ((a1.Ifaces.length:Nat):Int))),(63,(iV n28))],[(0,(Ob.arr 27 4 [(encTGraph a1)])),(1,(Ob.arr 65 9 [[(V.lst 2 (a1.Ifaces.map encTIface)),(V.lst 2 (a1.Types.map encTType)),(V.lst 4 (a1.Funcs.map encTFunc)),(V.lst 1 (a1.Entries.map encS)),(V.map 2),(V.map 3),(V.map 4),(V.map 5),(bV (a2==2))]])),(2,(Ob.map (m5.map encM9_3))),(3,(Ob.map (m15.map encM9_3))),(4,(Ob.map (p.map encM9_248))),(5,(Ob.map ((mput ([]:List ((List UInt8)×Bool)) ([]:List UInt8) true).map encM9_4)))],6⟩:St)) (fun k35 p=>k35 p=some r) (fun k35 h=>?_) ?_
    ·refine rn 1 rfl ?_
     refine wl (A:=a1.Types) 68 rfl (fun hA50=>?_)
     refine lC (fun(p:Int×(List ((List UInt8)×(List Int))))=>(⟨[(2,(V.lst 1 (a3.map encS))),(3,(V.ptr 0 4 0 0)),(7,(V.ptr 1 9 0 0)),(13,(V.ptr 2 2 0 0)),(61,(V.lst 2 (a1.Ifaces.map encTIface))),(62,(iV ((a1.Ifaces.length:Nat):Int))),(63,(iV n28)),(68,(V.lst 2 (a1.Types.map encTType))),(69,(iV ((a1.Types.length:Nat):Int))),(70,(iV (p.1)))],[(0,(Ob.arr 27 4 [(encTGraph a1)])),(1,(Ob.arr 65 9 [[(V.lst 2 (a1.Ifaces.map encTIface)),(V.lst 2 (a1.Types.map encTType)),(V.lst 4 (a1.Funcs.map encTFunc)),(V.lst 1 (a1.Entries.map encS)),(V.map 3),(V.map 4),(V.map 5),(V.map 6),(bV (a2==2))]])),(2,(Ob.arr 80 2 [(encTIface x33)])),(3,(Ob.map (m5.map encM9_3))),(4,(Ob.map (m15.map encM9_3))),(5,(Ob.map ((p.2).map encM9_248))),(6,(Ob.map ((mput ([]:List ((List UInt8)×Bool)) ([]:List UInt8) true).map encM9_4)))],7⟩:St)) (fun n p=>RG a1.Types (fun tl nn=>M21_L4 F x33 k35 tl nn p.2=some r) n p.1) (fun p h=>RG.zero h) (a1.Types.length+1) (0,m29) (RG.start h) (gr [0,1,6,2,3,4,5] rfl (hB rfl rfl rfl (hB rfl rfl rfl (hB rfl rfl rfl (hM rfl rfl (hM rfl rfl (hM rfl rfl (hM rfl rfl .nil))))))) rfl) (fun n p h=>?_)
     obtain⟨n39,m40⟩:=p
     refine rn 5 rfl ?_
     refine spL rfl (fun hb41=>?_) (fun hb41=>?_)
     ·obtain⟨x42,tl,hx43,h,hk4⟩:=RG.t hA50 h hb41
      unfold M21_L4 at h
      refine rn 6 rfl ?_
      refine ixh hx43 rfl rfl ?_
      refine rn 9 rfl ?_
      refine cl h rfl rfl rfl (W54 _ _ _) rfl (fun y44 hx45 h=>?_)
      refine rn 1 rfl ?_
      refine jK h (fun(p:(List ((List UInt8)×(List Int))))=>(⟨[(2,(V.lst 1 (a3.map encS))),(3,(V.ptr 0 4 0 0)),(7,(V.ptr 1 9 0 0)),(13,(V.ptr 2 2 0 0)),(61,(V.lst 2 (a1.Ifaces.map encTIface))),(62,(iV ((a1.Ifaces.length:Nat):Int))),(63,(iV n28)),(68,(V.lst 2 (a1.Types.map encTType))),(69,(iV ((a1.Types.length:Nat):Int))),(70,(iV n39))],[(0,(Ob.arr 27 4 [(encTGraph a1)])),(1,(Ob.arr 65 9 [[(V.lst 2 (a1.Ifaces.map encTIface)),(V.lst 2 (a1.Types.map encTType)),(V.lst 4 (a1.Funcs.map encTFunc)),(V.lst 1 (a1.Entries.map encS)),(V.map 3),(V.map 4),(V.map 5),(V.map 6),(bV (a2==2))]])),(2,(Ob.arr 80 2 [(encTIface x33)])),(3,(Ob.map (m5.map encM9_3))),(4,(Ob.map (m15.map encM9_3))),(5,(Ob.map (p.map encM9_248))),(6,(Ob.map ((mput ([]:List ((List UInt8)×Bool)) ([]:List UInt8) true).map encM9_4)))],7⟩:St)) (fun k46 p=>k46 p=some r) (fun k46 h=>?_) ?_
      ·refine spC h rfl (fun hb48 h=>?_) (fun hb48 h=>?_)
       ·refine ck h (fun hc49 h=>?_)
        refine awp_ghost ghost_res ?_
        refine awp_ghost ghost_res ?_
        refine fa ?_
        refine dr mixed (vs 12 rfl (xD (OD.mk [(87,(V.map 5)),(89,(sV x33.Name))] [(5,(Ob.map (m40.map encM9_248))),(8,Ob.res)] [(90,(V.own 8 ((mget m40 x33.Name).getD []).length))] [(5,(Ob.map (holeM encM9_248 8 x33.Name m40))),(8,(Ob.arr 3 1 (((mget m40 x33.Name).getD []).map encI_i64)))]) ⟨⟨rfl,rfl,trivial⟩,⟨rfl,rfl,trivial⟩⟩ (by exact fun S hn h hh=>aops_lookup_tk_at 8 rfl hn hh.2.1 (n:=((mget m40 x33.Name).getD []).length) tMap62 tKey9 tZo58 wants_none h.1 hh.1 (.con h.2.1) ⟨_,rfl⟩ encM9_248_good (lookT_enc encM9_248 (fun k=>str k) encI_i64 3 1 8 (fun _=>rfl) inj_str x33.Name m40) (by simp) rfl (aops_nil ⟨rfl,rfl⟩)) rfl (vs 1 rfl (xD (OD.mk [(91,(iV n39))] [] [(92,(V.lst 1 (([n39]:List Int).map encI_i64)))] []) ⟨⟨rfl,trivial⟩,trivial⟩ (by exact fun S hn h hh=>aops_buildSlice_imm [(0,(iV n39))] [[(iV n39)]] tEl58 tZ3 wants_none rfl rfl rfl rfl (evp_cons h.1 evp_nil) rfl rfl (by simp) (imms_rows (.cons (.cons (Imm.con _) .nil) .nil)) rfl (aops_nil ⟨rfl,rfl⟩)) rfl (xD (OD.mk [(90,(V.own 8 ((mget m40 x33.Name).getD []).length)),(92,(V.lst 1 (([n39]:List Int).map encI_i64)))] [(8,(Ob.arr 3 1 (((mget m40 x33.Name).getD []).map encI_i64))),(9,Ob.res)] [(93,(V.own 9 (((mget m40 x33.Name).getD [])++([n39]:List Int)).length))] [(9,(Ob.arr 3 1 ((((mget m40 x33.Name).getD [])++([n39]:List Int)).map encI_i64))),(8,Ob.dead)]) ⟨⟨rfl,rfl,trivial⟩,⟨rfl,rfl,trivial⟩⟩ (by exact fun S hn h hh=>aops_append_at 9 rfl hn hh.2.1 (([n39]:List Int).map encI_i64) ((((mget m40 x33.Name).getD [])++([n39]:List Int)).map encI_i64) tEl58 tIsSl58 rfl rfl wants_none h.1 hh.1 (by simp) h.2.1 (.lst (rows_one one_encI_i64)) (map_snoc encI_i64 ((mget m40 x33.Name).getD []) ([n39]:List Int)) (List.length_map ..) hc49 rfl (aops_nil ⟨rfl,rfl⟩)) rfl (xD (OD.mk [(81,(V.map 5)),(83,(sV x33.Name)),(93,(V.own 9 (((mget m40 x33.Name).getD [])++([n39]:List Int)).length))] [(5,(Ob.map (holeM encM9_248 8 x33.Name m40))),(9,(Ob.arr 3 1 ((((mget m40 x33.Name).getD [])++([n39]:List Int)).map encI_i64)))] [] [(5,(Ob.map ((mput m40 x33.Name (((mget m40 x33.Name).getD [])++([n39]:List Int))).map encM9_248))),(9,Ob.dead)]) ⟨⟨rfl,rfl,rfl,trivial⟩,⟨rfl,rfl,trivial⟩⟩ (by exact fun S hn h hh=>aops_mapUpdate_deepG (id2:=9) (o:=(V.own 9 (((mget m40 x33.Name).getD [])++([n39]:List Int)).length)) (dv:=(.dsl 3 1 ((((mget m40 x33.Name).getD [])++([n39]:List Int)).map encI_i64))) (ob:=(.arr 3 1 ((((mget m40 x33.Name).getD [])++([n39]:List Int)).map encI_i64))) ((mput m40 x33.Name (((mget m40 x33.Name).getD [])++([n39]:List Int))).map encM9_248) tMap62 tKey9 wants_none h.1 hh.1 (.con h.2.1) ⟨_,rfl⟩ (good_holeM (fun _=>⟨_,rfl⟩)) h.2.2.1 (by simp[ovl]) hh.2.1 rfl (okeep_rows imms_encI_i64 (((mget m40 x33.Name).getD [])++([n39]:List Int))) (puts_hole encM9_248 (fun k=>str k) encI_i64 3 1 8 (fun _=>rfl) inj_str x33.Name (((mget m40 x33.Name).getD [])++([n39]:List Int)) m40) (aops_nil ⟨rfl,rfl⟩)) rfl .nil)))))) (by kernel_rfl) ?_
        exact jX (mput m40 x33.Name (((mget m40 x33.Name).getD [])++([n39]:List Int))) h (gr [0,1,2,3,4,5,6] rfl (hB rfl rfl rfl (hB rfl rfl rfl (hB rfl rfl rfl (hM rfl rfl (hM rfl rfl (hM rfl rfl (hM rfl rfl .nil))))))) rfl)
       refine rn 1 rfl ?_
       exact jX m40 h (gr [0,1,2,3,4,5,6] rfl (hB rfl rfl rfl (hB rfl rfl rfl (hB rfl rfl rfl (hM rfl rfl (hM rfl rfl (hM rfl rfl (hM rfl rfl .nil))))))) rfl)
      intro m47 h
      refine rn 5 rfl ?_
      exact jX ((w64 (n39+1)),m47) (hk4 _ h) (gr [0,1,2,3,4,5,6] rfl (hB rfl rfl rfl (hB rfl rfl rfl (hB rfl rfl rfl (hM rfl rfl (hM rfl rfl (hM rfl rfl (hM rfl rfl .nil))))))) rfl)
     replace h:=RG.f h hb41
     unfold M21_L4 at h
     refine rn 1 rfl ?_
     exact jX m40 h (gr [0,1,3,4,5,6] rfl (hB rfl rfl rfl (hB rfl rfl rfl (hM rfl rfl (hM rfl rfl (hM rfl rfl (hM rfl rfl .nil)))))) rfl)
    intro m36 h
    refine rn 1 rfl ?_
    exact jX m36 h (gr [0,1,2,3,4,5] rfl (hB rfl rfl rfl (hB rfl rfl rfl (hM rfl rfl (hM rfl rfl (hM rfl rfl (hM rfl rfl .nil)))))) rfl)
   intro m32 h
   refine rn 4 rfl ?_
   exact jX ((w64 (n28+1)),m32) (hk3 _ h) (gr [0,1,2,3,4,5] rfl (hB rfl rfl rfl (hB rfl rfl rfl (hM rfl rfl (hM rfl rfl (hM rfl rfl (hM rfl rfl .nil)))))) rfl)
  replace h:=RG.f h hb30
  unfold M21_L3 at h
  refine rn 1 rfl ?_
  exact jX m29 h (gr [1,2,3,4,5] rfl (hB rfl rfl rfl (hM rfl rfl (hM rfl rfl (hM rfl rfl (hM rfl rfl .nil))))) rfl)
 intro m25 h
 refine rn 4 rfl ?_
 refine ln rfl rfl ?_
 refine rn 2 rfl ?_
 refine jK h (fun(p:(List ((List UInt8)×Bool)))=>(⟨[(7,(V.ptr 0 9 0 0))],[(0,(Ob.arr 65 9 [[(V.lst 2 (a1.Ifaces.map encTIface)),(V.lst 2 (a1.Types.map encTType)),(V.lst 4 (a1.Funcs.map encTFunc)),(V.lst 1 (a1.Entries.map encS)),(V.map 1),(V.map 2),(V.map 3),(V.map 4),(bV (a2==2))]])),(1,(Ob.map (m5.map encM9_3))),(2,(Ob.map (m15.map encM9_3))),(3,(Ob.map (m25.map encM9_248))),(4,(Ob.map (p.map encM9_4)))],5⟩:St)) (fun k52 p=>k52 p=some r) (fun k52 h=>?_) ?_
 ·refine rn 1 rfl ?_
  refine wl (A:=a3) 2 rfl (fun hA61=>?_)
  refine lC (fun(p:Int×(List ((List UInt8)×Bool)))=>(⟨[(7,(V.ptr 0 9 0 0)),(96,(V.lst 1 (a3.map encS))),(97,(iV ((a3.length:Nat):Int))),(98,(iV (p.1)))],[(0,(Ob.arr 65 9 [[(V.lst 2 (a1.Ifaces.map encTIface)),(V.lst 2 (a1.Types.map encTType)),(V.lst 4 (a1.Funcs.map encTFunc)),(V.lst 1 (a1.Entries.map encS)),(V.map 1),(V.map 2),(V.map 3),(V.map 4),(bV (a2==2))]])),(1,(Ob.map (m5.map encM9_3))),(2,(Ob.map (m15.map encM9_3))),(3,(Ob.map (m25.map encM9_248))),(4,(Ob.map ((p.2).map encM9_4)))],5⟩:St)) (fun n p=>RG a3 (fun tl nn=>M21_L5 F k52 tl p.2=some r) n p.1) (fun p h=>RG.zero h) (a3.length+1) (0,(mput ([]:List ((List UInt8)×Bool)) ([]:List UInt8) true)) (RG.start h) (gr [0,1,2,3,4] rfl (hB rfl rfl rfl (hM rfl rfl (hM rfl rfl (hM rfl rfl (hM rfl rfl .nil))))) rfl) (fun n p h=>?_)
  obtain⟨n56,m57⟩:=p
  refine rn 5 rfl ?_
  refine spL rfl (fun hb58=>?_) (fun hb58=>?_)
  ·obtain⟨x59,tl,hx60,h,hk5⟩:=RG.t hA61 h hb58
   unfold M21_L5 at h
   refine rn 5 rfl ?_
   refine ixh hx60 rfl rfl ?_
   refine rn 9 rfl ?_
   refine aops_mapUpdate (es:=m57.map encM9_4) ((mput m57 x59 true).map encM9_4) tMap63 tKey9 wants_none rfl rfl (.con rfl) ⟨_,rfl⟩ encM9_4_good rfl (encM9_4_puts m57 x59 true) ?_
   refine fo (rn 6 rfl ?_)
   exact jX ((w64 (n56+1)),(mput m57 x59 true)) (hk5 _ h) (gr [0,1,2,3,4] rfl (hB rfl rfl rfl (hM rfl rfl (hM rfl rfl (hM rfl rfl (hM rfl rfl .nil))))) rfl)
  replace h:=RG.f h hb58
  unfold M21_L5 at h
  refine rn 1 rfl ?_
  exact jX m57 h (gr [0,1,2,3,4] rfl (hB rfl rfl rfl (hM rfl rfl (hM rfl rfl (hM rfl rfl (hM rfl rfl .nil))))) rfl)
 intro m53 h
 refine rn 5 rfl ?_
 refine awp_ghost (ghost_frzMC 1 0 (Ob.arr 65 9 [[(V.lst 2 (a1.Ifaces.map encTIface)),(V.lst 2 (a1.Types.map encTType)),(V.lst 4 (a1.Funcs.map encTFunc)),(V.lst 1 (a1.Entries.map encS)),(V.imap (m5.map encM9_3)),(V.map 2),(V.map 3),(V.map 4),(bV (a2==2))]]) rfl encM9_3_imm (ObSub.box (.cons Sub.keepM (.cons Sub.keepM (.cons Sub.keepM (.cons Sub.keepM (.cons Sub.frzM (.cons Sub.keepM (.cons Sub.keepM (.cons Sub.keepM (.cons Sub.keepM .nil))))))))))) ?_
 refine awp_ghost (ghost_frzMC 2 0 (Ob.arr 65 9 [[(V.lst 2 (a1.Ifaces.map encTIface)),(V.lst 2 (a1.Types.map encTType)),(V.lst 4 (a1.Funcs.map encTFunc)),(V.lst 1 (a1.Entries.map encS)),(V.imap (m5.map encM9_3)),(V.imap (m15.map encM9_3)),(V.map 3),(V.map 4),(bV (a2==2))]]) rfl encM9_3_imm (ObSub.box (.cons Sub.keepM (.cons Sub.keepM (.cons Sub.keepM (.cons Sub.keepM (.cons Sub.keepM (.cons Sub.frzM (.cons Sub.keepM (.cons Sub.keepM (.cons Sub.keepM .nil))))))))))) ?_
 refine awp_ghost (ghost_frzDMC 3 0 (m25.map encM9_58) (Ob.arr 65 9 [[(V.lst 2 (a1.Ifaces.map encTIface)),(V.lst 2 (a1.Types.map encTType)),(V.lst 4 (a1.Funcs.map encTFunc)),(V.lst 1 (a1.Entries.map encS)),(V.imap (m5.map encM9_3)),(V.imap (m15.map encM9_3)),(V.imap (m25.map encM9_58)),(V.map 4),(bV (a2==2))]]) rfl (by simp) (und_map encM9_248_und _) (ObSub.box (.cons Sub.keepM (.cons Sub.keepM (.cons Sub.keepM (.cons Sub.keepM (.cons Sub.keepM (.cons Sub.keepM (.cons Sub.frzM (.cons Sub.keepM (.cons Sub.keepM .nil))))))))))) ?_
 refine awp_ghost (ghost_frzMC 4 0 (Ob.arr 65 9 [[(V.lst 2 (a1.Ifaces.map encTIface)),(V.lst 2 (a1.Types.map encTType)),(V.lst 4 (a1.Funcs.map encTFunc)),(V.lst 1 (a1.Entries.map encS)),(V.imap (m5.map encM9_3)),(V.imap (m15.map encM9_3)),(V.imap (m25.map encM9_58)),(V.imap (m53.map encM9_4)),(bV (a2==2))]]) rfl encM9_4_imm (ObSub.box (.cons Sub.keepM (.cons Sub.keepM (.cons Sub.keepM (.cons Sub.keepM (.cons Sub.keepM (.cons Sub.keepM (.cons Sub.keepM (.cons Sub.frzM (.cons Sub.keepM .nil))))))))))) ?_
 refine awp_ghost (ghost_frzP 0 6 rfl (imms_rows (.cons (.cons (Imm.lst _ _) (.cons (Imm.lst _ _) (.cons (Imm.lst _ _) (.cons (Imm.lst _ _) (.cons (Imm.imap _) (.cons (Imm.imap _) (.cons (Imm.imap _) (.cons (Imm.imap _) (.cons (Imm.con _) .nil))))))))) .nil)) rfl rfl) ?_
 refine fa ?_
 exact rt h rfl
theorem W34(F:Nat)(a1:TGraph)(a2:Int)(a3:(List (List UInt8)))(r:((Option Treach_world)×Int))(h:M34 F a1 a2 a3=some r):Pure Tryz.prog 34 [(V.agg (encTGraph a1)),(iV a2),(V.lst 1 (a3.map encS))] (V.tup [(optr encTreach_world (r.1)),(iV (r.2))]):=by
 refine pin (fun r=>(V.tup [(optr encTreach_world (r.1)),(iV (r.2))])) r rfl Tryz.func34 rfl rfl rfl rfl rfl (fun w0 m0 hg=>?_)
 unfold M34 at h
 refine rn 10 rfl ?_
 refine cl h rfl rfl rfl (W20 _ _) rfl (fun y4 hx5 h=>?_)
 refine rn 7 rfl ?_
 refine spC h rfl (fun hb6 h=>?_) (fun hb6 h=>?_)
 ·refine rn 6 rfl ?_
  exact rt h rfl
 refine rn 5 rfl ?_
 refine cl h rfl rfl rfl (W66 _ _) rfl (fun y7 hx8 h=>?_)
 refine rn 7 rfl ?_
 refine spC h rfl (fun hb9 h=>?_) (fun hb9 h=>?_)
 ·refine rn 6 rfl ?_
  exact rt h rfl
 refine rn 7 rfl ?_
 refine spO 22 h rfl (fun hb10 h=>?_) (fun hb10 h=>?_)
 ·refine rn 4 rfl ?_
  refine spC h rfl (fun hb11 h=>?_) (fun hb11 h=>?_)
  ·refine rn 5 rfl ?_
   exact rt h rfl
  refine rn 6 rfl ?_
  refine cl h rfl rfl rfl (W21 _ _ _ _) rfl (fun y12 hx13 h=>?_)
  obtain⟨x14,hx15,h⟩:=bind_some h
  refine rn 3 rfl ?_
  refine opC 6 hx15 rfl ?_
  exact rt h rfl
 refine rn 11 rfl ?_
 refine cl h rfl rfl rfl (W21 _ _ _ _) rfl (fun y16 hx17 h=>?_)
 obtain⟨x18,hx19,h⟩:=bind_some h
 refine rn 3 rfl ?_
 refine opC 6 hx19 rfl ?_
 exact rt h rfl
theorem W15(F:Nat)(a1:TGraph)(a2:Int)(a3:(List (List UInt8)))(a4:(List UInt8))(r:((Option Treach_world)×Int×Int))(h:M15 F a1 a2 a3 a4=some r):Pure Tryz.prog 15 [(V.agg (encTGraph a1)),(iV a2),(V.lst 1 (a3.map encS)),(sV a4)] (V.tup [(optr encTreach_world (r.1)),(iV (r.2.1)),(iV (r.2.2))]):=by
 refine pin (fun r=>(V.tup [(optr encTreach_world (r.1)),(iV (r.2.1)),(iV (r.2.2))])) r rfl Tryz.func15 rfl rfl rfl rfl rfl (fun w0 m0 hg=>?_)
 unfold M15 at h
 refine rn 12 rfl ?_
 refine cl h rfl rfl rfl (W34 _ _ _ _) rfl (fun y5 hx6 h=>?_)
 refine rn 12 rfl ?_
 refine spC h rfl (fun hb7 h=>?_) (fun hb7 h=>?_)
 ·refine rn 7 rfl ?_
  exact rt h rfl
 obtain⟨x8,hx9,h⟩:=bind_some h
 refine rn 2 rfl ?_
 refine opC 11 hx9 rfl ?_
 refine rn 6 rfl ?_
 refine aops_lookup_okB _ (iV 0) (iV ((mget x8.funcs a4).getD 0)) tMap61 tKey9 tZo3 (irel_con _) wants_none rfl .imm (.con rfl) ⟨_,rfl⟩ encM9_3_good (encM9_3_look x8.funcs a4) (getD_map (encM9_3_val) (mget x8.funcs a4) 0) (isSome_map ..) rfl ?_
 refine fo (rn 12 rfl ?_)
 refine spC h rfl (fun hb10 h=>?_) (fun hb10 h=>?_)
 ·refine rn 6 rfl ?_
  exact rt h rfl
 refine rn 9 rfl ?_
 exact rt h rfl
theorem W44(F:Nat)(a1:Int)(a2:Treach_world)(a3:List Bool)(a4:List Bool)(a5:List (Treach_slot×Bool))(a6:List Treach_slot)(a7:List Int)(a8:List Int)(r:((List Bool)×(List Int)))(h:M44 F a1 a2 a3 a4 a5 a6 a7 a8=some r):Mut Tryz.prog 44 [(V.ptr 0 7 0 0),(iV a1)] 7 [(0,(Ob.arr 60 7 [[(V.iptr (encTreach_world a2) 0),(V.own 1 a3.length),(V.own 2 a4.length),(V.map 3),(V.own 4 a6.length),(V.own 5 a7.length),(V.own 6 a8.length)]])),(1,(Ob.arr 4 1 (a3.map encB))),(2,(Ob.arr 4 1 (a4.map encB))),(3,(Ob.map (a5.map encM163_4))),(4,(Ob.arr 163 2 (a6.map encTreach_slot))),(5,(Ob.arr 3 1 (a7.map encI_i64))),(6,(Ob.arr 3 1 (a8.map encI_i64)))] (resV []) 8 [(0,(Ob.arr 60 7 [[(V.iptr (encTreach_world a2) 0),(V.own 1 (r.1).length),(V.own 2 a4.length),(V.map 3),(V.own 4 a6.length),(V.own 5 a7.length),(V.own 7 (r.2).length)]])),(1,(Ob.arr 4 1 ((r.1).map encB))),(2,(Ob.arr 4 1 (a4.map encB))),(3,(Ob.map (a5.map encM163_4))),(4,(Ob.arr 163 2 (a6.map encTreach_slot))),(5,(Ob.arr 3 1 (a7.map encI_i64))),(6,Ob.dead),(7,(Ob.arr 3 1 ((r.2).map encI_i64)))]:=by
 refine mut_enter Tryz.func44 rfl rfl (l:=[]) rfl rfl [(0,(V.ptr 0 7 0 0)),(1,(iV a1))] rfl (fun w0 m0 β0 hg=>en ?_)
 unfold M44 at h
 refine rn 7 rfl ?_
 refine ixo (a:=a3) h rfl rfl rfl (fun x17 hx18 h=>?_)
 refine ldp hx18 rfl rfl rfl rfl ?_
 refine rn 2 rfl ?_
 refine spC h rfl (fun hb19 h=>?_) (fun hb19 h=>?_)
 ·refine rn 7 rfl ?_
  refine ixo (a:=a3) h rfl rfl rfl (fun x20 hx21 h=>?_)
  refine stS true hx21 rfl rfl rfl rfl rfl rfl ?_
  refine rn 8 rfl ?_
  refine aops_buildSlice [(0,(iV a1))] [[(iV a1)]] tEl58 tZ3 rfl rfl rfl rfl wants_none (evp_cons rfl evp_nil) rfl rfl (by simp) rfl ?_
  refine fo ?_
  refine apO encI_i64 h rfl rfl rfl rfl rfl rfl rfl rfl (fun h=>?_)
  refine rn 4 rfl ?_
  replace h:=Option.some.inj h
  subst h
  exact wE ⟨.inr rfl,[],(ghost_ren 8 (fun i=>([0,1,2,3,4,5,6,8]:List Nat).getD i 0) _ _ (by decide) (EnvSub.get .nil) (HpSub.get (.cons rfl (ObSub.box (.cons (Sub.imm (Imm.iptr _ _)) (.cons (Sub.ownE rfl rfl (by simp)) (.cons (Sub.own rfl rfl) (.cons (Sub.map rfl rfl) (.cons (Sub.own rfl rfl) (.cons (Sub.own rfl rfl) (.cons (Sub.own rfl rfl) .nil)))))))) (.cons rfl (ObSub.rows (rows_imm imms_encB)) (.cons rfl (ObSub.rows (rows_imm imms_encB)) (.cons rfl (ObSub.maps encM163_4_imm) (.cons rfl (ObSub.rows (rows_imm imms_encTreach_slot)) (.cons rfl (ObSub.rows (rows_imm imms_encI_i64)) (.cons rfl ObSub.deadT (.cons rfl (ObSub.rows (rows_imm imms_encI_i64)) .nil))))))))) rfl),.nil⟩
 refine rn 1 rfl ?_
 replace h:=Option.some.inj h
 subst h
 exact wE ⟨.inr rfl,[],(Ghost.trans (ghost_mvC 6 0 7 3 1 (Ob.arr 60 7 [[(V.iptr (encTreach_world a2) 0),(V.own 1 a3.length),(V.own 2 a4.length),(V.map 3),(V.own 4 a6.length),(V.own 5 a7.length),(V.own 7 a8.length)]]) rfl rfl rfl (ObSub.box (.cons Sub.keepMv (.cons Sub.keepMv (.cons Sub.keepMv (.cons Sub.keepMv (.cons Sub.keepMv (.cons Sub.keepMv (.cons Sub.mv .nil)))))))) rfl rfl) (gr [0,1,2,3,4,5,6,7] rfl (hB rfl rfl rfl (hR rfl rfl (hR rfl rfl (hM rfl rfl (hR rfl rfl (hR rfl rfl (hD rfl (hR rfl rfl .nil)))))))) rfl)),.nil⟩
theorem W94(F:Nat)(a1:(List Int))(a2:Int)(r:Int)(h:M94 F a1 a2=some r):Pure Tryz.prog 94 [(V.lst 1 (a1.map encI_i64)),(iV a2)] (iV r):=by
 refine pin (fun r=>(iV r)) r rfl Tryz.func94 rfl rfl rfl rfl rfl (fun w0 m0 hg=>?_)
 unfold M94 at h
 refine rn 8 rfl ?_
 refine ln rfl rfl ?_
 refine rn 2 rfl ?_
 refine jK h (fun _:Unit=>(⟨[],[],0⟩:St)) (fun k3 (_:Unit)=>k3=some r) (fun k3 h=>?_) ?_
 ·refine rn 1 rfl ?_
  refine wl (A:=a1) 0 rfl (fun hA10=>?_)
  refine lC (fun(p:Int)=>(⟨[(0,(V.lst 1 (a1.map encI_i64))),(1,(iV a2)),(7,(iV ((a1.length:Nat):Int))),(8,(iV p))],[],0⟩:St)) (fun n p=>RG a1 (fun tl nn=>M94_L1 F a2 k3 tl nn=some r) n p) (fun p h=>RG.zero h) (a1.length+1) 0 (RG.start h) (g0 rfl rfl) (fun n n5 h=>?_)
  refine rn 5 rfl ?_
  refine spL rfl (fun hb6=>?_) (fun hb6=>?_)
  ·obtain⟨x7,tl,hx8,h,hk1⟩:=RG.t hA10 h hb6
   unfold M94_L1 at h
   refine rn 13 rfl ?_
   refine ixh hx8 rfl rfl ?_
   refine rn 3 rfl ?_
   refine spC h rfl (fun hb9 h=>?_) (fun hb9 h=>?_)
   ·refine rn 5 rfl ?_
    exact rt h rfl
   refine rn 6 rfl ?_
   exact jX (w64 (n5+1)) (hk1 _ h) (g0 rfl rfl)
  replace h:=RG.f h hb6
  unfold M94_L1 at h
  refine rn 1 rfl ?_
  exact jX () h (g0 rfl rfl)
 intro _ h
 refine rn 4 rfl ?_
 exact rt h rfl
theorem W71(F:Nat)(a1:(List Int))(a2:Int)(r:Bool)(h:M71 F a1 a2=some r):Pure Tryz.prog 71 [(V.lst 1 (a1.map encI_i64)),(iV a2)] (bV r):=by
 refine pin (fun r=>(bV r)) r rfl Tryz.func71 rfl rfl rfl rfl rfl (fun w0 m0 hg=>?_)
 unfold M71 at h
 refine rn 8 rfl ?_
 refine cl h rfl rfl rfl (W94 _ _ _) rfl (fun y3 hx4 h=>?_)
 refine rn 3 rfl ?_
 exact rt h rfl
theorem W47(F:Nat)(a1:Treach_world)(a2:TCall)(a3:Int)(r:Int)(h:M47 F a1 a2 a3=some r):Pure Tryz.prog 47 [(V.iptr (encTreach_world a1) 0),(V.agg (encTCall a2)),(iV a3)] (iV r):=by
 refine pin (fun r=>(iV r)) r rfl Tryz.func47 rfl rfl rfl rfl rfl (fun w0 m0 hg=>?_)
 unfold M47 at h
 obtain⟨x4,hx5,h⟩:=bind_some h
 obtain⟨y6,hx7,h⟩:=bind_some h
 refine rn 6 rfl ?_
 refine dr mixed (vs 6 rfl (iD hx5 rfl rfl rfl (vs 3 rfl (cD rfl rfl rfl rfl (W72 _ _ _ _ hx7) rfl (vs 5 rfl .nil))))) (by kernel_rfl) ?_
 refine rn 7 rfl ?_
 refine aops_lookup _ (iV 0) (iV ((mget a1.funcs (y6.1)).getD 0)) tMap61 tKey9 tZo3 (irel_con _) wants_none rfl .imm (.con rfl) ⟨_,rfl⟩ encM9_3_good (encM9_3_look a1.funcs (y6.1)) (getD_map (encM9_3_val) (mget a1.funcs (y6.1)) 0) rfl ?_
 refine fo (rn 2 rfl ?_)
 exact rt h rfl
theorem W45(F:Nat)(a1:Int)(a2:Treach_world)(a3:List Bool)(a4:List Bool)(a5:List (Treach_slot×Bool))(a6:List Treach_slot)(a7:List Int)(a8:List Int)(r:((List Bool)×(List Bool)×(List Int)))(h:M45 F a1 a2 a3 a4 a5 a6 a7 a8=some r):Mut Tryz.prog 45 [(V.ptr 0 7 0 0),(iV a1)] 7 [(0,(Ob.arr 60 7 [[(V.iptr (encTreach_world a2) 0),(V.own 1 a3.length),(V.own 2 a4.length),(V.map 3),(V.own 4 a6.length),(V.own 5 a7.length),(V.own 6 a8.length)]])),(1,(Ob.arr 4 1 (a3.map encB))),(2,(Ob.arr 4 1 (a4.map encB))),(3,(Ob.map (a5.map encM163_4))),(4,(Ob.arr 163 2 (a6.map encTreach_slot))),(5,(Ob.arr 3 1 (a7.map encI_i64))),(6,(Ob.arr 3 1 (a8.map encI_i64)))] (resV []) 8 [(0,(Ob.arr 60 7 [[(V.iptr (encTreach_world a2) 0),(V.own 1 (r.1).length),(V.own 2 (r.2.1).length),(V.map 3),(V.own 4 a6.length),(V.own 5 a7.length),(V.own 7 (r.2.2).length)]])),(1,(Ob.arr 4 1 ((r.1).map encB))),(2,(Ob.arr 4 1 ((r.2.1).map encB))),(3,(Ob.map (a5.map encM163_4))),(4,(Ob.arr 163 2 (a6.map encTreach_slot))),(5,(Ob.arr 3 1 (a7.map encI_i64))),(6,Ob.dead),(7,(Ob.arr 3 1 ((r.2.2).map encI_i64)))]:=by
 refine mut_enter Tryz.func45 rfl rfl (l:=[]) rfl rfl [(0,(V.ptr 0 7 0 0)),(1,(iV a1))] rfl (fun w0 m0 β0 hg=>en ?_)
 unfold M45 at h
 refine rn 8 rfl ?_
 refine ixo (a:=a4) h rfl rfl rfl (fun x38 hx39 h=>?_)
 refine ldp hx39 rfl rfl rfl rfl ?_
 refine rn 1 rfl ?_
 refine spC h rfl (fun hb40 h=>?_) (fun hb40 h=>?_)
 ·replace h:=Option.some.inj h
  subst h
  exact wR ⟨.inl rfl,[],(Ghost.trans (ghost_mvC 6 0 7 3 1 (Ob.arr 60 7 [[(V.iptr (encTreach_world a2) 0),(V.own 1 a3.length),(V.own 2 a4.length),(V.map 3),(V.own 4 a6.length),(V.own 5 a7.length),(V.own 7 a8.length)]]) rfl rfl rfl (ObSub.box (.cons Sub.keepMv (.cons Sub.keepMv (.cons Sub.keepMv (.cons Sub.keepMv (.cons Sub.keepMv (.cons Sub.keepMv (.cons Sub.mv .nil)))))))) rfl rfl) (gr [0,1,2,3,4,5,6,7] rfl (hB rfl rfl rfl (hR rfl rfl (hR rfl rfl (hM rfl rfl (hR rfl rfl (hR rfl rfl (hD rfl (hR rfl rfl .nil)))))))) rfl)),.nil⟩
 refine rn 8 rfl ?_
 refine ixo (a:=a4) h rfl rfl rfl (fun x41 hx42 h=>?_)
 refine stS true hx42 rfl rfl rfl rfl rfl rfl ?_
 refine rn 13 rfl ?_
 refine spC h rfl (fun hb43 h=>?_) (fun hb43 h=>?_)
 ·replace h:=Option.some.inj h
  subst h
  exact wR ⟨.inl rfl,[],(Ghost.trans (ghost_mvC 6 0 7 3 1 (Ob.arr 60 7 [[(V.iptr (encTreach_world a2) 0),(V.own 1 a3.length),(V.own 2 a4.length),(V.map 3),(V.own 4 a6.length),(V.own 5 a7.length),(V.own 7 a8.length)]]) rfl rfl rfl (ObSub.box (.cons Sub.keepMv (.cons Sub.keepMv (.cons Sub.keepMv (.cons Sub.keepMv (.cons Sub.keepMv (.cons Sub.keepMv (.cons Sub.mv .nil)))))))) rfl rfl) (ghost_ren 8 (fun i=>([0,1,2,3,4,5,6,7]:List Nat).getD i 0) _ _ (by decide) (EnvSub.get .nil) (HpSub.get (.cons rfl (ObSub.box (.cons (Sub.imm (Imm.iptr _ _)) (.cons (Sub.own rfl rfl) (.cons (Sub.ownE rfl rfl (by simp)) (.cons (Sub.map rfl rfl) (.cons (Sub.own rfl rfl) (.cons (Sub.own rfl rfl) (.cons (Sub.own rfl rfl) .nil)))))))) (.cons rfl (ObSub.rows (rows_imm imms_encB)) (.cons rfl (ObSub.rows (rows_imm imms_encB)) (.cons rfl (ObSub.maps encM163_4_imm) (.cons rfl (ObSub.rows (rows_imm imms_encTreach_slot)) (.cons rfl (ObSub.rows (rows_imm imms_encI_i64)) (.cons rfl ObSub.deadT (.cons rfl (ObSub.rows (rows_imm imms_encI_i64)) .nil))))))))) rfl)),.nil⟩
 refine rn 11 rfl ?_
 refine wlO (A:=a6) 4 rfl (fun hA63=>?_)
 refine lC (fun(p:Int×(List Bool)×(List Int))=>(⟨[(0,(V.ptr 0 7 0 0)),(1,(iV a1)),(30,(V.own 4 a6.length)),(31,(iV ((a6.length:Nat):Int))),(32,(iV (p.1)))],[(0,(Ob.arr 60 7 [[(V.iptr (encTreach_world a2) 0),(V.own 1 (p.2.1).length),(V.own 2 (a4.set a1.toNat true).length),(V.map 3),(V.own 4 a6.length),(V.own 5 a7.length),(V.own 7 (p.2.2).length)]])),(1,(Ob.arr 4 1 ((p.2.1).map encB))),(2,(Ob.arr 4 1 ((a4.set a1.toNat true).map encB))),(3,(Ob.map (a5.map encM163_4))),(4,(Ob.arr 163 2 (a6.map encTreach_slot))),(5,(Ob.arr 3 1 (a7.map encI_i64))),(6,Ob.dead),(7,(Ob.arr 3 1 ((p.2.2).map encI_i64)))],8⟩:St)) (fun n p=>RG a6 (fun tl nn=>M45_L1 F a1 a2 a4 a5 a6 a7 tl p.2.1 p.2.2=some r) n p.1) (fun p h=>RG.zero h) (a6.length+1) (0,a3,a8) (RG.start h) (Ghost.trans (ghost_mvC 6 0 7 3 1 (Ob.arr 60 7 [[(V.iptr (encTreach_world a2) 0),(V.own 1 a3.length),(V.own 2 a4.length),(V.map 3),(V.own 4 a6.length),(V.own 5 a7.length),(V.own 7 a8.length)]]) rfl rfl rfl (ObSub.box (.cons Sub.keepMv (.cons Sub.keepMv (.cons Sub.keepMv (.cons Sub.keepMv (.cons Sub.keepMv (.cons Sub.keepMv (.cons Sub.mv .nil)))))))) rfl rfl) (ghost_ren 8 (fun i=>([0,1,2,3,4,5,6,7]:List Nat).getD i 0) _ _ (by decide) (EnvSub.get (.cons (Sub.ptr rfl rfl) (.cons (Sub.imm (Imm.con _)) (.cons (Sub.own rfl rfl) (.cons (Sub.imm (Imm.con _)) (.cons (Sub.imm (Imm.con _)) .nil)))))) (HpSub.get (.cons rfl (ObSub.box (.cons (Sub.imm (Imm.iptr _ _)) (.cons (Sub.own rfl rfl) (.cons (Sub.ownE rfl rfl (by simp)) (.cons (Sub.map rfl rfl) (.cons (Sub.own rfl rfl) (.cons (Sub.own rfl rfl) (.cons (Sub.own rfl rfl) .nil)))))))) (.cons rfl (ObSub.rows (rows_imm imms_encB)) (.cons rfl (ObSub.rows (rows_imm imms_encB)) (.cons rfl (ObSub.maps encM163_4_imm) (.cons rfl (ObSub.rows (rows_imm imms_encTreach_slot)) (.cons rfl (ObSub.rows (rows_imm imms_encI_i64)) (.cons rfl ObSub.deadT (.cons rfl (ObSub.rows (rows_imm imms_encI_i64)) .nil))))))))) rfl)) (fun n p h=>?_)
 obtain⟨n47,l48,l49⟩:=p
 refine rn 5 rfl ?_
 refine spL rfl (fun hb50=>?_) (fun hb50=>?_)
 ·obtain⟨x51,tl,hx52,h,hk1⟩:=RG.t hA63 h hb50
  unfold M45_L1 at h
  refine rn 5 rfl ?_
  refine ixoh (a:=a6) hx52 rfl rfl rfl ?_
  refine ldp hx52 rfl rfl rfl rfl ?_
  obtain⟨y53,hx54,h⟩:=bind_some h
  refine rn 4 rfl ?_
  refine dr mixed (vs 9 rfl (xD (OD.mk [(42,(V.imap (a2.fitting.map encM9_58))),(44,(sV x51.iface))] [] [(45,(V.lst 1 (((mget a2.fitting x51.iface).getD ([]:(List Int))).map encI_i64)))] []) ⟨⟨rfl,rfl,trivial⟩,trivial⟩ (by exact fun S hn h hh=>aops_lookup _ (V.lst 1 (([]:(List Int)).map encI_i64)) (V.lst 1 (((mget a2.fitting x51.iface).getD ([]:(List Int))).map encI_i64)) tMap62 tKey9 tZo58 (fun _=>.nil _ _ _) wants_none h.1 .imm (.con h.2.1) ⟨_,rfl⟩ encM9_58_good (encM9_58_look a2.fitting x51.iface) (getD_map (encM9_58_val) (mget a2.fitting x51.iface) ([]:(List Int))) rfl (aops_nil ⟨rfl,rfl⟩)) rfl (vs 1 rfl (cD rfl rfl rfl rfl (W71 _ _ _ _ hx54) rfl .nil)))) (by kernel_rfl) ?_
  refine jK h (fun(p:(List Bool)×(List Int))=>(⟨[(0,(V.ptr 0 7 0 0)),(1,(iV a1)),(30,(V.own 4 a6.length)),(31,(iV ((a6.length:Nat):Int))),(32,(iV n47))],[(0,(Ob.arr 60 7 [[(V.iptr (encTreach_world a2) 0),(V.own 1 (p.1).length),(V.own 2 (a4.set a1.toNat true).length),(V.map 3),(V.own 4 a6.length),(V.own 5 a7.length),(V.own 7 (p.2).length)]])),(1,(Ob.arr 4 1 ((p.1).map encB))),(2,(Ob.arr 4 1 ((a4.set a1.toNat true).map encB))),(3,(Ob.map (a5.map encM163_4))),(4,(Ob.arr 163 2 (a6.map encTreach_slot))),(5,(Ob.arr 3 1 (a7.map encI_i64))),(6,Ob.dead),(7,(Ob.arr 3 1 ((p.2).map encI_i64)))],8⟩:St)) (fun k55 p=>k55 p.1 p.2=some r) (fun k55 h=>?_) ?_
  ·refine spC h rfl (fun hb58 h=>?_) (fun hb58 h=>?_)
   ·obtain⟨y59,hx60,h⟩:=bind_some h
    obtain⟨y61,hx62,h⟩:=bind_some h
    refine awp_ghost ghost_res ?_
    refine fa ?_
    refine dr mixed (vs 11 rfl (cD rfl rfl rfl rfl (W47 _ _ _ _ _ hx60) rfl (xD (OD.mk [(48,(V.ptr 0 7 0 0)),(59,(iV y59))] [(0,(Ob.arr 60 7 [[(V.iptr (encTreach_world a2) 0),(V.own 1 l48.length),(V.own 2 (a4.set a1.toNat true).length),(V.map 3),(V.own 4 a6.length),(V.own 5 a7.length),(V.own 7 l49.length)]])),(1,(Ob.arr 4 1 (l48.map encB))),(2,(Ob.arr 4 1 ((a4.set a1.toNat true).map encB))),(3,(Ob.map (a5.map encM163_4))),(4,(Ob.arr 163 2 (a6.map encTreach_slot))),(5,(Ob.arr 3 1 (a7.map encI_i64))),(7,(Ob.arr 3 1 (l49.map encI_i64))),(9,Ob.res)] [(60,(V.tup []))] [(0,(Ob.arr 60 7 [[(V.iptr (encTreach_world a2) 0),(V.own 1 (y61.1).length),(V.own 2 (a4.set a1.toNat true).length),(V.map 3),(V.own 4 a6.length),(V.own 5 a7.length),(V.own 9 (y61.2).length)]])),(1,(Ob.arr 4 1 ((y61.1).map encB))),(2,(Ob.arr 4 1 ((a4.set a1.toNat true).map encB))),(3,(Ob.map (a5.map encM163_4))),(4,(Ob.arr 163 2 (a6.map encTreach_slot))),(5,(Ob.arr 3 1 (a7.map encI_i64))),(7,Ob.dead),(9,(Ob.arr 3 1 ((y61.2).map encI_i64)))]) ⟨⟨rfl,rfl,trivial⟩,⟨rfl,rfl,rfl,rfl,rfl,rfl,rfl,rfl,trivial⟩⟩ (by exact fun S hn h hh=>aops_mcall_atH [9] hn (List.forall_mem_cons.2 ⟨hh.2.2.2.2.2.2.2.1,(fun _ hx=>nomatch hx)⟩) (V.tup []) [(V.ptr 0 7 0 0),(iV y59)] (fun i=>([0,1,2,3,4,5,7]:List Nat).getD i 0) (fun i=>([0,1,2,3,4,5,7,9]:List Nat).getD i 0) [(0,(Ob.arr 60 7 [[(V.iptr (encTreach_world a2) 0),(V.own 1 (y61.1).length),(V.own 2 (a4.set a1.toNat true).length),(V.map 3),(V.own 4 a6.length),(V.own 5 a7.length),(V.own 9 (y61.2).length)]])),(1,(Ob.arr 4 1 ((y61.1).map encB))),(2,(Ob.arr 4 1 ((a4.set a1.toNat true).map encB))),(3,(Ob.map (a5.map encM163_4))),(4,(Ob.arr 163 2 (a6.map encTreach_slot))),(5,(Ob.arr 3 1 (a7.map encI_i64))),(7,Ob.dead),(9,(Ob.arr 3 1 ((y61.2).map encI_i64)))] fOk44 wants_none rfl (evm_cons h.1 (evm_cons h.2.1 evm_nil)) (.cons (Sub.ptr rfl rfl) (.cons (Sub.imm (Imm.con _)) .nil)) (HpSub.consE (id:=0) rfl hh.1 (ObSub.box (.cons (Sub.imm (Imm.iptr _ _)) (.cons (Sub.own rfl rfl) (.cons (Sub.own rfl rfl) (.cons (Sub.map rfl rfl) (.cons (Sub.own rfl rfl) (.cons (Sub.own rfl rfl) (.cons (Sub.own rfl rfl) .nil)))))))) (HpSub.consE (id:=1) rfl hh.2.1 (ObSub.rows (rows_imm imms_encB)) (HpSub.consE (id:=2) rfl hh.2.2.1 (ObSub.rows (rows_imm imms_encB)) (HpSub.consE (id:=3) rfl hh.2.2.2.1 (ObSub.maps encM163_4_imm) (HpSub.consE (id:=4) rfl hh.2.2.2.2.1 (ObSub.rows (rows_imm imms_encTreach_slot)) (HpSub.consE (id:=5) rfl hh.2.2.2.2.2.1 (ObSub.rows (rows_imm imms_encI_i64)) (HpSub.consE (id:=6) rfl hh.2.2.2.2.2.2.1 (ObSub.rows (rows_imm imms_encI_i64)) .nil))))))) (W44 F y59 a2 l48 (a4.set a1.toNat true) a5 a6 a7 l49 y61 hx62) rfl rfl rfl rfl (Sub.immT (Imm.tup .nil)) (.cons rfl (ObSub.box (.cons (Sub.immT (Imm.iptr _ _)) (.cons (Sub.ownT rfl rfl) (.cons (Sub.ownT rfl rfl) (.cons (Sub.mapT rfl rfl) (.cons (Sub.ownT rfl rfl) (.cons (Sub.ownT rfl rfl) (.cons (Sub.ownT rfl rfl) .nil)))))))) (.cons rfl (ObSub.rowsT (rows_imm imms_encB)) (.cons rfl (ObSub.rowsT (rows_imm imms_encB)) (.cons rfl (ObSub.mapsT encM163_4_imm) (.cons rfl (ObSub.rowsT (rows_imm imms_encTreach_slot)) (.cons rfl (ObSub.rowsT (rows_imm imms_encI_i64)) (.cons rfl ObSub.deadT (.cons rfl (ObSub.rowsT (rows_imm imms_encI_i64)) .nil)))))))) (aops_nil ⟨rfl,rfl⟩)) rfl .nil))) (by kernel_rfl) ?_
    exact jX ((y61.1),(y61.2)) h (gr [0,1,2,3,4,5,6,9] rfl (hB rfl rfl rfl (hR rfl rfl (hR rfl rfl (hM rfl rfl (hR rfl rfl (hR rfl rfl (hD rfl (hR rfl rfl .nil)))))))) rfl)
   refine rn 1 rfl ?_
   exact jX (l48,l49) h (gr [0,1,2,3,4,5,6,7] rfl (hB rfl rfl rfl (hR rfl rfl (hR rfl rfl (hM rfl rfl (hR rfl rfl (hR rfl rfl (hD rfl (hR rfl rfl .nil)))))))) rfl)
  rintro⟨l56,l57⟩ h
  refine rn 5 rfl ?_
  exact jX ((w64 (n47+1)),l56,l57) (hk1 _ h) (gr [0,1,2,3,4,5,6,7] rfl (hB rfl rfl rfl (hR rfl rfl (hR rfl rfl (hM rfl rfl (hR rfl rfl (hR rfl rfl (hD rfl (hR rfl rfl .nil)))))))) rfl)
 replace h:=RG.f h hb50
 unfold M45_L1 at h
 refine rn 1 rfl ?_
 replace h:=Option.some.inj h
 subst h
 exact wE ⟨.inr rfl,[],(gr [0,1,2,3,4,5,6,7] rfl (hB rfl rfl rfl (hR rfl rfl (hR rfl rfl (hM rfl rfl (hR rfl rfl (hR rfl rfl (hD rfl (hR rfl rfl .nil)))))))) rfl),.nil⟩
theorem W46(F:Nat)(a1:TCall)(a2:Treach_world)(a3:List Bool)(a4:List Bool)(a5:List (Treach_slot×Bool))(a6:List Treach_slot)(a7:List Int)(a8:List Int)(r:((List Bool)×(List (Treach_slot×Bool))×(List Treach_slot)×(List Int)))(h:M46 F a1 a2 a3 a4 a5 a6 a7 a8=some r):Mut Tryz.prog 46 [(V.ptr 0 7 0 0),(V.agg (encTCall a1))] 7 [(0,(Ob.arr 60 7 [[(V.iptr (encTreach_world a2) 0),(V.own 1 a3.length),(V.own 2 a4.length),(V.map 3),(V.own 4 a6.length),(V.own 5 a7.length),(V.own 6 a8.length)]])),(1,(Ob.arr 4 1 (a3.map encB))),(2,(Ob.arr 4 1 (a4.map encB))),(3,(Ob.map (a5.map encM163_4))),(4,(Ob.arr 163 2 (a6.map encTreach_slot))),(5,(Ob.arr 3 1 (a7.map encI_i64))),(6,(Ob.arr 3 1 (a8.map encI_i64)))] (resV []) 9 [(0,(Ob.arr 60 7 [[(V.iptr (encTreach_world a2) 0),(V.own 1 (r.1).length),(V.own 2 a4.length),(V.map 3),(V.own 7 (r.2.2.1).length),(V.own 5 a7.length),(V.own 8 (r.2.2.2).length)]])),(1,(Ob.arr 4 1 ((r.1).map encB))),(2,(Ob.arr 4 1 (a4.map encB))),(3,(Ob.map ((r.2.1).map encM163_4))),(4,Ob.dead),(5,(Ob.arr 3 1 (a7.map encI_i64))),(6,Ob.dead),(7,(Ob.arr 163 2 ((r.2.2.1).map encTreach_slot))),(8,(Ob.arr 3 1 ((r.2.2.2).map encI_i64)))]:=by
 refine mut_enter Tryz.func46 rfl rfl (l:=[]) rfl rfl [(0,(V.ptr 0 7 0 0)),(1,(V.agg (encTCall a1)))] rfl (fun w0 m0 β0 hg=>en ?_)
 unfold M46 at h
 refine rn 11 rfl ?_
 refine spC h rfl (fun hb46 h=>?_) (fun hb46 h=>?_)
 ·obtain⟨y47,hx48,h⟩:=bind_some h
  refine rn 1 rfl ?_
  refine awp_ghost ghost_res ?_
  refine fa ?_
  refine dr mixed (vs 10 rfl (xD (OD.mk [(17,(V.imap (a2.funcs.map encM9_3))),(19,(sV a1.Target))] [] [(20,(iV ((mget a2.funcs a1.Target).getD 0)))] []) ⟨⟨rfl,rfl,trivial⟩,trivial⟩ (by exact fun S hn h hh=>aops_lookup _ (iV 0) (iV ((mget a2.funcs a1.Target).getD 0)) tMap61 tKey9 tZo3 (irel_con _) wants_none h.1 .imm (.con h.2.1) ⟨_,rfl⟩ encM9_3_good (encM9_3_look a2.funcs a1.Target) (getD_map (encM9_3_val) (mget a2.funcs a1.Target) 0) rfl (aops_nil ⟨rfl,rfl⟩)) rfl (xD (OD.mk [(10,(V.ptr 0 7 0 0)),(20,(iV ((mget a2.funcs a1.Target).getD 0)))] [(0,(Ob.arr 60 7 [[(V.iptr (encTreach_world a2) 0),(V.own 1 a3.length),(V.own 2 a4.length),(V.map 3),(V.own 4 a6.length),(V.own 5 a7.length),(V.own 6 a8.length)]])),(1,(Ob.arr 4 1 (a3.map encB))),(2,(Ob.arr 4 1 (a4.map encB))),(3,(Ob.map (a5.map encM163_4))),(4,(Ob.arr 163 2 (a6.map encTreach_slot))),(5,(Ob.arr 3 1 (a7.map encI_i64))),(6,(Ob.arr 3 1 (a8.map encI_i64))),(8,Ob.res)] [(21,(V.tup []))] [(0,(Ob.arr 60 7 [[(V.iptr (encTreach_world a2) 0),(V.own 1 (y47.1).length),(V.own 2 a4.length),(V.map 3),(V.own 4 a6.length),(V.own 5 a7.length),(V.own 8 (y47.2).length)]])),(1,(Ob.arr 4 1 ((y47.1).map encB))),(2,(Ob.arr 4 1 (a4.map encB))),(3,(Ob.map (a5.map encM163_4))),(4,(Ob.arr 163 2 (a6.map encTreach_slot))),(5,(Ob.arr 3 1 (a7.map encI_i64))),(6,Ob.dead),(8,(Ob.arr 3 1 ((y47.2).map encI_i64)))]) ⟨⟨rfl,rfl,trivial⟩,⟨rfl,rfl,rfl,rfl,rfl,rfl,rfl,rfl,trivial⟩⟩ (by exact fun S hn h hh=>aops_mcall_atH [8] hn (List.forall_mem_cons.2 ⟨hh.2.2.2.2.2.2.2.1,(fun _ hx=>nomatch hx)⟩) (V.tup []) [(V.ptr 0 7 0 0),(iV ((mget a2.funcs a1.Target).getD 0))] (fun i=>([0,1,2,3,4,5,6]:List Nat).getD i 0) (fun i=>([0,1,2,3,4,5,6,8]:List Nat).getD i 0) [(0,(Ob.arr 60 7 [[(V.iptr (encTreach_world a2) 0),(V.own 1 (y47.1).length),(V.own 2 a4.length),(V.map 3),(V.own 4 a6.length),(V.own 5 a7.length),(V.own 8 (y47.2).length)]])),(1,(Ob.arr 4 1 ((y47.1).map encB))),(2,(Ob.arr 4 1 (a4.map encB))),(3,(Ob.map (a5.map encM163_4))),(4,(Ob.arr 163 2 (a6.map encTreach_slot))),(5,(Ob.arr 3 1 (a7.map encI_i64))),(6,Ob.dead),(8,(Ob.arr 3 1 ((y47.2).map encI_i64)))] fOk44 wants_none rfl (evm_cons h.1 (evm_cons h.2.1 evm_nil)) (.cons (Sub.ptr rfl rfl) (.cons (Sub.imm (Imm.con _)) .nil)) (HpSub.consE (id:=0) rfl hh.1 (ObSub.box (.cons (Sub.imm (Imm.iptr _ _)) (.cons (Sub.own rfl rfl) (.cons (Sub.own rfl rfl) (.cons (Sub.map rfl rfl) (.cons (Sub.own rfl rfl) (.cons (Sub.own rfl rfl) (.cons (Sub.own rfl rfl) .nil)))))))) (HpSub.consE (id:=1) rfl hh.2.1 (ObSub.rows (rows_imm imms_encB)) (HpSub.consE (id:=2) rfl hh.2.2.1 (ObSub.rows (rows_imm imms_encB)) (HpSub.consE (id:=3) rfl hh.2.2.2.1 (ObSub.maps encM163_4_imm) (HpSub.consE (id:=4) rfl hh.2.2.2.2.1 (ObSub.rows (rows_imm imms_encTreach_slot)) (HpSub.consE (id:=5) rfl hh.2.2.2.2.2.1 (ObSub.rows (rows_imm imms_encI_i64)) (HpSub.consE (id:=6) rfl hh.2.2.2.2.2.2.1 (ObSub.rows (rows_imm imms_encI_i64)) .nil))))))) (W44 F ((mget a2.funcs a1.Target).getD 0) a2 a3 a4 a5 a6 a7 a8 y47 hx48) rfl rfl rfl rfl (Sub.immT (Imm.tup .nil)) (.cons rfl (ObSub.box (.cons (Sub.immT (Imm.iptr _ _)) (.cons (Sub.ownT rfl rfl) (.cons (Sub.ownT rfl rfl) (.cons (Sub.mapT rfl rfl) (.cons (Sub.ownT rfl rfl) (.cons (Sub.ownT rfl rfl) (.cons (Sub.ownT rfl rfl) .nil)))))))) (.cons rfl (ObSub.rowsT (rows_imm imms_encB)) (.cons rfl (ObSub.rowsT (rows_imm imms_encB)) (.cons rfl (ObSub.mapsT encM163_4_imm) (.cons rfl (ObSub.rowsT (rows_imm imms_encTreach_slot)) (.cons rfl (ObSub.rowsT (rows_imm imms_encI_i64)) (.cons rfl ObSub.deadT (.cons rfl (ObSub.rowsT (rows_imm imms_encI_i64)) .nil)))))))) (aops_nil ⟨rfl,rfl⟩)) rfl .nil))) (by kernel_rfl) ?_
  replace h:=Option.some.inj h
  subst h
  exact wR ⟨.inl rfl,[],(Ghost.trans (ghost_mvC 4 0 9 163 2 (Ob.arr 60 7 [[(V.iptr (encTreach_world a2) 0),(V.own 1 (y47.1).length),(V.own 2 a4.length),(V.map 3),(V.own 9 a6.length),(V.own 5 a7.length),(V.own 8 (y47.2).length)]]) rfl rfl rfl (ObSub.box (.cons Sub.keepMv (.cons Sub.keepMv (.cons Sub.keepMv (.cons Sub.keepMv (.cons Sub.mv (.cons Sub.keepMv (.cons Sub.keepMv .nil)))))))) rfl rfl) (gr [0,1,2,3,4,5,6,9,8] rfl (hB rfl rfl rfl (hR rfl rfl (hR rfl rfl (hM rfl rfl (hD rfl (hR rfl rfl (hD rfl (hR rfl rfl (hR rfl rfl .nil))))))))) rfl)),.nil⟩
 refine rn 13 rfl ?_
 refine dr mixed (vs 5 rfl (xD (OD.mk [(30,(V.map 3)),(31,(V.agg [(sV a1.Target),(sV a1.Method)]))] [(3,(Ob.map (a5.map encM163_4)))] [(32,(bV ((mget a5 (Treach_slot.mk a1.Target a1.Method)).getD false)))] []) ⟨⟨rfl,rfl,trivial⟩,⟨rfl,trivial⟩⟩ (by exact fun S hn h hh=>aops_lookup _ (bV false) (bV ((mget a5 (Treach_slot.mk a1.Target a1.Method)).getD false)) tMap56 tKey163 tZo4 (irel_con _) wants_none h.1 (.own hh.1) (.agg (cv163 (Treach_slot.mk a1.Target a1.Method)) h.2.1) ⟨_,rfl⟩ encM163_4_good (encM163_4_look a5 (Treach_slot.mk a1.Target a1.Method)) (getD_map (encM163_4_val) (mget a5 (Treach_slot.mk a1.Target a1.Method)) false) rfl (aops_nil ⟨rfl,rfl⟩)) rfl .nil)) (by kernel_rfl) ?_
 refine spC h rfl (fun hb49 h=>?_) (fun hb49 h=>?_)
 ·replace h:=Option.some.inj h
  subst h
  exact wR ⟨.inl rfl,[],(Ghost.trans (ghost_mvC 4 0 9 163 2 (Ob.arr 60 7 [[(V.iptr (encTreach_world a2) 0),(V.own 1 a3.length),(V.own 2 a4.length),(V.map 3),(V.own 9 a6.length),(V.own 5 a7.length),(V.own 6 a8.length)]]) rfl rfl rfl (ObSub.box (.cons Sub.keepMv (.cons Sub.keepMv (.cons Sub.keepMv (.cons Sub.keepMv (.cons Sub.mv (.cons Sub.keepMv (.cons Sub.keepMv .nil)))))))) rfl rfl) (Ghost.trans (ghost_mvC 6 0 10 3 1 (Ob.arr 60 7 [[(V.iptr (encTreach_world a2) 0),(V.own 1 a3.length),(V.own 2 a4.length),(V.map 3),(V.own 9 a6.length),(V.own 5 a7.length),(V.own 10 a8.length)]]) rfl rfl rfl (ObSub.box (.cons Sub.keepMv (.cons Sub.keepMv (.cons Sub.keepMv (.cons Sub.keepMv (.cons Sub.keepMv (.cons Sub.keepMv (.cons Sub.mv .nil)))))))) rfl rfl) (gr [0,1,2,3,4,5,6,9,10] rfl (hB rfl rfl rfl (hR rfl rfl (hR rfl rfl (hM rfl rfl (hD rfl (hR rfl rfl (hD rfl (hR rfl rfl (hR rfl rfl .nil))))))))) rfl))),.nil⟩
 refine rn 2 rfl ?_
 refine dr mixed (vs 5 rfl (xD (OD.mk [(36,(V.map 3)),(37,(V.agg [(sV a1.Target),(sV a1.Method)]))] [(3,(Ob.map (a5.map encM163_4)))] [] [(3,(Ob.map ((mput a5 (Treach_slot.mk a1.Target a1.Method) true).map encM163_4)))]) ⟨⟨rfl,rfl,trivial⟩,⟨rfl,trivial⟩⟩ (by exact fun S hn h hh=>aops_mapUpdate (es:=a5.map encM163_4) ((mput a5 (Treach_slot.mk a1.Target a1.Method) true).map encM163_4) tMap56 tKey163 wants_none h.1 hh.1 (.agg (cv163 (Treach_slot.mk a1.Target a1.Method)) h.2.1) ⟨_,rfl⟩ encM163_4_good rfl (encM163_4_puts a5 (Treach_slot.mk a1.Target a1.Method) true) (aops_nil ⟨rfl,rfl⟩)) rfl .nil)) (by kernel_rfl) ?_
 refine rn 1 rfl ?_
 refine ck h (fun hc50 h=>?_)
 refine awp_ghost ghost_res ?_
 refine fa ?_
 refine dr mixed (vs 6 rfl (xD (OD.mk [(43,(V.agg [(sV a1.Target),(sV a1.Method)]))] [] [(44,(V.lst 2 (([(Treach_slot.mk a1.Target a1.Method)]:List Treach_slot).map encTreach_slot)))] []) ⟨⟨rfl,trivial⟩,trivial⟩ (by exact fun S hn h hh=>aops_buildSlice_imm [(0,(V.agg [(sV a1.Target),(sV a1.Method)]))] [[(sV a1.Target),(sV a1.Method)]] tEl57 tZ163 wants_none rfl rfl rfl rfl (evp_cons h.1 evp_nil) rfl rfl (by simp) (imms_rows (.cons (.cons (Imm.con _) (.cons (Imm.con _) .nil)) .nil)) rfl (aops_nil ⟨rfl,rfl⟩)) rfl (xD (OD.mk [(42,(V.own 4 a6.length)),(44,(V.lst 2 (([(Treach_slot.mk a1.Target a1.Method)]:List Treach_slot).map encTreach_slot)))] [(4,(Ob.arr 163 2 (a6.map encTreach_slot))),(9,Ob.res)] [(45,(V.own 9 (a6++([(Treach_slot.mk a1.Target a1.Method)]:List Treach_slot)).length))] [(9,(Ob.arr 163 2 ((a6++([(Treach_slot.mk a1.Target a1.Method)]:List Treach_slot)).map encTreach_slot))),(4,Ob.dead)]) ⟨⟨rfl,rfl,trivial⟩,⟨rfl,rfl,trivial⟩⟩ (by exact fun S hn h hh=>aops_append_at 9 rfl hn hh.2.1 (([(Treach_slot.mk a1.Target a1.Method)]:List Treach_slot).map encTreach_slot) ((a6++([(Treach_slot.mk a1.Target a1.Method)]:List Treach_slot)).map encTreach_slot) tEl57 tIsSl57 rfl rfl wants_none h.1 hh.1 (by simp) h.2.1 (.lst (rows_one one_encTreach_slot)) (map_snoc encTreach_slot a6 ([(Treach_slot.mk a1.Target a1.Method)]:List Treach_slot)) (List.length_map ..) hc50 rfl (aops_nil ⟨rfl,rfl⟩)) rfl (vs 3 rfl .nil)))) (by kernel_rfl) ?_
 refine rn 1 rfl ?_
 refine dr mixed (vs 9 rfl (xD (OD.mk [(54,(V.imap (a2.fitting.map encM9_58))),(56,(sV a1.Target))] [] [(57,(V.lst 1 (((mget a2.fitting a1.Target).getD ([]:(List Int))).map encI_i64)))] []) ⟨⟨rfl,rfl,trivial⟩,trivial⟩ (by exact fun S hn h hh=>aops_lookup _ (V.lst 1 (([]:(List Int)).map encI_i64)) (V.lst 1 (((mget a2.fitting a1.Target).getD ([]:(List Int))).map encI_i64)) tMap62 tKey9 tZo58 (fun _=>.nil _ _ _) wants_none h.1 .imm (.con h.2.1) ⟨_,rfl⟩ encM9_58_good (encM9_58_look a2.fitting a1.Target) (getD_map (encM9_58_val) (mget a2.fitting a1.Target) ([]:(List Int))) rfl (aops_nil ⟨rfl,rfl⟩)) rfl (nD rfl rfl rfl (vs 1 rfl .nil)))) (by kernel_rfl) ?_
 refine rn 1 rfl ?_
 refine wl (A:=((mget a2.fitting a1.Target).getD ([]:(List Int)))) 57 rfl (fun hA78=>?_)
 refine lC (fun(p:Int×(List Bool)×(List Int))=>(⟨[(0,(V.ptr 0 7 0 0)),(3,(V.ptr 7 4 0 0)),(57,(V.lst 1 (((mget a2.fitting a1.Target).getD ([]:(List Int))).map encI_i64))),(58,(iV ((((mget a2.fitting a1.Target).getD ([]:(List Int))).length:Nat):Int))),(59,(iV (p.1)))],[(0,(Ob.arr 60 7 [[(V.iptr (encTreach_world a2) 0),(V.own 1 (p.2.1).length),(V.own 2 a4.length),(V.map 3),(V.own 8 (a6++([(Treach_slot.mk a1.Target a1.Method)]:List Treach_slot)).length),(V.own 5 a7.length),(V.own 9 (p.2.2).length)]])),(1,(Ob.arr 4 1 ((p.2.1).map encB))),(2,(Ob.arr 4 1 (a4.map encB))),(3,(Ob.map ((mput a5 (Treach_slot.mk a1.Target a1.Method) true).map encM163_4))),(4,Ob.dead),(5,(Ob.arr 3 1 (a7.map encI_i64))),(6,Ob.dead),(7,(Ob.arr 54 4 [(encTCall a1)])),(8,(Ob.arr 163 2 ((a6++([(Treach_slot.mk a1.Target a1.Method)]:List Treach_slot)).map encTreach_slot))),(9,(Ob.arr 3 1 ((p.2.2).map encI_i64)))],10⟩:St)) (fun n p=>RG ((mget a2.fitting a1.Target).getD ([]:(List Int))) (fun tl nn=>M46_L1 F a1 a2 a4 a5 a6 a7 tl p.2.1 p.2.2=some r) n p.1) (fun p h=>RG.zero h) (((mget a2.fitting a1.Target).getD ([]:(List Int))).length+1) (0,a3,a8) (RG.start h) (Ghost.trans (ghost_mvC 6 0 10 3 1 (Ob.arr 60 7 [[(V.iptr (encTreach_world a2) 0),(V.own 1 a3.length),(V.own 2 a4.length),(V.map 3),(V.own 9 (a6++([(Treach_slot.mk a1.Target a1.Method)]:List Treach_slot)).length),(V.own 5 a7.length),(V.own 10 a8.length)]]) rfl rfl rfl (ObSub.box (.cons Sub.keepMv (.cons Sub.keepMv (.cons Sub.keepMv (.cons Sub.keepMv (.cons Sub.keepMv (.cons Sub.keepMv (.cons Sub.mv .nil)))))))) rfl rfl) (gr [0,1,2,3,4,5,6,7,9,10] rfl (hB rfl rfl rfl (hR rfl rfl (hR rfl rfl (hM rfl rfl (hD rfl (hR rfl rfl (hD rfl (hB rfl rfl rfl (hR rfl rfl (hR rfl rfl .nil)))))))))) rfl)) (fun n p h=>?_)
 obtain⟨n54,l55,l56⟩:=p
 refine rn 5 rfl ?_
 refine spL rfl (fun hb57=>?_) (fun hb57=>?_)
 ·obtain⟨x61,tl,hx62,h,hk1⟩:=RG.t hA78 h hb57
  unfold M46_L1 at h
  refine rn 2 rfl ?_
  refine jK h (fun(p:(List Bool)×(List Int))=>(⟨[(0,(V.ptr 0 7 0 0)),(3,(V.ptr 7 4 0 0)),(57,(V.lst 1 (((mget a2.fitting a1.Target).getD ([]:(List Int))).map encI_i64))),(58,(iV ((((mget a2.fitting a1.Target).getD ([]:(List Int))).length:Nat):Int))),(59,(iV n54))],[(0,(Ob.arr 60 7 [[(V.iptr (encTreach_world a2) 0),(V.own 1 (p.1).length),(V.own 2 a4.length),(V.map 3),(V.own 8 (a6++([(Treach_slot.mk a1.Target a1.Method)]:List Treach_slot)).length),(V.own 5 a7.length),(V.own 9 (p.2).length)]])),(1,(Ob.arr 4 1 ((p.1).map encB))),(2,(Ob.arr 4 1 (a4.map encB))),(3,(Ob.map ((mput a5 (Treach_slot.mk a1.Target a1.Method) true).map encM163_4))),(4,Ob.dead),(5,(Ob.arr 3 1 (a7.map encI_i64))),(6,Ob.dead),(7,(Ob.arr 54 4 [(encTCall a1)])),(8,(Ob.arr 163 2 ((a6++([(Treach_slot.mk a1.Target a1.Method)]:List Treach_slot)).map encTreach_slot))),(9,(Ob.arr 3 1 ((p.2).map encI_i64)))],10⟩:St)) (fun k58 p=>k58 p.1 p.2=some r) (fun k58 h=>?_) ?_
  ·refine rn 3 rfl ?_
   refine ixh hx62 rfl rfl ?_
   refine rn 14 rfl ?_
   refine spO 71 h rfl (fun hb63 h=>?_) (fun hb63 h=>?_)
   ·obtain⟨y64,hx65,h⟩:=bind_some h
    obtain⟨y66,hx67,h⟩:=bind_some h
    refine rn 10 rfl ?_
    refine awp_ghost ghost_res ?_
    refine fa ?_
    refine dr mixed (vs 7 rfl (cD rfl rfl rfl rfl (W47 _ _ _ _ _ hx65) rfl (xD (OD.mk [(80,(V.ptr 0 7 0 0)),(87,(iV y64))] [(0,(Ob.arr 60 7 [[(V.iptr (encTreach_world a2) 0),(V.own 1 l55.length),(V.own 2 a4.length),(V.map 3),(V.own 8 (a6++([(Treach_slot.mk a1.Target a1.Method)]:List Treach_slot)).length),(V.own 5 a7.length),(V.own 9 l56.length)]])),(1,(Ob.arr 4 1 (l55.map encB))),(2,(Ob.arr 4 1 (a4.map encB))),(3,(Ob.map ((mput a5 (Treach_slot.mk a1.Target a1.Method) true).map encM163_4))),(8,(Ob.arr 163 2 ((a6++([(Treach_slot.mk a1.Target a1.Method)]:List Treach_slot)).map encTreach_slot))),(5,(Ob.arr 3 1 (a7.map encI_i64))),(9,(Ob.arr 3 1 (l56.map encI_i64))),(10,Ob.res)] [(88,(V.tup []))] [(0,(Ob.arr 60 7 [[(V.iptr (encTreach_world a2) 0),(V.own 1 (y66.1).length),(V.own 2 a4.length),(V.map 3),(V.own 8 (a6++([(Treach_slot.mk a1.Target a1.Method)]:List Treach_slot)).length),(V.own 5 a7.length),(V.own 10 (y66.2).length)]])),(1,(Ob.arr 4 1 ((y66.1).map encB))),(2,(Ob.arr 4 1 (a4.map encB))),(3,(Ob.map ((mput a5 (Treach_slot.mk a1.Target a1.Method) true).map encM163_4))),(8,(Ob.arr 163 2 ((a6++([(Treach_slot.mk a1.Target a1.Method)]:List Treach_slot)).map encTreach_slot))),(5,(Ob.arr 3 1 (a7.map encI_i64))),(9,Ob.dead),(10,(Ob.arr 3 1 ((y66.2).map encI_i64)))]) ⟨⟨rfl,rfl,trivial⟩,⟨rfl,rfl,rfl,rfl,rfl,rfl,rfl,rfl,trivial⟩⟩ (by exact fun S hn h hh=>aops_mcall_atH [10] hn (List.forall_mem_cons.2 ⟨hh.2.2.2.2.2.2.2.1,(fun _ hx=>nomatch hx)⟩) (V.tup []) [(V.ptr 0 7 0 0),(iV y64)] (fun i=>([0,1,2,3,8,5,9]:List Nat).getD i 0) (fun i=>([0,1,2,3,8,5,9,10]:List Nat).getD i 0) [(0,(Ob.arr 60 7 [[(V.iptr (encTreach_world a2) 0),(V.own 1 (y66.1).length),(V.own 2 a4.length),(V.map 3),(V.own 8 (a6++([(Treach_slot.mk a1.Target a1.Method)]:List Treach_slot)).length),(V.own 5 a7.length),(V.own 10 (y66.2).length)]])),(1,(Ob.arr 4 1 ((y66.1).map encB))),(2,(Ob.arr 4 1 (a4.map encB))),(3,(Ob.map ((mput a5 (Treach_slot.mk a1.Target a1.Method) true).map encM163_4))),(8,(Ob.arr 163 2 ((a6++([(Treach_slot.mk a1.Target a1.Method)]:List Treach_slot)).map encTreach_slot))),(5,(Ob.arr 3 1 (a7.map encI_i64))),(9,Ob.dead),(10,(Ob.arr 3 1 ((y66.2).map encI_i64)))] fOk44 wants_none rfl (evm_cons h.1 (evm_cons h.2.1 evm_nil)) (.cons (Sub.ptr rfl rfl) (.cons (Sub.imm (Imm.con _)) .nil)) (HpSub.consE (id:=0) rfl hh.1 (ObSub.box (.cons (Sub.imm (Imm.iptr _ _)) (.cons (Sub.own rfl rfl) (.cons (Sub.own rfl rfl) (.cons (Sub.map rfl rfl) (.cons (Sub.own rfl rfl) (.cons (Sub.own rfl rfl) (.cons (Sub.own rfl rfl) .nil)))))))) (HpSub.consE (id:=1) rfl hh.2.1 (ObSub.rows (rows_imm imms_encB)) (HpSub.consE (id:=2) rfl hh.2.2.1 (ObSub.rows (rows_imm imms_encB)) (HpSub.consE (id:=3) rfl hh.2.2.2.1 (ObSub.maps encM163_4_imm) (HpSub.consE (id:=4) rfl hh.2.2.2.2.1 (ObSub.rows (rows_imm imms_encTreach_slot)) (HpSub.consE (id:=5) rfl hh.2.2.2.2.2.1 (ObSub.rows (rows_imm imms_encI_i64)) (HpSub.consE (id:=6) rfl hh.2.2.2.2.2.2.1 (ObSub.rows (rows_imm imms_encI_i64)) .nil))))))) (W44 F y64 a2 l55 a4 (mput a5 (Treach_slot.mk a1.Target a1.Method) true) (a6++([(Treach_slot.mk a1.Target a1.Method)]:List Treach_slot)) a7 l56 y66 hx67) rfl rfl rfl rfl (Sub.immT (Imm.tup .nil)) (.cons rfl (ObSub.box (.cons (Sub.immT (Imm.iptr _ _)) (.cons (Sub.ownT rfl rfl) (.cons (Sub.ownT rfl rfl) (.cons (Sub.mapT rfl rfl) (.cons (Sub.ownT rfl rfl) (.cons (Sub.ownT rfl rfl) (.cons (Sub.ownT rfl rfl) .nil)))))))) (.cons rfl (ObSub.rowsT (rows_imm imms_encB)) (.cons rfl (ObSub.rowsT (rows_imm imms_encB)) (.cons rfl (ObSub.mapsT encM163_4_imm) (.cons rfl (ObSub.rowsT (rows_imm imms_encTreach_slot)) (.cons rfl (ObSub.rowsT (rows_imm imms_encI_i64)) (.cons rfl ObSub.deadT (.cons rfl (ObSub.rowsT (rows_imm imms_encI_i64)) .nil)))))))) (aops_nil ⟨rfl,rfl⟩)) rfl .nil))) (by kernel_rfl) ?_
    refine rn 1 rfl ?_
    exact jX ((y66.1),(y66.2)) h (gr [0,1,2,3,4,5,6,7,8,10] rfl (hB rfl rfl rfl (hR rfl rfl (hR rfl rfl (hM rfl rfl (hD rfl (hR rfl rfl (hD rfl (hB rfl rfl rfl (hR rfl rfl (hR rfl rfl .nil)))))))))) rfl)
   refine rn 5 rfl ?_
   refine ixo (a:=a4) h rfl rfl rfl (fun x68 hx69 h=>?_)
   refine ldp hx69 rfl rfl rfl rfl ?_
   refine rn 2 rfl ?_
   refine jK h (fun(p:(List Bool)×(List Int))=>(⟨[(0,(V.ptr 0 7 0 0)),(3,(V.ptr 7 4 0 0)),(57,(V.lst 1 (((mget a2.fitting a1.Target).getD ([]:(List Int))).map encI_i64))),(58,(iV ((((mget a2.fitting a1.Target).getD ([]:(List Int))).length:Nat):Int))),(59,(iV n54)),(78,(bV x68))],[(0,(Ob.arr 60 7 [[(V.iptr (encTreach_world a2) 0),(V.own 1 (p.1).length),(V.own 2 a4.length),(V.map 3),(V.own 8 (a6++([(Treach_slot.mk a1.Target a1.Method)]:List Treach_slot)).length),(V.own 5 a7.length),(V.own 9 (p.2).length)]])),(1,(Ob.arr 4 1 ((p.1).map encB))),(2,(Ob.arr 4 1 (a4.map encB))),(3,(Ob.map ((mput a5 (Treach_slot.mk a1.Target a1.Method) true).map encM163_4))),(4,Ob.dead),(5,(Ob.arr 3 1 (a7.map encI_i64))),(6,Ob.dead),(7,(Ob.arr 54 4 [(encTCall a1)])),(8,(Ob.arr 163 2 ((a6++([(Treach_slot.mk a1.Target a1.Method)]:List Treach_slot)).map encTreach_slot))),(9,(Ob.arr 3 1 ((p.2).map encI_i64)))],10⟩:St)) (fun k70 p=>k70 p.1 p.2=some r) (fun k70 h=>?_) ?_
   ·refine spC h rfl (fun hb73 h=>?_) (fun hb73 h=>?_)
    ·obtain⟨y74,hx75,h⟩:=bind_some h
     obtain⟨y76,hx77,h⟩:=bind_some h
     refine awp_ghost ghost_res ?_
     refine fa ?_
     refine dr mixed (vs 7 rfl (cD rfl rfl rfl rfl (W47 _ _ _ _ _ hx75) rfl (xD (OD.mk [(80,(V.ptr 0 7 0 0)),(87,(iV y74))] [(0,(Ob.arr 60 7 [[(V.iptr (encTreach_world a2) 0),(V.own 1 l55.length),(V.own 2 a4.length),(V.map 3),(V.own 8 (a6++([(Treach_slot.mk a1.Target a1.Method)]:List Treach_slot)).length),(V.own 5 a7.length),(V.own 9 l56.length)]])),(1,(Ob.arr 4 1 (l55.map encB))),(2,(Ob.arr 4 1 (a4.map encB))),(3,(Ob.map ((mput a5 (Treach_slot.mk a1.Target a1.Method) true).map encM163_4))),(8,(Ob.arr 163 2 ((a6++([(Treach_slot.mk a1.Target a1.Method)]:List Treach_slot)).map encTreach_slot))),(5,(Ob.arr 3 1 (a7.map encI_i64))),(9,(Ob.arr 3 1 (l56.map encI_i64))),(10,Ob.res)] [(88,(V.tup []))] [(0,(Ob.arr 60 7 [[(V.iptr (encTreach_world a2) 0),(V.own 1 (y76.1).length),(V.own 2 a4.length),(V.map 3),(V.own 8 (a6++([(Treach_slot.mk a1.Target a1.Method)]:List Treach_slot)).length),(V.own 5 a7.length),(V.own 10 (y76.2).length)]])),(1,(Ob.arr 4 1 ((y76.1).map encB))),(2,(Ob.arr 4 1 (a4.map encB))),(3,(Ob.map ((mput a5 (Treach_slot.mk a1.Target a1.Method) true).map encM163_4))),(8,(Ob.arr 163 2 ((a6++([(Treach_slot.mk a1.Target a1.Method)]:List Treach_slot)).map encTreach_slot))),(5,(Ob.arr 3 1 (a7.map encI_i64))),(9,Ob.dead),(10,(Ob.arr 3 1 ((y76.2).map encI_i64)))]) ⟨⟨rfl,rfl,trivial⟩,⟨rfl,rfl,rfl,rfl,rfl,rfl,rfl,rfl,trivial⟩⟩ (by exact fun S hn h hh=>aops_mcall_atH [10] hn (List.forall_mem_cons.2 ⟨hh.2.2.2.2.2.2.2.1,(fun _ hx=>nomatch hx)⟩) (V.tup []) [(V.ptr 0 7 0 0),(iV y74)] (fun i=>([0,1,2,3,8,5,9]:List Nat).getD i 0) (fun i=>([0,1,2,3,8,5,9,10]:List Nat).getD i 0) [(0,(Ob.arr 60 7 [[(V.iptr (encTreach_world a2) 0),(V.own 1 (y76.1).length),(V.own 2 a4.length),(V.map 3),(V.own 8 (a6++([(Treach_slot.mk a1.Target a1.Method)]:List Treach_slot)).length),(V.own 5 a7.length),(V.own 10 (y76.2).length)]])),(1,(Ob.arr 4 1 ((y76.1).map encB))),(2,(Ob.arr 4 1 (a4.map encB))),(3,(Ob.map ((mput a5 (Treach_slot.mk a1.Target a1.Method) true).map encM163_4))),(8,(Ob.arr 163 2 ((a6++([(Treach_slot.mk a1.Target a1.Method)]:List Treach_slot)).map encTreach_slot))),(5,(Ob.arr 3 1 (a7.map encI_i64))),(9,Ob.dead),(10,(Ob.arr 3 1 ((y76.2).map encI_i64)))] fOk44 wants_none rfl (evm_cons h.1 (evm_cons h.2.1 evm_nil)) (.cons (Sub.ptr rfl rfl) (.cons (Sub.imm (Imm.con _)) .nil)) (HpSub.consE (id:=0) rfl hh.1 (ObSub.box (.cons (Sub.imm (Imm.iptr _ _)) (.cons (Sub.own rfl rfl) (.cons (Sub.own rfl rfl) (.cons (Sub.map rfl rfl) (.cons (Sub.own rfl rfl) (.cons (Sub.own rfl rfl) (.cons (Sub.own rfl rfl) .nil)))))))) (HpSub.consE (id:=1) rfl hh.2.1 (ObSub.rows (rows_imm imms_encB)) (HpSub.consE (id:=2) rfl hh.2.2.1 (ObSub.rows (rows_imm imms_encB)) (HpSub.consE (id:=3) rfl hh.2.2.2.1 (ObSub.maps encM163_4_imm) (HpSub.consE (id:=4) rfl hh.2.2.2.2.1 (ObSub.rows (rows_imm imms_encTreach_slot)) (HpSub.consE (id:=5) rfl hh.2.2.2.2.2.1 (ObSub.rows (rows_imm imms_encI_i64)) (HpSub.consE (id:=6) rfl hh.2.2.2.2.2.2.1 (ObSub.rows (rows_imm imms_encI_i64)) .nil))))))) (W44 F y74 a2 l55 a4 (mput a5 (Treach_slot.mk a1.Target a1.Method) true) (a6++([(Treach_slot.mk a1.Target a1.Method)]:List Treach_slot)) a7 l56 y76 hx77) rfl rfl rfl rfl (Sub.immT (Imm.tup .nil)) (.cons rfl (ObSub.box (.cons (Sub.immT (Imm.iptr _ _)) (.cons (Sub.ownT rfl rfl) (.cons (Sub.ownT rfl rfl) (.cons (Sub.mapT rfl rfl) (.cons (Sub.ownT rfl rfl) (.cons (Sub.ownT rfl rfl) (.cons (Sub.ownT rfl rfl) .nil)))))))) (.cons rfl (ObSub.rowsT (rows_imm imms_encB)) (.cons rfl (ObSub.rowsT (rows_imm imms_encB)) (.cons rfl (ObSub.mapsT encM163_4_imm) (.cons rfl (ObSub.rowsT (rows_imm imms_encTreach_slot)) (.cons rfl (ObSub.rowsT (rows_imm imms_encI_i64)) (.cons rfl ObSub.deadT (.cons rfl (ObSub.rowsT (rows_imm imms_encI_i64)) .nil)))))))) (aops_nil ⟨rfl,rfl⟩)) rfl .nil))) (by kernel_rfl) ?_
     exact jX ((y76.1),(y76.2)) h (gr [0,1,2,3,4,5,6,7,8,10] rfl (hB rfl rfl rfl (hR rfl rfl (hR rfl rfl (hM rfl rfl (hD rfl (hR rfl rfl (hD rfl (hB rfl rfl rfl (hR rfl rfl (hR rfl rfl .nil)))))))))) rfl)
    refine rn 1 rfl ?_
    exact jX (l55,l56) h (gr [0,1,2,3,4,5,6,7,8,9] rfl (hB rfl rfl rfl (hR rfl rfl (hR rfl rfl (hM rfl rfl (hD rfl (hR rfl rfl (hD rfl (hB rfl rfl rfl (hR rfl rfl (hR rfl rfl .nil)))))))))) rfl)
   rintro⟨l71,l72⟩ h
   refine rn 1 rfl ?_
   exact jX (l71,l72) h (gr [0,1,2,3,4,5,6,7,8,9] rfl (hB rfl rfl rfl (hR rfl rfl (hR rfl rfl (hM rfl rfl (hD rfl (hR rfl rfl (hD rfl (hB rfl rfl rfl (hR rfl rfl (hR rfl rfl .nil)))))))))) rfl)
  rintro⟨l59,l60⟩ h
  refine rn 4 rfl ?_
  exact jX ((w64 (n54+1)),l59,l60) (hk1 _ h) (gr [0,1,2,3,4,5,6,7,8,9] rfl (hB rfl rfl rfl (hR rfl rfl (hR rfl rfl (hM rfl rfl (hD rfl (hR rfl rfl (hD rfl (hB rfl rfl rfl (hR rfl rfl (hR rfl rfl .nil)))))))))) rfl)
 replace h:=RG.f h hb57
 unfold M46_L1 at h
 refine rn 1 rfl ?_
 replace h:=Option.some.inj h
 subst h
 exact wE ⟨.inr rfl,[],(gr [0,1,2,3,4,5,6,8,9] rfl (hB rfl rfl rfl (hR rfl rfl (hR rfl rfl (hM rfl rfl (hD rfl (hR rfl rfl (hD rfl (hR rfl rfl (hR rfl rfl .nil))))))))) rfl),.nil⟩
theorem W16(F:Nat)(a1:Treach_world)(a2:Int)(r:(Option Treach_spread))(h:M16 F a1 a2=some r):Pure Tryz.prog 16 [(V.iptr (encTreach_world a1) 0),(iV a2)] (optr encTreach_spread r):=by
 refine pin (fun r=>(optr encTreach_spread r)) r rfl Tryz.func16 rfl rfl rfl rfl rfl (fun w0 m0 hg=>?_)
 unfold M16 at h
 refine rn 6 rfl ?_
 refine ck h (fun hc3 h=>?_)
 refine ck h (fun hc4 h=>?_)
 refine awp_ghost ghost_res ?_
 refine awp_ghost ghost_res ?_
 refine awp_ghost ghost_res ?_
 refine awp_ghost ghost_res ?_
 refine fa ?_
 refine dr mixed (vs 6 rfl (nD rfl rfl rfl (xD (OD.mk [(19,(iV ((a1.g.Funcs.length:Nat):Int)))] [(0,Ob.res)] [(20,(V.own 0 (List.replicate (((a1.g.Funcs.length:Nat):Int)).toNat (false:Bool)).length))] [(0,(Ob.arr 4 1 ((List.replicate (((a1.g.Funcs.length:Nat):Int)).toNat (false:Bool)).map encB)))]) ⟨⟨rfl,trivial⟩,⟨rfl,trivial⟩⟩ (by exact fun S hn h hh=>aops_makeSlice_at 0 rfl hn hh.1 (ln:=(List.replicate (((a1.g.Funcs.length:Nat):Int)).toNat (false:Bool)).length) ((List.replicate (((a1.g.Funcs.length:Nat):Int)).toNat (false:Bool)).map encB) tEl55 tZ4 rfl rfl hc3 List.map_replicate List.length_replicate wants_none h.1 rfl (aops_nil ⟨rfl,rfl⟩)) rfl (vs 5 rfl (nD rfl rfl rfl (xD (OD.mk [(26,(iV ((a1.g.Types.length:Nat):Int)))] [(1,Ob.res)] [(27,(V.own 1 (List.replicate (((a1.g.Types.length:Nat):Int)).toNat (false:Bool)).length))] [(1,(Ob.arr 4 1 ((List.replicate (((a1.g.Types.length:Nat):Int)).toNat (false:Bool)).map encB)))]) ⟨⟨rfl,trivial⟩,⟨rfl,trivial⟩⟩ (by exact fun S hn h hh=>aops_makeSlice_at 1 rfl hn hh.1 (ln:=(List.replicate (((a1.g.Types.length:Nat):Int)).toNat (false:Bool)).length) ((List.replicate (((a1.g.Types.length:Nat):Int)).toNat (false:Bool)).map encB) tEl55 tZ4 rfl rfl hc4 List.map_replicate List.length_replicate wants_none h.1 rfl (aops_nil ⟨rfl,rfl⟩)) rfl (xD (OD.mk [] [(2,Ob.res)] [(28,(V.map 2))] [(2,(Ob.map (([]:List (Treach_slot×Bool)).map encM163_4)))]) ⟨trivial,⟨rfl,trivial⟩⟩ (by exact fun S hn h hh=>aops_makeMap_at 2 rfl hn hh.1 wants_none rfl (aops_nil ⟨rfl,rfl⟩)) rfl (vs 1 rfl (xD (OD.mk [(29,(V.agg [(V.iptr (encTreach_world a1) 0),(V.own 0 (List.replicate (((a1.g.Funcs.length:Nat):Int)).toNat (false:Bool)).length),(V.own 1 (List.replicate (((a1.g.Types.length:Nat):Int)).toNat (false:Bool)).length),(V.map 2),nV,nV,nV]))] [(3,Ob.res)] [(30,(V.ptr 3 7 0 0))] [(3,(Ob.arr 60 7 [[(V.iptr (encTreach_world a1) 0),(V.own 0 (List.replicate (((a1.g.Funcs.length:Nat):Int)).toNat (false:Bool)).length),(V.own 1 (List.replicate (((a1.g.Types.length:Nat):Int)).toNat (false:Bool)).length),(V.map 2),nV,nV,nV]]))]) ⟨⟨rfl,trivial⟩,⟨rfl,trivial⟩⟩ (by exact fun S hn h hh=>aops_box_at 3 rfl hn hh.1 [(V.iptr (encTreach_world a1) 0),(V.own 0 (List.replicate (((a1.g.Funcs.length:Nat):Int)).toNat (false:Bool)).length),(V.own 1 (List.replicate (((a1.g.Types.length:Nat):Int)).toNat (false:Bool)).length),(V.map 2),nV,nV,nV] wants_none h.1 rfl rfl rfl (aops_nil ⟨rfl,rfl⟩)) rfl (vs 1 rfl .nil)))))))))) (by kernel_rfl) ?_
 refine rn 8 rfl ?_
 refine ln rfl rfl ?_
 refine rn 2 rfl ?_
 refine jK h (fun(p:(List Bool)×(List Int))=>(⟨[(0,(V.iptr (encTreach_world a1) 0)),(1,(iV a2)),(5,(V.ptr 0 7 0 0))],[(0,(Ob.arr 60 7 [[(V.iptr (encTreach_world a1) 0),(V.own 1 (p.1).length),(V.own 2 (List.replicate (((a1.g.Types.length:Nat):Int)).toNat (false:Bool)).length),(V.map 3),(V.own 4 ([]:List Treach_slot).length),(V.own 5 ([]:List Int).length),(V.own 6 (p.2).length)]])),(1,(Ob.arr 4 1 ((p.1).map encB))),(2,(Ob.arr 4 1 ((List.replicate (((a1.g.Types.length:Nat):Int)).toNat (false:Bool)).map encB))),(3,(Ob.map (([]:List (Treach_slot×Bool)).map encM163_4))),(4,(Ob.arr 163 2 (([]:List Treach_slot).map encTreach_slot))),(5,(Ob.arr 3 1 (([]:List Int).map encI_i64))),(6,(Ob.arr 3 1 ((p.2).map encI_i64)))],7⟩:St)) (fun k5 p=>k5 p.1 p.2=some r) (fun k5 h=>?_) ?_
 ·refine rn 1 rfl ?_
  refine wl (A:=a1.g.Entries) 35 rfl (fun hA19=>?_)
  refine lC (fun(p:Int×(List Bool)×(List Int))=>(⟨[(0,(V.iptr (encTreach_world a1) 0)),(1,(iV a2)),(5,(V.ptr 0 7 0 0)),(35,(V.lst 1 (a1.g.Entries.map encS))),(36,(iV ((a1.g.Entries.length:Nat):Int))),(37,(iV (p.1)))],[(0,(Ob.arr 60 7 [[(V.iptr (encTreach_world a1) 0),(V.own 1 (p.2.1).length),(V.own 2 (List.replicate (((a1.g.Types.length:Nat):Int)).toNat (false:Bool)).length),(V.map 3),(V.own 4 ([]:List Treach_slot).length),(V.own 5 ([]:List Int).length),(V.own 6 (p.2.2).length)]])),(1,(Ob.arr 4 1 ((p.2.1).map encB))),(2,(Ob.arr 4 1 ((List.replicate (((a1.g.Types.length:Nat):Int)).toNat (false:Bool)).map encB))),(3,(Ob.map (([]:List (Treach_slot×Bool)).map encM163_4))),(4,(Ob.arr 163 2 (([]:List Treach_slot).map encTreach_slot))),(5,(Ob.arr 3 1 (([]:List Int).map encI_i64))),(6,(Ob.arr 3 1 ((p.2.2).map encI_i64)))],7⟩:St)) (fun n p=>RG a1.g.Entries (fun tl nn=>M16_L1 F a1 k5 tl p.2.1 p.2.2=some r) n p.1) (fun p h=>RG.zero h) (a1.g.Entries.length+1) (0,(List.replicate (((a1.g.Funcs.length:Nat):Int)).toNat (false:Bool)),([]:List Int)) (RG.start h) (Ghost.trans (ghost_nilC 3 163 2 (Ob.arr 60 7 [[(V.iptr (encTreach_world a1) 0),(V.own 0 (List.replicate (((a1.g.Funcs.length:Nat):Int)).toNat (false:Bool)).length),(V.own 1 (List.replicate (((a1.g.Types.length:Nat):Int)).toNat (false:Bool)).length),(V.map 2),(V.own 4 0),nV,nV]]) (ObSub.box (.cons Sub.keepNil (.cons Sub.keepNil (.cons Sub.keepNil (.cons Sub.keepNil (.cons Sub.mkNil (.cons Sub.keepNil (.cons Sub.keepNil .nil))))))))) (Ghost.trans (ghost_nilC 3 3 1 (Ob.arr 60 7 [[(V.iptr (encTreach_world a1) 0),(V.own 0 (List.replicate (((a1.g.Funcs.length:Nat):Int)).toNat (false:Bool)).length),(V.own 1 (List.replicate (((a1.g.Types.length:Nat):Int)).toNat (false:Bool)).length),(V.map 2),(V.own 4 0),(V.own 5 0),nV]]) (ObSub.box (.cons Sub.keepNil (.cons Sub.keepNil (.cons Sub.keepNil (.cons Sub.keepNil (.cons Sub.keepNil (.cons Sub.mkNil (.cons Sub.keepNil .nil))))))))) (Ghost.trans (ghost_nilC 3 3 1 (Ob.arr 60 7 [[(V.iptr (encTreach_world a1) 0),(V.own 0 (List.replicate (((a1.g.Funcs.length:Nat):Int)).toNat (false:Bool)).length),(V.own 1 (List.replicate (((a1.g.Types.length:Nat):Int)).toNat (false:Bool)).length),(V.map 2),(V.own 4 0),(V.own 5 0),(V.own 6 0)]]) (ObSub.box (.cons Sub.keepNil (.cons Sub.keepNil (.cons Sub.keepNil (.cons Sub.keepNil (.cons Sub.keepNil (.cons Sub.keepNil (.cons Sub.mkNil .nil))))))))) (ghost_ren 7 (fun i=>([3,0,1,2,4,5,6]:List Nat).getD i 0) _ _ (by decide) (EnvSub.get (.cons (Sub.imm (Imm.iptr _ _)) (.cons (Sub.imm (Imm.con _)) (.cons (Sub.ptr rfl rfl) (.cons (Sub.imm (Imm.lst _ _)) (.cons (Sub.imm (Imm.con _)) (.cons (Sub.imm (Imm.con _)) .nil))))))) (HpSub.get (.cons rfl (ObSub.box (.cons (Sub.imm (Imm.iptr _ _)) (.cons (Sub.own rfl rfl) (.cons (Sub.own rfl rfl) (.cons (Sub.map rfl rfl) (.cons (Sub.ownE rfl rfl (by simp)) (.cons (Sub.ownE rfl rfl (by simp)) (.cons (Sub.ownE rfl rfl (by simp)) .nil)))))))) (.cons rfl (ObSub.rows (rows_imm imms_encB)) (.cons rfl (ObSub.rows (rows_imm imms_encB)) (.cons rfl (ObSub.maps encM163_4_imm) (.cons rfl (ObSub.rows (rows_imm imms_encTreach_slot)) (.cons rfl (ObSub.rows (rows_imm imms_encI_i64)) (.cons rfl (ObSub.rows (rows_imm imms_encI_i64)) .nil)))))))) rfl)))) (fun n p h=>?_)
  obtain⟨n11,l12,l13⟩:=p
  refine rn 5 rfl ?_
  refine spL rfl (fun hb14=>?_) (fun hb14=>?_)
  ·obtain⟨x15,tl,hx16,h,hk1⟩:=RG.t hA19 h hb14
   unfold M16_L1 at h
   refine rn 5 rfl ?_
   refine ixh hx16 rfl rfl ?_
   refine rn 10 rfl ?_
   refine aops_lookup _ (iV 0) (iV ((mget a1.funcs x15).getD 0)) tMap61 tKey9 tZo3 (irel_con _) wants_none rfl .imm (.con rfl) ⟨_,rfl⟩ encM9_3_good (encM9_3_look a1.funcs x15) (getD_map (encM9_3_val) (mget a1.funcs x15) 0) rfl ?_
   obtain⟨y17,hx18,h⟩:=bind_some h
   refine aops_mcallS (V.tup []) [(V.ptr 0 7 0 0),(iV ((mget a1.funcs x15).getD 0))] (fun i=>([0,1,2,3,4,5,6]:List Nat).getD i 0) (fun i=>([0,1,2,3,4,5,6,7]:List Nat).getD i 0) 7 8 [(0,(Ob.arr 60 7 [[(V.iptr (encTreach_world a1) 0),(V.own 1 (y17.1).length),(V.own 2 (List.replicate (((a1.g.Types.length:Nat):Int)).toNat (false:Bool)).length),(V.map 3),(V.own 4 ([]:List Treach_slot).length),(V.own 5 ([]:List Int).length),(V.own 7 (y17.2).length)]])),(1,(Ob.arr 4 1 ((y17.1).map encB))),(2,(Ob.arr 4 1 ((List.replicate (((a1.g.Types.length:Nat):Int)).toNat (false:Bool)).map encB))),(3,(Ob.map (([]:List (Treach_slot×Bool)).map encM163_4))),(4,(Ob.arr 163 2 (([]:List Treach_slot).map encTreach_slot))),(5,(Ob.arr 3 1 (([]:List Int).map encI_i64))),(6,Ob.dead),(7,(Ob.arr 3 1 ((y17.2).map encI_i64)))] fOk44 wants_none rfl (evm_cons rfl (evm_cons rfl evm_nil)) (.cons (Sub.ptr rfl rfl) (.cons (Sub.imm (Imm.con _)) .nil)) (.cons rfl (ObSub.box (.cons (Sub.imm (Imm.iptr _ _)) (.cons (Sub.own rfl rfl) (.cons (Sub.own rfl rfl) (.cons (Sub.map rfl rfl) (.cons (Sub.own rfl rfl) (.cons (Sub.own rfl rfl) (.cons (Sub.own rfl rfl) .nil)))))))) (.cons rfl (ObSub.rows (rows_imm imms_encB)) (.cons rfl (ObSub.rows (rows_imm imms_encB)) (.cons rfl (ObSub.maps encM163_4_imm) (.cons rfl (ObSub.rows (rows_imm imms_encTreach_slot)) (.cons rfl (ObSub.rows (rows_imm imms_encI_i64)) (.cons rfl (ObSub.rows (rows_imm imms_encI_i64)) .nil))))))) (W44 F ((mget a1.funcs x15).getD 0) a1 l12 (List.replicate (((a1.g.Types.length:Nat):Int)).toNat (false:Bool)) ([]:List (Treach_slot×Bool)) ([]:List Treach_slot) ([]:List Int) l13 y17 hx18) rfl rfl rfl rfl (Sub.immT (Imm.tup .nil)) (.cons rfl (ObSub.box (.cons (Sub.immT (Imm.iptr _ _)) (.cons (Sub.ownT rfl rfl) (.cons (Sub.ownT rfl rfl) (.cons (Sub.mapT rfl rfl) (.cons (Sub.ownT rfl rfl) (.cons (Sub.ownT rfl rfl) (.cons (Sub.ownT rfl rfl) .nil)))))))) (.cons rfl (ObSub.rowsT (rows_imm imms_encB)) (.cons rfl (ObSub.rowsT (rows_imm imms_encB)) (.cons rfl (ObSub.mapsT encM163_4_imm) (.cons rfl (ObSub.rowsT (rows_imm imms_encTreach_slot)) (.cons rfl (ObSub.rowsT (rows_imm imms_encI_i64)) (.cons rfl ObSub.deadT (.cons rfl (ObSub.rowsT (rows_imm imms_encI_i64)) .nil)))))))) _ rfl ?_
   refine fo (rn 6 rfl ?_)
   exact jX ((w64 (n11+1)),(y17.1),(y17.2)) (hk1 _ h) (gr [0,1,2,3,4,5,7] rfl (hB rfl rfl rfl (hR rfl rfl (hR rfl rfl (hM rfl rfl (hR rfl rfl (hR rfl rfl (hR rfl rfl .nil))))))) rfl)
  replace h:=RG.f h hb14
  unfold M16_L1 at h
  refine rn 1 rfl ?_
  exact jX (l12,l13) h (gr [0,1,2,3,4,5,6] rfl (hB rfl rfl rfl (hR rfl rfl (hR rfl rfl (hM rfl rfl (hR rfl rfl (hR rfl rfl (hR rfl rfl .nil))))))) rfl)
 rintro⟨l6,l7⟩ h
 refine rn 3 rfl ?_
 refine jK h (fun(p:(List Bool)×(List Bool)×(List (Treach_slot×Bool))×(List Treach_slot)×(List Int))=>(⟨[(5,(V.ptr 0 7 0 0))],[(0,(Ob.arr 60 7 [[(V.iptr (encTreach_world a1) 0),(V.own 1 (p.1).length),(V.own 2 (p.2.1).length),(V.map 3),(V.own 4 (p.2.2.2.1).length),(V.own 5 ([]:List Int).length),(V.own 6 (p.2.2.2.2).length)]])),(1,(Ob.arr 4 1 ((p.1).map encB))),(2,(Ob.arr 4 1 ((p.2.1).map encB))),(3,(Ob.map ((p.2.2.1).map encM163_4))),(4,(Ob.arr 163 2 ((p.2.2.2.1).map encTreach_slot))),(5,(Ob.arr 3 1 (([]:List Int).map encI_i64))),(6,(Ob.arr 3 1 ((p.2.2.2.2).map encI_i64)))],7⟩:St)) (fun k20 p=>k20 p.1 p.2.1 p.2.2.1 p.2.2.2.1 p.2.2.2.2=some r) (fun k20 h=>?_) ?_
 ·refine rn 1 rfl ?_
  refine lC (fun(p:(List Bool)×(List Bool)×(List (Treach_slot×Bool))×(List Treach_slot)×(List Int))=>(⟨[(0,(V.iptr (encTreach_world a1) 0)),(1,(iV a2)),(5,(V.ptr 0 7 0 0))],[(0,(Ob.arr 60 7 [[(V.iptr (encTreach_world a1) 0),(V.own 1 (p.1).length),(V.own 2 (p.2.1).length),(V.map 3),(V.own 4 (p.2.2.2.1).length),(V.own 5 ([]:List Int).length),(V.own 6 (p.2.2.2.2).length)]])),(1,(Ob.arr 4 1 ((p.1).map encB))),(2,(Ob.arr 4 1 ((p.2.1).map encB))),(3,(Ob.map ((p.2.2.1).map encM163_4))),(4,(Ob.arr 163 2 ((p.2.2.2.1).map encTreach_slot))),(5,(Ob.arr 3 1 (([]:List Int).map encI_i64))),(6,(Ob.arr 3 1 ((p.2.2.2.2).map encI_i64)))],7⟩:St)) (fun n p=>M16_L2 F a1 a2 k20 n p.1 p.2.1 p.2.2.1 p.2.2.2.1 p.2.2.2.2=some r) (fun p h=>by simp[M16_L2] at h) F (l6,(List.replicate (((a1.g.Types.length:Nat):Int)).toNat (false:Bool)),([]:List (Treach_slot×Bool)),([]:List Treach_slot),l7) h (gr [0,1,2,3,4,5,6] rfl (hB rfl rfl rfl (hR rfl rfl (hR rfl rfl (hM rfl rfl (hR rfl rfl (hR rfl rfl (hR rfl rfl .nil))))))) rfl) (fun n p h=>?_)
  obtain⟨l31,l32,m33,l34,l35⟩:=p
  unfold M16_L2 at h
  refine rn 10 rfl ?_
  refine spC h rfl (fun hb36 h=>?_) (fun hb36 h=>?_)
  ·refine rn 1 rfl ?_
   refine jK h (fun(p:(List Bool)×(List Bool)×(List (Treach_slot×Bool))×(List Treach_slot)×(List Int))=>(⟨[(0,(V.iptr (encTreach_world a1) 0)),(1,(iV a2)),(5,(V.ptr 0 7 0 0))],[(0,(Ob.arr 60 7 [[(V.iptr (encTreach_world a1) 0),(V.own 1 (p.1).length),(V.own 2 (p.2.1).length),(V.map 3),(V.own 4 (p.2.2.2.1).length),(V.own 5 ([]:List Int).length),(V.own 6 (p.2.2.2.2).length)]])),(1,(Ob.arr 4 1 ((p.1).map encB))),(2,(Ob.arr 4 1 ((p.2.1).map encB))),(3,(Ob.map ((p.2.2.1).map encM163_4))),(4,(Ob.arr 163 2 ((p.2.2.2.1).map encTreach_slot))),(5,(Ob.arr 3 1 (([]:List Int).map encI_i64))),(6,(Ob.arr 3 1 ((p.2.2.2.2).map encI_i64)))],7⟩:St)) (fun k37 p=>k37 p.1 p.2.1 p.2.2.1 p.2.2.2.1 p.2.2.2.2=some r) (fun k37 h=>?_) ?_
   ·refine rn 7 rfl ?_
    refine ixo (a:=l35) h rfl rfl rfl (fun x43 hx44 h=>?_)
    refine ldp hx44 rfl rfl rfl rfl ?_
    refine rn 9 rfl ?_
    refine ck h (fun hc45 h=>?_)
    refine aops_slice_ownN (nx:=7) (1) (l35.length) ((l35.drop 1).length) ((l35.drop 1).map encI_i64) tSl58 wants_none rfl rfl (by simp) rfl ⟨_,rfl⟩ rfl hc45 (Nat.le_refl _) (List.map_drop ..).symm (by simp) (ndB_rows (rows_imm imms_encI_i64)) rfl ?_
    refine fo (rn 11 rfl ?_)
    refine spC h rfl (fun hb46 h=>?_) (fun hb46 h=>?_)
    ·refine rn 1 rfl ?_
     exact jX (l31,l32,m33,l34,(l35.drop 1)) h (gr [0,1,2,3,4,5,7] rfl (hB rfl rfl rfl (hR rfl rfl (hR rfl rfl (hM rfl rfl (hR rfl rfl (hR rfl rfl (hR rfl rfl .nil))))))) rfl)
    refine rn 10 rfl ?_
    refine ixl h rfl rfl (fun x47 hx48 h=>?_)
    refine rn 2 rfl ?_
    refine ln rfl rfl ?_
    refine rn 2 rfl ?_
    refine jK h (fun(p:(List Bool)×(List Bool)×(List Int))=>(⟨[(0,(V.iptr (encTreach_world a1) 0)),(1,(iV a2)),(5,(V.ptr 0 7 0 0)),(8,(iV x43))],[(0,(Ob.arr 60 7 [[(V.iptr (encTreach_world a1) 0),(V.own 1 (p.1).length),(V.own 2 (p.2.1).length),(V.map 3),(V.own 4 l34.length),(V.own 5 ([]:List Int).length),(V.own 6 (p.2.2).length)]])),(1,(Ob.arr 4 1 ((p.1).map encB))),(2,(Ob.arr 4 1 ((p.2.1).map encB))),(3,(Ob.map (m33.map encM163_4))),(4,(Ob.arr 163 2 (l34.map encTreach_slot))),(5,(Ob.arr 3 1 (([]:List Int).map encI_i64))),(6,(Ob.arr 3 1 ((p.2.2).map encI_i64)))],7⟩:St)) (fun k49 p=>k49 p.1 p.2.1 p.2.2=some r) (fun k49 h=>?_) ?_
    ·refine rn 1 rfl ?_
     refine wl (A:=x47.Makes) 81 rfl (fun hA66=>?_)
     refine lC (fun(p:Int×(List Bool)×(List Bool)×(List Int))=>(⟨[(0,(V.iptr (encTreach_world a1) 0)),(1,(iV a2)),(5,(V.ptr 0 7 0 0)),(8,(iV x43)),(81,(V.lst 1 (x47.Makes.map encS))),(82,(iV ((x47.Makes.length:Nat):Int))),(83,(iV (p.1)))],[(0,(Ob.arr 60 7 [[(V.iptr (encTreach_world a1) 0),(V.own 1 (p.2.1).length),(V.own 2 (p.2.2.1).length),(V.map 3),(V.own 4 l34.length),(V.own 5 ([]:List Int).length),(V.own 6 (p.2.2.2).length)]])),(1,(Ob.arr 4 1 ((p.2.1).map encB))),(2,(Ob.arr 4 1 ((p.2.2.1).map encB))),(3,(Ob.map (m33.map encM163_4))),(4,(Ob.arr 163 2 (l34.map encTreach_slot))),(5,(Ob.arr 3 1 (([]:List Int).map encI_i64))),(6,(Ob.arr 3 1 ((p.2.2.2).map encI_i64)))],7⟩:St)) (fun n p=>RG x47.Makes (fun tl nn=>M16_L3 F a1 m33 l34 k49 tl p.2.1 p.2.2.1 p.2.2.2=some r) n p.1) (fun p h=>RG.zero h) (x47.Makes.length+1) (0,l31,l32,(l35.drop 1)) (RG.start h) (gr [0,1,2,3,4,5,7] rfl (hB rfl rfl rfl (hR rfl rfl (hR rfl rfl (hM rfl rfl (hR rfl rfl (hR rfl rfl (hR rfl rfl .nil))))))) rfl) (fun n p h=>?_)
     obtain⟨n57,l58,l59,l60⟩:=p
     refine rn 5 rfl ?_
     refine spL rfl (fun hb61=>?_) (fun hb61=>?_)
     ·obtain⟨x62,tl,hx63,h,hk3⟩:=RG.t hA66 h hb61
      unfold M16_L3 at h
      refine rn 5 rfl ?_
      refine ixh hx63 rfl rfl ?_
      refine rn 10 rfl ?_
      refine aops_lookup _ (iV 0) (iV ((mget a1.types x62).getD 0)) tMap61 tKey9 tZo3 (irel_con _) wants_none rfl .imm (.con rfl) ⟨_,rfl⟩ encM9_3_good (encM9_3_look a1.types x62) (getD_map (encM9_3_val) (mget a1.types x62) 0) rfl ?_
      obtain⟨y64,hx65,h⟩:=bind_some h
      refine aops_mcallS (V.tup []) [(V.ptr 0 7 0 0),(iV ((mget a1.types x62).getD 0))] (fun i=>([0,1,2,3,4,5,6]:List Nat).getD i 0) (fun i=>([0,1,2,3,4,5,6,7]:List Nat).getD i 0) 7 8 [(0,(Ob.arr 60 7 [[(V.iptr (encTreach_world a1) 0),(V.own 1 (y64.1).length),(V.own 2 (y64.2.1).length),(V.map 3),(V.own 4 l34.length),(V.own 5 ([]:List Int).length),(V.own 7 (y64.2.2).length)]])),(1,(Ob.arr 4 1 ((y64.1).map encB))),(2,(Ob.arr 4 1 ((y64.2.1).map encB))),(3,(Ob.map (m33.map encM163_4))),(4,(Ob.arr 163 2 (l34.map encTreach_slot))),(5,(Ob.arr 3 1 (([]:List Int).map encI_i64))),(6,Ob.dead),(7,(Ob.arr 3 1 ((y64.2.2).map encI_i64)))] fOk45 wants_none rfl (evm_cons rfl (evm_cons rfl evm_nil)) (.cons (Sub.ptr rfl rfl) (.cons (Sub.imm (Imm.con _)) .nil)) (.cons rfl (ObSub.box (.cons (Sub.imm (Imm.iptr _ _)) (.cons (Sub.own rfl rfl) (.cons (Sub.own rfl rfl) (.cons (Sub.map rfl rfl) (.cons (Sub.own rfl rfl) (.cons (Sub.own rfl rfl) (.cons (Sub.own rfl rfl) .nil)))))))) (.cons rfl (ObSub.rows (rows_imm imms_encB)) (.cons rfl (ObSub.rows (rows_imm imms_encB)) (.cons rfl (ObSub.maps encM163_4_imm) (.cons rfl (ObSub.rows (rows_imm imms_encTreach_slot)) (.cons rfl (ObSub.rows (rows_imm imms_encI_i64)) (.cons rfl (ObSub.rows (rows_imm imms_encI_i64)) .nil))))))) (W45 F ((mget a1.types x62).getD 0) a1 l58 l59 m33 l34 ([]:List Int) l60 y64 hx65) rfl rfl rfl rfl (Sub.immT (Imm.tup .nil)) (.cons rfl (ObSub.box (.cons (Sub.immT (Imm.iptr _ _)) (.cons (Sub.ownT rfl rfl) (.cons (Sub.ownT rfl rfl) (.cons (Sub.mapT rfl rfl) (.cons (Sub.ownT rfl rfl) (.cons (Sub.ownT rfl rfl) (.cons (Sub.ownT rfl rfl) .nil)))))))) (.cons rfl (ObSub.rowsT (rows_imm imms_encB)) (.cons rfl (ObSub.rowsT (rows_imm imms_encB)) (.cons rfl (ObSub.mapsT encM163_4_imm) (.cons rfl (ObSub.rowsT (rows_imm imms_encTreach_slot)) (.cons rfl (ObSub.rowsT (rows_imm imms_encI_i64)) (.cons rfl ObSub.deadT (.cons rfl (ObSub.rowsT (rows_imm imms_encI_i64)) .nil)))))))) _ rfl ?_
      refine fo (rn 6 rfl ?_)
      exact jX ((w64 (n57+1)),(y64.1),(y64.2.1),(y64.2.2)) (hk3 _ h) (gr [0,1,2,3,4,5,7] rfl (hB rfl rfl rfl (hR rfl rfl (hR rfl rfl (hM rfl rfl (hR rfl rfl (hR rfl rfl (hR rfl rfl .nil))))))) rfl)
     replace h:=RG.f h hb61
     unfold M16_L3 at h
     refine rn 1 rfl ?_
     exact jX (l58,l59,l60) h (gr [0,1,2,3,4,5,6] rfl (hB rfl rfl rfl (hR rfl rfl (hR rfl rfl (hM rfl rfl (hR rfl rfl (hR rfl rfl (hR rfl rfl .nil))))))) rfl)
    rintro⟨l50,l51,l52⟩ h
    refine rn 8 rfl ?_
    refine ixl h rfl rfl (fun x67 hx68 h=>?_)
    refine rn 2 rfl ?_
    refine ln rfl rfl ?_
    refine rn 2 rfl ?_
    refine jK h (fun(p:(List Bool)×(List (Treach_slot×Bool))×(List Treach_slot)×(List Int))=>(⟨[(0,(V.iptr (encTreach_world a1) 0)),(1,(iV a2)),(5,(V.ptr 0 7 0 0))],[(0,(Ob.arr 60 7 [[(V.iptr (encTreach_world a1) 0),(V.own 1 (p.1).length),(V.own 2 l51.length),(V.map 3),(V.own 4 (p.2.2.1).length),(V.own 5 ([]:List Int).length),(V.own 6 (p.2.2.2).length)]])),(1,(Ob.arr 4 1 ((p.1).map encB))),(2,(Ob.arr 4 1 (l51.map encB))),(3,(Ob.map ((p.2.1).map encM163_4))),(4,(Ob.arr 163 2 ((p.2.2.1).map encTreach_slot))),(5,(Ob.arr 3 1 (([]:List Int).map encI_i64))),(6,(Ob.arr 3 1 ((p.2.2.2).map encI_i64)))],7⟩:St)) (fun k69 p=>k69 p.1 p.2.1 p.2.2.1 p.2.2.2=some r) (fun k69 h=>?_) ?_
    ·refine rn 1 rfl ?_
     refine wl (A:=x67.Calls) 104 rfl (fun hA99=>?_)
     refine lC (fun(p:Int×(List Bool)×(List (Treach_slot×Bool))×(List Treach_slot)×(List Int))=>(⟨[(0,(V.iptr (encTreach_world a1) 0)),(1,(iV a2)),(5,(V.ptr 0 7 0 0)),(104,(V.lst 4 (x67.Calls.map encTCall))),(105,(iV ((x67.Calls.length:Nat):Int))),(106,(iV (p.1)))],[(0,(Ob.arr 60 7 [[(V.iptr (encTreach_world a1) 0),(V.own 1 (p.2.1).length),(V.own 2 l51.length),(V.map 3),(V.own 4 (p.2.2.2.1).length),(V.own 5 ([]:List Int).length),(V.own 6 (p.2.2.2.2).length)]])),(1,(Ob.arr 4 1 ((p.2.1).map encB))),(2,(Ob.arr 4 1 (l51.map encB))),(3,(Ob.map ((p.2.2.1).map encM163_4))),(4,(Ob.arr 163 2 ((p.2.2.2.1).map encTreach_slot))),(5,(Ob.arr 3 1 (([]:List Int).map encI_i64))),(6,(Ob.arr 3 1 ((p.2.2.2.2).map encI_i64)))],7⟩:St)) (fun n p=>RG x67.Calls (fun tl nn=>M16_L4 F a1 a2 l51 k20 k69 tl p.2.1 p.2.2.1 p.2.2.2.1 p.2.2.2.2=some r) n p.1) (fun p h=>RG.zero h) (x67.Calls.length+1) (0,l50,m33,l34,l52) (RG.start h) (gr [0,1,2,3,4,5,6] rfl (hB rfl rfl rfl (hR rfl rfl (hR rfl rfl (hM rfl rfl (hR rfl rfl (hR rfl rfl (hR rfl rfl .nil))))))) rfl) (fun n p h=>?_)
     obtain⟨n79,l80,m81,l82,l83⟩:=p
     refine rn 5 rfl ?_
     refine spL rfl (fun hb84=>?_) (fun hb84=>?_)
     ·obtain⟨x90,tl,hx91,h,hk4⟩:=RG.t hA99 h hb84
      unfold M16_L4 at h
      refine rn 2 rfl ?_
      refine jK h (fun(p:(List Bool)×(List (Treach_slot×Bool))×(List Treach_slot)×(List Int))=>(⟨[(0,(V.iptr (encTreach_world a1) 0)),(1,(iV a2)),(5,(V.ptr 0 7 0 0)),(104,(V.lst 4 (x67.Calls.map encTCall))),(105,(iV ((x67.Calls.length:Nat):Int))),(106,(iV n79))],[(0,(Ob.arr 60 7 [[(V.iptr (encTreach_world a1) 0),(V.own 1 (p.1).length),(V.own 2 l51.length),(V.map 3),(V.own 4 (p.2.2.1).length),(V.own 5 ([]:List Int).length),(V.own 6 (p.2.2.2).length)]])),(1,(Ob.arr 4 1 ((p.1).map encB))),(2,(Ob.arr 4 1 (l51.map encB))),(3,(Ob.map ((p.2.1).map encM163_4))),(4,(Ob.arr 163 2 ((p.2.2.1).map encTreach_slot))),(5,(Ob.arr 3 1 (([]:List Int).map encI_i64))),(6,(Ob.arr 3 1 ((p.2.2.2).map encI_i64)))],7⟩:St)) (fun k85 p=>k85 p.1 p.2.1 p.2.2.1 p.2.2.2=some r) (fun k85 h=>?_) ?_
      ·refine rn 3 rfl ?_
       refine ixh hx91 rfl rfl ?_
       refine rn 6 rfl ?_
       refine dr mixed (vs 6 rfl (xD (OD.mk [(113,(V.imap (a1.on.map encM9_4))),(115,(sV x90.Feature))] [] [(116,(bV ((mget a1.on x90.Feature).getD false)))] []) ⟨⟨rfl,rfl,trivial⟩,trivial⟩ (by exact fun S hn h hh=>aops_lookup _ (bV false) (bV ((mget a1.on x90.Feature).getD false)) tMap63 tKey9 tZo4 (irel_con _) wants_none h.1 .imm (.con h.2.1) ⟨_,rfl⟩ encM9_4_good (encM9_4_look a1.on x90.Feature) (getD_map (encM9_4_val) (mget a1.on x90.Feature) false) rfl (aops_nil ⟨rfl,rfl⟩)) rfl (vs 1 rfl .nil))) (by kernel_rfl) ?_
       refine spC h rfl (fun hb92 h=>?_) (fun hb92 h=>?_)
       ·refine rn 1 rfl ?_
        exact jX (l80,m81,l82,l83) h (gr [0,1,2,3,4,5,6] rfl (hB rfl rfl rfl (hR rfl rfl (hR rfl rfl (hM rfl rfl (hR rfl rfl (hR rfl rfl (hR rfl rfl .nil))))))) rfl)
       obtain⟨y93,hx94,h⟩:=bind_some h
       refine rn 5 rfl ?_
       refine aops_mcallS (V.tup []) [(V.ptr 0 7 0 0),(V.agg (encTCall x90))] (fun i=>([0,1,2,3,4,5,6]:List Nat).getD i 0) (fun i=>([0,1,2,3,4,5,6,8,9]:List Nat).getD i 0) 8 10 [(0,(Ob.arr 60 7 [[(V.iptr (encTreach_world a1) 0),(V.own 1 (y93.1).length),(V.own 2 l51.length),(V.map 3),(V.own 8 (y93.2.2.1).length),(V.own 5 ([]:List Int).length),(V.own 9 (y93.2.2.2).length)]])),(1,(Ob.arr 4 1 ((y93.1).map encB))),(2,(Ob.arr 4 1 (l51.map encB))),(3,(Ob.map ((y93.2.1).map encM163_4))),(4,Ob.dead),(5,(Ob.arr 3 1 (([]:List Int).map encI_i64))),(6,Ob.dead),(8,(Ob.arr 163 2 ((y93.2.2.1).map encTreach_slot))),(9,(Ob.arr 3 1 ((y93.2.2.2).map encI_i64)))] fOk46 wants_none rfl (evm_cons rfl (evm_cons rfl evm_nil)) (.cons (Sub.ptr rfl rfl) (.cons (Sub.imm (Imm.agg (imms_encTCall _))) .nil)) (.cons rfl (ObSub.box (.cons (Sub.imm (Imm.iptr _ _)) (.cons (Sub.own rfl rfl) (.cons (Sub.own rfl rfl) (.cons (Sub.map rfl rfl) (.cons (Sub.own rfl rfl) (.cons (Sub.own rfl rfl) (.cons (Sub.own rfl rfl) .nil)))))))) (.cons rfl (ObSub.rows (rows_imm imms_encB)) (.cons rfl (ObSub.rows (rows_imm imms_encB)) (.cons rfl (ObSub.maps encM163_4_imm) (.cons rfl (ObSub.rows (rows_imm imms_encTreach_slot)) (.cons rfl (ObSub.rows (rows_imm imms_encI_i64)) (.cons rfl (ObSub.rows (rows_imm imms_encI_i64)) .nil))))))) (W46 F x90 a1 l80 l51 m81 l82 ([]:List Int) l83 y93 hx94) rfl rfl rfl rfl (Sub.immT (Imm.tup .nil)) (.cons rfl (ObSub.box (.cons (Sub.immT (Imm.iptr _ _)) (.cons (Sub.ownT rfl rfl) (.cons (Sub.ownT rfl rfl) (.cons (Sub.mapT rfl rfl) (.cons (Sub.ownT rfl rfl) (.cons (Sub.ownT rfl rfl) (.cons (Sub.ownT rfl rfl) .nil)))))))) (.cons rfl (ObSub.rowsT (rows_imm imms_encB)) (.cons rfl (ObSub.rowsT (rows_imm imms_encB)) (.cons rfl (ObSub.mapsT encM163_4_imm) (.cons rfl ObSub.deadT (.cons rfl (ObSub.rowsT (rows_imm imms_encI_i64)) (.cons rfl ObSub.deadT (.cons rfl (ObSub.rowsT (rows_imm imms_encTreach_slot)) (.cons rfl (ObSub.rowsT (rows_imm imms_encI_i64)) .nil))))))))) _ rfl ?_
       refine fo (rn 6 rfl ?_)
       refine spO 123 h rfl (fun hb95 h=>?_) (fun hb95 h=>?_)
       ·refine rn 5 rfl ?_
        refine ixo (a:=(y93.1)) h rfl rfl rfl (fun x96 hx97 h=>?_)
        refine ldp hx97 rfl rfl rfl rfl ?_
        refine rn 2 rfl ?_
        refine spC h rfl (fun hb98 h=>?_) (fun hb98 h=>?_)
        ·refine rn 1 rfl ?_
         exact jX ((y93.1),l51,(y93.2.1),(y93.2.2.1),(y93.2.2.2)) h (gr [0,1,2,3,8,5,9] rfl (hB rfl rfl rfl (hR rfl rfl (hR rfl rfl (hM rfl rfl (hR rfl rfl (hR rfl rfl (hR rfl rfl .nil))))))) rfl)
        refine rn 2 rfl ?_
        exact jX ((y93.1),(y93.2.1),(y93.2.2.1),(y93.2.2.2)) h (gr [0,1,2,3,8,5,9] rfl (hB rfl rfl rfl (hR rfl rfl (hR rfl rfl (hM rfl rfl (hR rfl rfl (hR rfl rfl (hR rfl rfl .nil))))))) rfl)
       refine rn 12 rfl ?_
       exact jX ((y93.1),(y93.2.1),(y93.2.2.1),(y93.2.2.2)) h (gr [0,1,2,3,8,5,9] rfl (hB rfl rfl rfl (hR rfl rfl (hR rfl rfl (hM rfl rfl (hR rfl rfl (hR rfl rfl (hR rfl rfl .nil))))))) rfl)
      rintro⟨l86,m87,l88,l89⟩ h
      refine rn 4 rfl ?_
      exact jX ((w64 (n79+1)),l86,m87,l88,l89) (hk4 _ h) (gr [0,1,2,3,4,5,6] rfl (hB rfl rfl rfl (hR rfl rfl (hR rfl rfl (hM rfl rfl (hR rfl rfl (hR rfl rfl (hR rfl rfl .nil))))))) rfl)
     replace h:=RG.f h hb84
     unfold M16_L4 at h
     refine rn 1 rfl ?_
     exact jX (l80,m81,l82,l83) h (gr [0,1,2,3,4,5,6] rfl (hB rfl rfl rfl (hR rfl rfl (hR rfl rfl (hM rfl rfl (hR rfl rfl (hR rfl rfl (hR rfl rfl .nil))))))) rfl)
    rintro⟨l70,m71,l72,l73⟩ h
    refine rn 1 rfl ?_
    exact jX (l70,l51,m71,l72,l73) h (gr [0,1,2,3,4,5,6] rfl (hB rfl rfl rfl (hR rfl rfl (hR rfl rfl (hM rfl rfl (hR rfl rfl (hR rfl rfl (hR rfl rfl .nil))))))) rfl)
   rintro⟨l38,l39,m40,l41,l42⟩ h
   exact jX (l38,l39,m40,l41,l42) h (gr [0,1,2,3,4,5,6] rfl (hB rfl rfl rfl (hR rfl rfl (hR rfl rfl (hM rfl rfl (hR rfl rfl (hR rfl rfl (hR rfl rfl .nil))))))) rfl)
  refine rn 1 rfl ?_
  exact jX (l31,l32,m33,l34,l35) h (gr [0,1,2,3,4,5,6] rfl (hB rfl rfl rfl (hR rfl rfl (hR rfl rfl (hM rfl rfl (hR rfl rfl (hR rfl rfl (hR rfl rfl .nil))))))) rfl)
 rintro⟨l21,l22,m23,l24,l25⟩ h
 refine rn 5 rfl ?_
 refine awp_ghost (ghost_frzC 1 0 (Ob.arr 60 7 [[(V.iptr (encTreach_world a1) 0),(V.lst 1 (l21.map encB)),(V.own 2 l22.length),(V.map 3),(V.own 4 l24.length),(V.own 5 ([]:List Int).length),(V.own 6 l25.length)]]) rfl (rows_imm imms_encB) (ObSub.box (.cons Sub.keep (.cons (Sub.frzAll (rows:=l21.map encB) (List.length_map ..).symm) (.cons Sub.keep (.cons Sub.keep (.cons Sub.keep (.cons Sub.keep (.cons Sub.keep .nil))))))))) ?_
 refine awp_ghost (ghost_frzC 2 0 (Ob.arr 60 7 [[(V.iptr (encTreach_world a1) 0),(V.lst 1 (l21.map encB)),(V.lst 1 (l22.map encB)),(V.map 3),(V.own 4 l24.length),(V.own 5 ([]:List Int).length),(V.own 6 l25.length)]]) rfl (rows_imm imms_encB) (ObSub.box (.cons Sub.keep (.cons Sub.keep (.cons (Sub.frzAll (rows:=l22.map encB) (List.length_map ..).symm) (.cons Sub.keep (.cons Sub.keep (.cons Sub.keep (.cons Sub.keep .nil))))))))) ?_
 refine awp_ghost (ghost_frzMC 3 0 (Ob.arr 60 7 [[(V.iptr (encTreach_world a1) 0),(V.lst 1 (l21.map encB)),(V.lst 1 (l22.map encB)),(V.imap (m23.map encM163_4)),(V.own 4 l24.length),(V.own 5 ([]:List Int).length),(V.own 6 l25.length)]]) rfl encM163_4_imm (ObSub.box (.cons Sub.keepM (.cons Sub.keepM (.cons Sub.keepM (.cons Sub.frzM (.cons Sub.keepM (.cons Sub.keepM (.cons Sub.keepM .nil))))))))) ?_
 refine awp_ghost (ghost_frzC 4 0 (Ob.arr 60 7 [[(V.iptr (encTreach_world a1) 0),(V.lst 1 (l21.map encB)),(V.lst 1 (l22.map encB)),(V.imap (m23.map encM163_4)),(V.lst 2 (l24.map encTreach_slot)),(V.own 5 ([]:List Int).length),(V.own 6 l25.length)]]) rfl (rows_imm imms_encTreach_slot) (ObSub.box (.cons Sub.keep (.cons Sub.keep (.cons Sub.keep (.cons Sub.keep (.cons (Sub.frzAll (rows:=l24.map encTreach_slot) (List.length_map ..).symm) (.cons Sub.keep (.cons Sub.keep .nil))))))))) ?_
 refine awp_ghost (ghost_frzC 5 0 (Ob.arr 60 7 [[(V.iptr (encTreach_world a1) 0),(V.lst 1 (l21.map encB)),(V.lst 1 (l22.map encB)),(V.imap (m23.map encM163_4)),(V.lst 2 (l24.map encTreach_slot)),(V.lst 1 (([]:List Int).map encI_i64)),(V.own 6 l25.length)]]) rfl (rows_imm imms_encI_i64) (ObSub.box (.cons Sub.keep (.cons Sub.keep (.cons Sub.keep (.cons Sub.keep (.cons Sub.keep (.cons (Sub.frzAll (rows:=([]:List Int).map encI_i64) (List.length_map ..).symm) (.cons Sub.keep .nil))))))))) ?_
 refine awp_ghost (ghost_frzC 6 0 (Ob.arr 60 7 [[(V.iptr (encTreach_world a1) 0),(V.lst 1 (l21.map encB)),(V.lst 1 (l22.map encB)),(V.imap (m23.map encM163_4)),(V.lst 2 (l24.map encTreach_slot)),(V.lst 1 (([]:List Int).map encI_i64)),(V.lst 1 (l25.map encI_i64))]]) rfl (rows_imm imms_encI_i64) (ObSub.box (.cons Sub.keep (.cons Sub.keep (.cons Sub.keep (.cons Sub.keep (.cons Sub.keep (.cons Sub.keep (.cons (Sub.frzAll (rows:=l25.map encI_i64) (List.length_map ..).symm) .nil))))))))) ?_
 refine awp_ghost (ghost_frzP 0 4 rfl (imms_rows (.cons (.cons (Imm.iptr _ _) (.cons (Imm.lst _ _) (.cons (Imm.lst _ _) (.cons (Imm.imap _) (.cons (Imm.lst _ _) (.cons (Imm.lst _ _) (.cons (Imm.lst _ _) .nil))))))) .nil)) rfl rfl) ?_
 refine fa ?_
 exact rt h rfl
theorem W17(F:Nat)(a1:Int)(a2:Int)(a3:Int)(a4:List (List Treach_arc))(a5:List Int)(a6:List Int)(r:(List (List Treach_arc)))(h:M17 F a1 a2 a3 a4 a5 a6=some r):Mut Tryz.prog 17 [(V.ptr 0 3 0 0),(iV a1),(iV a2),(iV a3)] 4 [(0,(Ob.arr 69 3 [[(V.own 1 a4.length),(V.own 2 a5.length),(V.own 3 a6.length)]])),(1,(Ob.arr 123 1 (a4.map (encR 125 3 encTreach_arc)))),(2,(Ob.arr 3 1 (a5.map encI_i64))),(3,(Ob.arr 3 1 (a6.map encI_i64)))] (resV []) 4 [(0,(Ob.arr 69 3 [[(V.own 1 r.length),(V.own 2 a5.length),(V.own 3 a6.length)]])),(1,(Ob.arr 123 1 (r.map (encR 125 3 encTreach_arc)))),(2,(Ob.arr 3 1 (a5.map encI_i64))),(3,(Ob.arr 3 1 (a6.map encI_i64)))]:=by
 refine mut_enter Tryz.func17 rfl rfl (l:=[]) rfl rfl [(0,(V.ptr 0 3 0 0)),(1,(iV a1)),(2,(iV a2)),(3,(iV a3))] rfl (fun w0 m0 β0 hg=>en ?_)
 unfold M17 at h
 refine rn 1 rfl ?_
 refine awp_pinD 1 rfl (fun l20=>?_)
 obtain⟨x21,hx22,h⟩:=bind_some h
 obtain⟨x23,hx24,h⟩:=bind_some h
 refine ck h (fun hc25 h=>?_)
 refine awp_ghost ghost_res ?_
 refine awp_ghost ghost_res ?_
 refine awp_ghost ghost_res ?_
 refine fa ?_
 refine dr mixed (vs 10 rfl (oD (a:=a4) hx22 rfl rfl rfl rfl (xD (OD.mk [(18,(V.ptr 1 1 a1.toNat 0))] [(1,(Ob.arr 123 1 (rowsX (fun i=>some (l20 i)) 125 3 encTreach_arc a4)))] [(19,(V.con (l20 a1.toNat)))] []) ⟨⟨rfl,trivial⟩,⟨rfl,trivial⟩⟩ (by exact fun S hn h hh=>aops_loadX tC123 wants_none h.1 hh.1 (idx_some hx22).2 rfl rfl (aops_nil ⟨rfl,rfl⟩)) rfl (vs 7 rfl (oD (a:=a4) hx24 rfl rfl rfl rfl (xD (OD.mk [(27,(V.ptr 1 1 a2.toNat 0))] [(1,(Ob.arr 123 1 (rowsX (fun i=>some (l20 i)) 125 3 encTreach_arc a4)))] [(28,(V.con (l20 a2.toNat)))] []) ⟨⟨rfl,trivial⟩,⟨rfl,trivial⟩⟩ (by exact fun S hn h hh=>aops_loadX tC123 wants_none h.1 hh.1 (idx_some hx24).2 rfl rfl (aops_nil ⟨rfl,rfl⟩)) rfl (xD (OD.mk [(28,(V.con (l20 a2.toNat)))] [(1,(Ob.arr 123 1 (rowsX (fun i=>some (l20 i)) 125 3 encTreach_arc a4)))] [(29,(iV ((x23.length:Nat):Int)))] []) ⟨⟨rfl,trivial⟩,⟨rfl,trivial⟩⟩ (by exact fun S hn h hh=>aops_lenX (id:=1) tIsSl123 wants_none h.1 hh.1 (idx_some hx24).2 rfl rfl (aops_nil ⟨rfl,rfl⟩)) rfl (vs 1 rfl (xD (OD.mk [(30,(V.agg [(iV a2),(iV a3),(iV ((x23.length:Nat):Int))]))] [(4,Ob.res)] [(31,(V.own 4 1))] [(4,(Ob.arr 125 3 [[(iV a2),(iV a3),(iV ((x23.length:Nat):Int))]]))]) ⟨⟨rfl,trivial⟩,⟨rfl,trivial⟩⟩ (by exact fun S hn h hh=>aops_buildSlice_at 4 rfl hn hh.1 [(0,(V.agg [(iV a2),(iV a3),(iV ((x23.length:Nat):Int))]))] [[(iV a2),(iV a3),(iV ((x23.length:Nat):Int))]] tEl123 tZ125 wants_none rfl rfl rfl rfl (evp_cons h.1 evp_nil) rfl rfl (by simp) rfl (aops_nil ⟨rfl,rfl⟩)) rfl (xD (OD.mk [(19,(V.con (l20 a1.toNat))),(31,(V.own 4 1))] [(1,(Ob.arr 123 1 (rowsX (fun i=>some (l20 i)) 125 3 encTreach_arc a4))),(4,(Ob.arr 125 3 [[(iV a2),(iV a3),(iV ((x23.length:Nat):Int))]])),(5,Ob.res),(6,Ob.res)] [(32,(V.own 6 (x21++[(Treach_arc.mk a2 a3 ((x23.length:Nat):Int))]).length)),(19,V.any)] [(6,(Ob.arr 125 3 ((x21++[(Treach_arc.mk a2 a3 ((x23.length:Nat):Int))]).map encTreach_arc))),(5,Ob.dead),(1,(Ob.arr 123 1 (List.set (rowsX (fun i=>some (l20 i)) 125 3 encTreach_arc a4) a1.toNat [V.any])))]) ⟨⟨rfl,rfl,trivial⟩,⟨rfl,rfl,rfl,rfl,trivial⟩⟩ (by exact fun S hn h hh=>aops_appendX_at (nid:=5) (idn:=6) (z:=(Treach_arc.mk a2 a3 ((x23.length:Nat):Int))) tEl123 tIsSl123 rfl rfl rfl hn hh.2.2.1 hh.2.2.2.1 rfl h.1 h.2.1 hh.2.1 rfl hh.1 (idx_some hx22).2 rfl rfl hc25 rfl (aops_nil ⟨rfl,rfl⟩)) rfl (xD (OD.mk [(11,(V.own 1 a4.length)),(12,(iV a1))] [] [(33,(V.ptr 1 1 a1.toNat 0))] []) ⟨⟨rfl,rfl,trivial⟩,trivial⟩ (by exact fun S hn h hh=>aops_index_own tSl67 wants_none h.1 h.2.1 (idx_some hx22).1 (by simpa using idx_lt hx22) rfl (aops_nil ⟨rfl,rfl⟩)) rfl (xD (OD.mk [(33,(V.ptr 1 1 a1.toNat 0)),(32,(V.own 6 (x21++[(Treach_arc.mk a2 a3 ((x23.length:Nat):Int))]).length))] [(1,(Ob.arr 123 1 (List.set (rowsX (fun i=>some (l20 i)) 125 3 encTreach_arc a4) a1.toNat [V.any]))),(6,(Ob.arr 125 3 ((x21++[(Treach_arc.mk a2 a3 ((x23.length:Nat):Int))]).map encTreach_arc)))] [] [(1,(Ob.arr 123 1 (rowsX (updN (fun i=>some (l20 i)) a1.toNat) 125 3 encTreach_arc (a4.set a1.toNat (x21++[(Treach_arc.mk a2 a3 ((x23.length:Nat):Int))]))))),(6,Ob.dead)]) ⟨⟨rfl,rfl,trivial⟩,⟨rfl,rfl,trivial⟩⟩ (by exact fun S hn h hh=>aops_store_holeX (fun z=>(imms_encTreach_arc z).keep) tS123 wants_none h.1 h.2.1 hh.1 (idx_lt hx22) hh.2.1 (by simp) rfl rfl (aops_nil ⟨rfl,rfl⟩)) rfl .nil)))))))))))) (by kernel_rfl) ?_
 refine awp_pinX 1 rfl (fun l26=>?_)
 obtain⟨x27,hx28,h⟩:=bind_some h
 obtain⟨x29,hx30,h⟩:=bind_some h
 refine ck h (fun hc31 h=>?_)
 refine awp_ghost ghost_res ?_
 refine awp_ghost ghost_res ?_
 refine awp_ghost ghost_res ?_
 refine fa ?_
 refine dr mixed (vs 10 rfl (xD (OD.mk [(42,(V.own 1 a4.length)),(43,(iV a2))] [] [(44,(V.ptr 1 1 a2.toNat 0))] []) ⟨⟨rfl,rfl,trivial⟩,trivial⟩ (by exact fun S hn h hh=>aops_index_own tSl67 wants_none h.1 h.2.1 (idx_some hx28).1 (by simpa using idx_lt hx28) rfl (aops_nil ⟨rfl,rfl⟩)) rfl (xD (OD.mk [(44,(V.ptr 1 1 a2.toNat 0))] [(1,(Ob.arr 123 1 (rowsX (fun i=>some (l26 i)) 125 3 encTreach_arc (a4.set a1.toNat (x21++[(Treach_arc.mk a2 a3 ((x23.length:Nat):Int))])))))] [(45,(V.con (l26 a2.toNat)))] []) ⟨⟨rfl,trivial⟩,⟨rfl,trivial⟩⟩ (by exact fun S hn h hh=>aops_loadX tC123 wants_none h.1 hh.1 (idx_some hx28).2 rfl rfl (aops_nil ⟨rfl,rfl⟩)) rfl (vs 6 rfl (xD (OD.mk [(50,(V.own 1 a4.length)),(51,(iV a1))] [] [(52,(V.ptr 1 1 a1.toNat 0))] []) ⟨⟨rfl,rfl,trivial⟩,trivial⟩ (by exact fun S hn h hh=>aops_index_own tSl67 wants_none h.1 h.2.1 (idx_some hx30).1 (by simpa using idx_lt hx30) rfl (aops_nil ⟨rfl,rfl⟩)) rfl (xD (OD.mk [(52,(V.ptr 1 1 a1.toNat 0))] [(1,(Ob.arr 123 1 (rowsX (fun i=>some (l26 i)) 125 3 encTreach_arc (a4.set a1.toNat (x21++[(Treach_arc.mk a2 a3 ((x23.length:Nat):Int))])))))] [(53,(V.con (l26 a1.toNat)))] []) ⟨⟨rfl,trivial⟩,⟨rfl,trivial⟩⟩ (by exact fun S hn h hh=>aops_loadX tC123 wants_none h.1 hh.1 (idx_some hx30).2 rfl rfl (aops_nil ⟨rfl,rfl⟩)) rfl (xD (OD.mk [(53,(V.con (l26 a1.toNat)))] [(1,(Ob.arr 123 1 (rowsX (fun i=>some (l26 i)) 125 3 encTreach_arc (a4.set a1.toNat (x21++[(Treach_arc.mk a2 a3 ((x23.length:Nat):Int))])))))] [(54,(iV ((x29.length:Nat):Int)))] []) ⟨⟨rfl,trivial⟩,⟨rfl,trivial⟩⟩ (by exact fun S hn h hh=>aops_lenX (id:=1) tIsSl123 wants_none h.1 hh.1 (idx_some hx30).2 rfl rfl (aops_nil ⟨rfl,rfl⟩)) rfl (vs 2 rfl (xD (OD.mk [(56,(V.agg [(iV a1),(iV 0),(iV (w64 (((x29.length:Nat):Int) - 1)))]))] [(7,Ob.res)] [(57,(V.own 7 1))] [(7,(Ob.arr 125 3 [[(iV a1),(iV 0),(iV (w64 (((x29.length:Nat):Int) - 1)))]]))]) ⟨⟨rfl,trivial⟩,⟨rfl,trivial⟩⟩ (by exact fun S hn h hh=>aops_buildSlice_at 7 rfl hn hh.1 [(0,(V.agg [(iV a1),(iV 0),(iV (w64 (((x29.length:Nat):Int) - 1)))]))] [[(iV a1),(iV 0),(iV (w64 (((x29.length:Nat):Int) - 1)))]] tEl123 tZ125 wants_none rfl rfl rfl rfl (evp_cons h.1 evp_nil) rfl rfl (by simp) rfl (aops_nil ⟨rfl,rfl⟩)) rfl (xD (OD.mk [(45,(V.con (l26 a2.toNat))),(57,(V.own 7 1))] [(1,(Ob.arr 123 1 (rowsX (fun i=>some (l26 i)) 125 3 encTreach_arc (a4.set a1.toNat (x21++[(Treach_arc.mk a2 a3 ((x23.length:Nat):Int))]))))),(7,(Ob.arr 125 3 [[(iV a1),(iV 0),(iV (w64 (((x29.length:Nat):Int) - 1)))]])),(8,Ob.res),(9,Ob.res)] [(58,(V.own 9 (x27++[(Treach_arc.mk a1 0 (w64 (((x29.length:Nat):Int) - 1)))]).length)),(45,V.any)] [(9,(Ob.arr 125 3 ((x27++[(Treach_arc.mk a1 0 (w64 (((x29.length:Nat):Int) - 1)))]).map encTreach_arc))),(8,Ob.dead),(1,(Ob.arr 123 1 (List.set (rowsX (fun i=>some (l26 i)) 125 3 encTreach_arc (a4.set a1.toNat (x21++[(Treach_arc.mk a2 a3 ((x23.length:Nat):Int))]))) a2.toNat [V.any])))]) ⟨⟨rfl,rfl,trivial⟩,⟨rfl,rfl,rfl,rfl,trivial⟩⟩ (by exact fun S hn h hh=>aops_appendX_at (nid:=8) (idn:=9) (z:=(Treach_arc.mk a1 0 (w64 (((x29.length:Nat):Int) - 1)))) tEl123 tIsSl123 rfl rfl rfl hn hh.2.2.1 hh.2.2.2.1 rfl h.1 h.2.1 hh.2.1 rfl hh.1 (idx_some hx28).2 rfl rfl hc31 rfl (aops_nil ⟨rfl,rfl⟩)) rfl (xD (OD.mk [(37,(V.own 1 a4.length)),(38,(iV a2))] [] [(59,(V.ptr 1 1 a2.toNat 0))] []) ⟨⟨rfl,rfl,trivial⟩,trivial⟩ (by exact fun S hn h hh=>aops_index_own tSl67 wants_none h.1 h.2.1 (idx_some hx28).1 (by simpa using idx_lt hx28) rfl (aops_nil ⟨rfl,rfl⟩)) rfl (xD (OD.mk [(59,(V.ptr 1 1 a2.toNat 0)),(58,(V.own 9 (x27++[(Treach_arc.mk a1 0 (w64 (((x29.length:Nat):Int) - 1)))]).length))] [(1,(Ob.arr 123 1 (List.set (rowsX (fun i=>some (l26 i)) 125 3 encTreach_arc (a4.set a1.toNat (x21++[(Treach_arc.mk a2 a3 ((x23.length:Nat):Int))]))) a2.toNat [V.any]))),(9,(Ob.arr 125 3 ((x27++[(Treach_arc.mk a1 0 (w64 (((x29.length:Nat):Int) - 1)))]).map encTreach_arc)))] [] [(1,(Ob.arr 123 1 (rowsX (updN (fun i=>some (l26 i)) a2.toNat) 125 3 encTreach_arc ((a4.set a1.toNat (x21++[(Treach_arc.mk a2 a3 ((x23.length:Nat):Int))])).set a2.toNat (x27++[(Treach_arc.mk a1 0 (w64 (((x29.length:Nat):Int) - 1)))]))))),(9,Ob.dead)]) ⟨⟨rfl,rfl,trivial⟩,⟨rfl,rfl,trivial⟩⟩ (by exact fun S hn h hh=>aops_store_holeX (fun z=>(imms_encTreach_arc z).keep) tS123 wants_none h.1 h.2.1 hh.1 (idx_lt hx28) hh.2.1 (by simp) rfl rfl (aops_nil ⟨rfl,rfl⟩)) rfl .nil)))))))))))) (by kernel_rfl) ?_
 replace h:=Option.some.inj h
 subst h
 exact wE ⟨.inr rfl,[],(Ghost.trans (ghost_unpin 1 rfl) (ghost_ren 4 (fun i=>([0,1,2,3]:List Nat).getD i 0) _ _ (by decide) (EnvSub.get .nil) (HpSub.get (.cons rfl (ObSub.box (.cons (Sub.ownE rfl rfl (by simp)) (.cons (Sub.own rfl rfl) (.cons (Sub.own rfl rfl) .nil)))) (.cons rfl (ObSub.rowsK RK.h) (.cons rfl (ObSub.rows (rows_imm imms_encI_i64)) (.cons rfl (ObSub.rows (rows_imm imms_encI_i64)) .nil))))) rfl)),.nil⟩
theorem W48(F:Nat)(a1:List Int)(r:List Int)(h:M48 F a1=some r):Mut Tryz.prog 48 [(V.own 0 a1.length)] 1 [(0,(Ob.arr 3 1 (a1.map encI_i64)))] (resV []) 1 [(0,(Ob.arr 3 1 (r.map encI_i64)))]:=by
 unfold M48 at h
 by_cases hc:a1.length<4611686018427387904
 ·rw[if_pos hc] at h
  replace h:=Option.some.inj h
  subst h
  refine(mut_sort a1 (isort a1) rfl (List.length_mergeSort _) (fun w b off cap hH hb=>?_) (fun w p h0=>?_)).heap hget_one
  ·exact Go.Proofs.Tryz.slices_Sort_int b off cap a1 w hH hb hc
  ·refine(Go.Proofs.Tryz.slices_Sort_int_none p 0 w).mono ?_
   rintro e w' ⟨rfl,rfl⟩
   exact⟨rfl,Go.RowKit.Below.refl _ _,Nat.le_refl _⟩
 ·rw[if_neg hc] at h;simp at h
theorem W49(F:Nat)(a1:List Int)(r:List Int)(h:M49 F a1=some r):Mut Tryz.prog 49 [(V.own 0 a1.length)] 1 [(0,(Ob.arr 3 1 (a1.map encI_i64)))] (resV [(V.own 0 r.length)]) 1 [(0,(Ob.arr 3 1 (r.map encI_i64)))]:=by
 unfold M49 at h
 by_cases hc:a1.length<=140737488355328
 ·rw[if_pos hc] at h
  replace h:=Option.some.inj h
  subst h
  exact(mut_compactS (Value.int .i64) (fun _=>rfl) 0 a1 rfl (fun b off cap a w hH h1 h2=>Go.Proofs.Tryz.slices_Compact_int b off cap a w hH h1 h2) (fun p w=>Go.Proofs.Tryz.slices_Compact_int_empty p 0 w) hc).heap hget_one
 ·rw[if_neg hc] at h;simp at h
theorem W18(F:Nat)(a1:Treach_world)(a2:TCall)(r:(List Int))(h:M18 F a1 a2=some r):Pure Tryz.prog 18 [(V.iptr (encTreach_world a1) 0),(V.agg (encTCall a2)),nV] (V.lst 1 (r.map encI_i64)):=by
 refine pin (fun r=>(V.lst 1 (r.map encI_i64))) r rfl Tryz.func18 rfl rfl rfl rfl rfl (fun w0 m0 hg=>?_)
 unfold M18 at h
 refine rn 12 rfl ?_
 refine spC h rfl (fun hb3 h=>?_) (fun hb3 h=>?_)
 ·refine rn 1 rfl ?_
  refine dr mixed (vs 6 rfl (xD (OD.mk [(16,(V.imap (a1.funcs.map encM9_3))),(18,(sV a2.Target))] [] [(19,(iV ((mget a1.funcs a2.Target).getD 0)))] []) ⟨⟨rfl,rfl,trivial⟩,trivial⟩ (by exact fun S hn h hh=>aops_lookup _ (iV 0) (iV ((mget a1.funcs a2.Target).getD 0)) tMap61 tKey9 tZo3 (irel_con _) wants_none h.1 .imm (.con h.2.1) ⟨_,rfl⟩ encM9_3_good (encM9_3_look a1.funcs a2.Target) (getD_map (encM9_3_val) (mget a1.funcs a2.Target) 0) rfl (aops_nil ⟨rfl,rfl⟩)) rfl (xD (OD.mk [(19,(iV ((mget a1.funcs a2.Target).getD 0)))] [] [(20,(V.lst 1 (([((mget a1.funcs a2.Target).getD 0)]:List Int).map encI_i64)))] []) ⟨⟨rfl,trivial⟩,trivial⟩ (by exact fun S hn h hh=>aops_buildSlice_imm [(0,(iV ((mget a1.funcs a2.Target).getD 0)))] [[(iV ((mget a1.funcs a2.Target).getD 0))]] tEl58 tZ3 wants_none rfl rfl rfl rfl (evp_cons h.1 evp_nil) rfl rfl (by simp) (imms_rows (.cons (.cons (Imm.con _) .nil) .nil)) rfl (aops_nil ⟨rfl,rfl⟩)) rfl (vs 1 rfl .nil)))) (by kernel_rfl) ?_
  exact rt h rfl
 refine rn 7 rfl ?_
 refine dr mixed (vs 6 rfl (xD (OD.mk [(24,(V.imap (a1.fitting.map encM9_58))),(26,(sV a2.Target))] [] [(27,(V.lst 1 (((mget a1.fitting a2.Target).getD ([]:(List Int))).map encI_i64)))] []) ⟨⟨rfl,rfl,trivial⟩,trivial⟩ (by exact fun S hn h hh=>aops_lookup _ (V.lst 1 (([]:(List Int)).map encI_i64)) (V.lst 1 (((mget a1.fitting a2.Target).getD ([]:(List Int))).map encI_i64)) tMap62 tKey9 tZo58 (fun _=>.nil _ _ _) wants_none h.1 .imm (.con h.2.1) ⟨_,rfl⟩ encM9_58_good (encM9_58_look a1.fitting a2.Target) (getD_map (encM9_58_val) (mget a1.fitting a2.Target) ([]:(List Int))) rfl (aops_nil ⟨rfl,rfl⟩)) rfl (nD rfl rfl rfl (vs 1 rfl .nil)))) (by kernel_rfl) ?_
 refine jK h (fun(p:(List Int))=>(⟨[(7,(V.own 0 p.length))],[(0,(Ob.arr 3 1 (p.map encI_i64)))],1⟩:St)) (fun k4 p=>k4 p=some r) (fun k4 h=>?_) ?_
 ·refine rn 1 rfl ?_
  refine wl (A:=((mget a1.fitting a2.Target).getD ([]:(List Int)))) 27 rfl (fun hA16=>?_)
  refine lC (fun(p:Int×(List Int))=>(⟨[(0,(V.iptr (encTreach_world a1) 0)),(2,nV),(4,(V.ptr 0 4 0 0)),(7,(V.own 1 (p.2).length)),(27,(V.lst 1 (((mget a1.fitting a2.Target).getD ([]:(List Int))).map encI_i64))),(28,(iV ((((mget a1.fitting a2.Target).getD ([]:(List Int))).length:Nat):Int))),(29,(iV (p.1)))],[(0,(Ob.arr 54 4 [(encTCall a2)])),(1,(Ob.arr 3 1 ((p.2).map encI_i64)))],2⟩:St)) (fun n p=>RG ((mget a1.fitting a2.Target).getD ([]:(List Int))) (fun tl nn=>M18_L1 F a1 a2 k4 tl p.2=some r) n p.1) (fun p h=>RG.zero h) (((mget a1.fitting a2.Target).getD ([]:(List Int))).length+1) (0,([]:List Int)) (RG.start h) (Ghost.trans (ghost_nilE 7 3 1 rfl) (ghost_ren 2 (fun i=>([0,1]:List Nat).getD i 0) _ _ (by decide) (EnvSub.get (.cons (Sub.imm (Imm.iptr _ _)) (.cons (Sub.imm (Imm.con _)) (.cons (Sub.ptr rfl rfl) (.cons (Sub.ownE rfl rfl (by simp)) (.cons (Sub.imm (Imm.lst _ _)) (.cons (Sub.imm (Imm.con _)) (.cons (Sub.imm (Imm.con _)) .nil)))))))) (HpSub.get (.cons rfl (ObSub.box (.cons (Sub.imm (Imm.con _)) (.cons (Sub.imm (Imm.con _)) (.cons (Sub.imm (Imm.con _)) (.cons (Sub.imm (Imm.con _)) .nil))))) (.cons rfl (ObSub.rows (rows_imm imms_encI_i64)) .nil))) rfl)) (fun n p h=>?_)
  obtain⟨n8,l9⟩:=p
  refine rn 5 rfl ?_
  refine spL rfl (fun hb10=>?_) (fun hb10=>?_)
  ·obtain⟨x11,tl,hx12,h,hk1⟩:=RG.t hA16 h hb10
   unfold M18_L1 at h
   refine rn 5 rfl ?_
   refine ixh hx12 rfl rfl ?_
   refine rn 20 rfl ?_
   refine cl h rfl rfl rfl (W47 _ _ _ _) rfl (fun y13 hx14 h=>?_)
   refine aops_buildSlice [(0,(iV y13))] [[(iV y13)]] tEl58 tZ3 rfl rfl rfl rfl wants_none (evp_cons rfl evp_nil) rfl rfl (by simp) rfl ?_
   refine fo ?_
   refine apO encI_i64 h rfl rfl rfl rfl rfl rfl rfl rfl (fun h=>?_)
   refine rn 7 rfl ?_
   exact jX ((w64 (n8+1)),(l9++([y13]:List Int))) (hk1 _ h) (gr [0,3] rfl (hB rfl rfl rfl (hR rfl rfl .nil)) rfl)
  replace h:=RG.f h hb10
  unfold M18_L1 at h
  refine rn 1 rfl ?_
  exact jX l9 h (gr [1] rfl (hR rfl rfl .nil) rfl)
 intro l5 h
 obtain⟨y17,hx18,h⟩:=bind_some h
 refine rn 3 rfl ?_
 refine ck h (fun hc19 h=>?_)
 refine aops_mcallS (V.tup []) [(V.own 0 l5.length)] (fun i=>([0]:List Nat).getD i 0) (fun i=>([0]:List Nat).getD i 0) 1 1 [(0,(Ob.arr 3 1 (y17.map encI_i64)))] fOk48 wants_none rfl (evm_cons rfl evm_nil) (.cons (Sub.own rfl rfl) .nil) (.cons rfl (ObSub.rows (rows_imm imms_encI_i64)) .nil) (W48 F l5 y17 hx18) rfl rfl rfl rfl (Sub.immT (Imm.tup .nil)) (.cons rfl (ObSub.rowsT (rows_imm imms_encI_i64)) .nil) _ rfl ?_
 refine aops_ghost (ghost_tell 7 (V.own 0 y17.length) rfl (Sub.ownI hc19)) ?_
 refine aops_ghost (ghost_tell 49 (V.own 0 y17.length) rfl (Sub.ownI hc19)) ?_
 obtain⟨y20,hx21,h⟩:=bind_some h
 refine fo (rn 4 rfl ?_)
 refine aops_mcallS (V.own 0 y20.length) [(V.own 0 y17.length)] (fun i=>([0]:List Nat).getD i 0) (fun i=>([0]:List Nat).getD i 0) 1 1 [(0,(Ob.arr 3 1 (y20.map encI_i64)))] fOk49 wants_none rfl (evm_cons rfl evm_nil) (.cons (Sub.own rfl rfl) .nil) (.cons rfl (ObSub.rows (rows_imm imms_encI_i64)) .nil) (W49 F y17 y20 hx21) rfl rfl rfl rfl (Sub.ownT rfl rfl) (.cons rfl (ObSub.rowsT (rows_imm imms_encI_i64)) .nil) _ rfl ?_
 refine fo (rn 2 rfl ?_)
 refine awp_ghost (ghost_frzEs 0 [6,52] rfl (rows_imm imms_encI_i64) (List.forall_mem_cons.2 ⟨rfl,(List.forall_mem_cons.2 ⟨rfl,(fun _ hx=>nomatch hx)⟩)⟩) (List.length_map ..).symm) ?_
 refine fa ?_
 exact rt h rfl
theorem W50(F:Nat)(a1:Int)(a2:List (List Treach_arc))(a3:List Int)(a4:List Int)(r:(List Int))(h:M50 F a1 a2 a3 a4=some r):Mut Tryz.prog 50 [(V.ptr 0 3 0 0),(iV a1)] 4 [(0,(Ob.arr 69 3 [[(V.own 1 a2.length),(V.own 2 a3.length),(V.own 3 a4.length)]])),(1,(Ob.arr 123 1 (a2.map (encR 125 3 encTreach_arc)))),(2,(Ob.arr 3 1 (a3.map encI_i64))),(3,(Ob.arr 3 1 (a4.map encI_i64)))] (resV []) 5 [(0,(Ob.arr 69 3 [[(V.own 1 a2.length),(V.own 4 r.length),(V.own 3 a4.length)]])),(1,(Ob.arr 123 1 (a2.map (encR 125 3 encTreach_arc)))),(2,Ob.dead),(3,(Ob.arr 3 1 (a4.map encI_i64))),(4,(Ob.arr 3 1 (r.map encI_i64)))]:=by
 refine mut_enter Tryz.func50 rfl rfl (l:=[]) rfl rfl [(0,(V.ptr 0 3 0 0)),(1,(iV a1))] rfl (fun w0 m0 β0 hg=>en ?_)
 unfold M50 at h
 refine rn 8 rfl ?_
 refine ck h (fun hc63 h=>?_)
 refine aops_makeSlice (ln:=(List.replicate (((a2.length:Nat):Int)).toNat (0:Int)).length) ((List.replicate (((a2.length:Nat):Int)).toNat (0:Int)).map encI_i64) tEl58 tZ3 rfl rfl hc63 List.map_replicate List.length_replicate wants_none rfl rfl ?_
 refine fo (rn 14 rfl ?_)
 refine jK h (fun(p:(List Int))=>(⟨[(0,(V.ptr 0 3 0 0)),(1,(iV a1))],[(0,(Ob.arr 69 3 [[(V.own 1 a2.length),(V.own 4 p.length),(V.own 3 a4.length)]])),(1,(Ob.arr 123 1 (a2.map (encR 125 3 encTreach_arc)))),(2,Ob.dead),(3,(Ob.arr 3 1 (a4.map encI_i64))),(4,(Ob.arr 3 1 (p.map encI_i64)))],5⟩:St)) (fun k64 p=>k64 p=some r) (fun k64 h=>?_) ?_
 ·refine rn 1 rfl ?_
  refine wlO (A:=(List.replicate (((a2.length:Nat):Int)).toNat (0:Int))) 4 rfl (fun hA73=>?_)
  refine lC (fun(p:Int×(List Int))=>(⟨[(0,(V.ptr 0 3 0 0)),(1,(iV a1)),(22,(iV (((List.replicate (((a2.length:Nat):Int)).toNat (0:Int)).length:Nat):Int))),(23,(iV (p.1)))],[(0,(Ob.arr 69 3 [[(V.own 1 a2.length),(V.own 4 (p.2).length),(V.own 3 a4.length)]])),(1,(Ob.arr 123 1 (a2.map (encR 125 3 encTreach_arc)))),(2,Ob.dead),(3,(Ob.arr 3 1 (a4.map encI_i64))),(4,(Ob.arr 3 1 ((p.2).map encI_i64)))],5⟩:St)) (fun n p=>RC (((List.replicate (((a2.length:Nat):Int)).toNat (0:Int)).length:Nat):Int) (fun tl nn=>M50_L1 F k64 tl nn p.2=some r) n p.1) (fun p h=>RC.zero h) (Int.toNat (((List.replicate (((a2.length:Nat):Int)).toNat (0:Int)).length:Nat):Int)+1) (0,(List.replicate (((a2.length:Nat):Int)).toNat (0:Int))) (RC.start h) (gr [0,1,2,3,4] rfl (hB rfl rfl rfl (hR rfl rfl (hD rfl (hR rfl rfl (hR rfl rfl .nil))))) rfl) (fun n p h=>?_)
  obtain⟨n68,l69⟩:=p
  refine rn 5 rfl ?_
  refine spL rfl (fun hb70=>?_) (fun hb70=>?_)
  ·obtain⟨tl,h,hk1⟩:=RC.t (by unfold maxLen at hA73;omega) h hb70
   unfold M50_L1 at h
   refine rn 14 rfl ?_
   refine ixo (a:=l69) h rfl rfl rfl (fun x71 hx72 h=>?_)
   refine stS (-1) hx72 rfl rfl rfl rfl rfl rfl ?_
   refine rn 6 rfl ?_
   exact jX ((w64 (n68+1)),(l69.set n68.toNat (-1))) (hk1 _ h) (ghost_ren 5 (fun i=>([0,1,2,3,4]:List Nat).getD i 0) _ _ (by decide) (EnvSub.get (.cons (Sub.ptr rfl rfl) (.cons (Sub.imm (Imm.con _)) (.cons (Sub.imm (Imm.con _)) (.cons (Sub.imm (Imm.con _)) .nil))))) (HpSub.get (.cons rfl (ObSub.box (.cons (Sub.own rfl rfl) (.cons (Sub.ownE rfl rfl (by simp)) (.cons (Sub.own rfl rfl) .nil)))) (.cons rfl (ObSub.rowsK RK.h) (.cons rfl ObSub.deadT (.cons rfl (ObSub.rows (rows_imm imms_encI_i64)) (.cons rfl (ObSub.rows (rows_imm imms_encI_i64)) .nil)))))) rfl)
  replace h:=RC.f h hb70
  unfold M50_L1 at h
  refine rn 1 rfl ?_
  exact jX l69 h (gr [0,1,2,3,4] rfl (hB rfl rfl rfl (hR rfl rfl (hD rfl (hR rfl rfl (hR rfl rfl .nil))))) rfl)
 intro l65 h
 refine rn 1 rfl ?_
 refine awp_pinD 1 rfl (fun l74=>?_)
 refine fa (rn 6 rfl ?_)
 refine ixo (a:=l65) h rfl rfl rfl (fun x75 hx76 h=>?_)
 refine stS 0 hx76 rfl rfl rfl rfl rfl rfl ?_
 refine rn 4 rfl ?_
 refine aops_buildSlice [(0,(iV a1))] [[(iV a1)]] tEl58 tZ3 rfl rfl rfl rfl wants_none (evp_cons rfl evp_nil) rfl rfl (by simp) rfl ?_
 refine fo (rn 3 rfl ?_)
 refine lC (fun(p:(List Int)×(List Int))=>(⟨[(0,(V.ptr 0 3 0 0)),(5,(V.own 4 (p.1).length))],[(0,(Ob.arr 69 3 [[(V.own 1 a2.length),(V.own 5 (p.2).length),(V.own 3 a4.length)]])),(1,(Ob.arr 123 1 (rowsX (fun i=>some (l74 i)) 125 3 encTreach_arc a2))),(2,Ob.dead),(3,(Ob.arr 3 1 (a4.map encI_i64))),(4,(Ob.arr 3 1 ((p.1).map encI_i64))),(5,(Ob.arr 3 1 ((p.2).map encI_i64)))],6⟩:St)) (fun n p=>M50_L2 F a2 n p.1 p.2=some r) (fun p h=>by simp[M50_L2] at h) F (([a1]:List Int),(l65.set a1.toNat 0)) h (ghost_ren 6 (fun i=>([0,1,2,3,5,4]:List Nat).getD i 0) _ _ (by decide) (EnvSub.get (.cons (Sub.ptr rfl rfl) (.cons (Sub.ownE rfl rfl (by simp)) .nil))) (HpSub.get (.cons rfl (ObSub.box (.cons (Sub.own rfl rfl) (.cons (Sub.ownE rfl rfl (by simp)) (.cons (Sub.own rfl rfl) .nil)))) (.cons rfl (ObSub.rowsK RK.h) (.cons rfl ObSub.deadT (.cons rfl (ObSub.rows (rows_imm imms_encI_i64)) (.cons rfl (ObSub.rows (rows_imm imms_encI_i64)) (.cons rfl (ObSub.rows (rows_imm imms_encI_i64)) .nil))))))) rfl) (fun n p h=>?_)
 obtain⟨l79,l80⟩:=p
 unfold M50_L2 at h
 refine rn 7 rfl ?_
 refine spC h rfl (fun hb81 h=>?_) (fun hb81 h=>?_)
 ·refine rn 1 rfl ?_
  refine jK h (fun(p:(List Int)×(List Int))=>(⟨[(0,(V.ptr 0 3 0 0)),(5,(V.own 4 (p.1).length))],[(0,(Ob.arr 69 3 [[(V.own 1 a2.length),(V.own 5 (p.2).length),(V.own 3 a4.length)]])),(1,(Ob.arr 123 1 (rowsX (fun i=>some (l74 i)) 125 3 encTreach_arc a2))),(2,Ob.dead),(3,(Ob.arr 3 1 (a4.map encI_i64))),(4,(Ob.arr 3 1 ((p.1).map encI_i64))),(5,(Ob.arr 3 1 ((p.2).map encI_i64)))],6⟩:St)) (fun k82 p=>k82 p.1 p.2=some r) (fun k82 h=>?_) ?_
  ·refine rn 4 rfl ?_
   refine ixo (a:=l79) h rfl rfl rfl (fun x85 hx86 h=>?_)
   refine ldp hx86 rfl rfl rfl rfl ?_
   refine rn 5 rfl ?_
   refine ck h (fun hc87 h=>?_)
   refine aops_slice_ownN (nx:=6) (1) (l79.length) ((l79.drop 1).length) ((l79.drop 1).map encI_i64) tSl58 wants_none rfl rfl (by simp) rfl ⟨_,rfl⟩ rfl hc87 (Nat.le_refl _) (List.map_drop ..).symm (by simp) (ndB_rows (rows_imm imms_encI_i64)) rfl ?_
   refine fo (rn 9 rfl ?_)
   refine ixo (a:=a2) h rfl rfl rfl (fun x88 hx89 h=>?_)
   refine aops_loadX tC123 wants_none rfl rfl (idx_some hx89).2 rfl rfl ?_
   refine aops_lenX (id:=1) tIsSl123 wants_none rfl rfl (idx_some hx89).2 rfl rfl ?_
   refine fo (rn 2 rfl ?_)
   refine jK h (fun(p:(List Int)×(List Int))=>(⟨[(0,(V.ptr 0 3 0 0)),(5,(V.own 4 (p.1).length))],[(0,(Ob.arr 69 3 [[(V.own 1 a2.length),(V.own 5 (p.2).length),(V.own 3 a4.length)]])),(1,(Ob.arr 123 1 (rowsX (fun i=>some (l74 i)) 125 3 encTreach_arc a2))),(2,Ob.dead),(3,(Ob.arr 3 1 (a4.map encI_i64))),(4,(Ob.arr 3 1 ((p.1).map encI_i64))),(5,(Ob.arr 3 1 ((p.2).map encI_i64)))],6⟩:St)) (fun k90 p=>k90 p.1 p.2=some r) (fun k90 h=>?_) ?_
   ·refine rn 1 rfl ?_
    refine ck h (fun hA119 h=>?_)
    refine lC (fun(p:Int×(List Int)×(List Int))=>(⟨[(0,(V.ptr 0 3 0 0)),(5,(V.own 4 (p.2.1).length)),(6,(iV x85)),(56,(iV ((x88.length:Nat):Int))),(57,(iV (p.1))),(55,(V.con (l74 x85.toNat)))],[(0,(Ob.arr 69 3 [[(V.own 1 a2.length),(V.own 5 (p.2.2).length),(V.own 3 a4.length)]])),(1,(Ob.arr 123 1 (rowsX (fun i=>some (l74 i)) 125 3 encTreach_arc a2))),(2,Ob.dead),(3,(Ob.arr 3 1 (a4.map encI_i64))),(4,(Ob.arr 3 1 ((p.2.1).map encI_i64))),(5,(Ob.arr 3 1 ((p.2.2).map encI_i64)))],6⟩:St)) (fun n p=>RC ((x88.length:Nat):Int) (fun tl nn=>M50_L3 F a2 x85 k90 tl nn p.2.1 p.2.2=some r) n p.1) (fun p h=>RC.zero h) (Int.toNat ((x88.length:Nat):Int)+1) (0,(l79.drop 1),l80) (RC.start h) (gr [0,1,2,3,6,5] rfl (hB rfl rfl rfl (hR rfl rfl (hD rfl (hR rfl rfl (hR rfl rfl (hR rfl rfl .nil)))))) rfl) (fun n p h=>?_)
    obtain⟨n96,l97,l98⟩:=p
    refine rn 5 rfl ?_
    refine spL rfl (fun hb99=>?_) (fun hb99=>?_)
    ·obtain⟨tl,h,hk3⟩:=RC.t hA119 h hb99
     unfold M50_L3 at h
     refine rn 2 rfl ?_
     refine jK h (fun(p:(List Int)×(List Int))=>(⟨[(0,(V.ptr 0 3 0 0)),(5,(V.own 4 (p.1).length)),(6,(iV x85)),(56,(iV ((x88.length:Nat):Int))),(57,(iV n96)),(55,(V.con (l74 x85.toNat)))],[(0,(Ob.arr 69 3 [[(V.own 1 a2.length),(V.own 5 (p.2).length),(V.own 3 a4.length)]])),(1,(Ob.arr 123 1 (rowsX (fun i=>some (l74 i)) 125 3 encTreach_arc a2))),(2,Ob.dead),(3,(Ob.arr 3 1 (a4.map encI_i64))),(4,(Ob.arr 3 1 ((p.1).map encI_i64))),(5,(Ob.arr 3 1 ((p.2).map encI_i64)))],6⟩:St)) (fun k100 p=>k100 p.1 p.2=some r) (fun k100 h=>?_) ?_
     ·obtain⟨x103,hx104,h⟩:=bind_some h
      obtain⟨y105,hx106,h⟩:=bind_some h
      refine rn 3 rfl ?_
      refine aops_indexX (id:=1) tSl123 wants_none rfl rfl rfl (idx_some hx104).2 rfl (idx_some hx106).1 (idx_some hx106).2 rfl ?_
      refine aops_loadElA (id:=1) (cs:=(encTreach_arc y105)) tA125 wants_none rfl rfl (idx_some hx104).2 rfl (idx_some hx106).2 rfl rfl rfl rfl ?_
      refine fo (rn 4 rfl ?_)
      refine bs h (fun hb107 h=>?_) (fun hb107 h=>?_)
      ·obtain⟨x108,hx109,h⟩:=bind_some h
       refine dr mixed (vs 3 rfl (vb hb107 rfl (vs 6 rfl (oD (a:=l98) hx109 rfl rfl rfl rfl (lD hx109 rfl rfl rfl rfl rfl (vs 2 rfl .nil)))))) (by kernel_rfl) ?_
       refine jK h (fun(p:(List Int)×(List Int))=>(⟨[(0,(V.ptr 0 3 0 0)),(5,(V.own 4 (p.1).length)),(6,(iV x85)),(56,(iV ((x88.length:Nat):Int))),(57,(iV n96)),(73,(bV (decide (x108<0)))),(55,(V.con (l74 x85.toNat)))],[(0,(Ob.arr 69 3 [[(V.own 1 a2.length),(V.own 5 (p.2).length),(V.own 3 a4.length)]])),(1,(Ob.arr 123 1 (rowsX (fun i=>some (l74 i)) 125 3 encTreach_arc a2))),(2,Ob.dead),(3,(Ob.arr 3 1 (a4.map encI_i64))),(4,(Ob.arr 3 1 ((p.1).map encI_i64))),(5,(Ob.arr 3 1 ((p.2).map encI_i64)))],6⟩:St)) (fun k110 p=>k110 p.1 p.2=some r) (fun k110 h=>?_) ?_
       ·refine spC h rfl (fun hb113 h=>?_) (fun hb113 h=>?_)
        ·obtain⟨x114,hx115,h⟩:=bind_some h
         obtain⟨x116,hx117,h⟩:=bind_some h
         refine rn 1 rfl ?_
         refine dr mixed (vs 11 rfl (oD (a:=l98) hx115 rfl rfl rfl rfl (lD hx115 rfl rfl rfl rfl rfl (vs 1 rfl (oD (a:=l98) hx117 rfl rfl rfl rfl (xD (OD.mk [(89,(V.ptr 5 1 y105.to.toNat 0)),(88,(iV (w64 (x114+1))))] [(5,(Ob.arr 3 1 (l98.map encI_i64)))] [] [(5,(Ob.arr 3 1 ((l98.set y105.to.toNat (w64 (x114+1))).map encI_i64)))]) ⟨⟨rfl,rfl,trivial⟩,⟨rfl,trivial⟩⟩ (by exact fun S hn h hh=>aops_store [(iV (w64 (x114+1)))] ((l98.set y105.to.toNat (w64 (x114+1))).map encI_i64) tS3 wants_none h.1 h.2.1 rfl rfl hh.1 (idx_map encI_i64 hx117) rfl (map_set encI_i64 l98 _ (w64 (x114+1))) (aops_nil ⟨rfl,rfl⟩)) rfl .nil)))))) (by kernel_rfl) ?_
         refine rn 4 rfl ?_
         refine aops_buildSlice [(0,(iV y105.to))] [[(iV y105.to)]] tEl58 tZ3 rfl rfl rfl rfl wants_none (evp_cons rfl evp_nil) rfl rfl (by simp) rfl ?_
         refine fo ?_
         refine apO encI_i64 h rfl rfl rfl rfl rfl rfl rfl rfl (fun h=>?_)
         refine rn 2 rfl ?_
         exact jX ((l97++([y105.to]:List Int)),(l98.set y105.to.toNat (w64 (x114+1)))) h (ghost_ren 6 (fun i=>([0,1,2,3,8,5]:List Nat).getD i 0) _ _ (by decide) (EnvSub.get (.cons (Sub.ptr rfl rfl) (.cons (Sub.own rfl rfl) (.cons (Sub.imm (Imm.con _)) (.cons (Sub.imm (Imm.con _)) (.cons (Sub.imm (Imm.con _)) (.cons (Sub.imm (Imm.con _)) (.cons (Sub.imm (Imm.con _)) .nil)))))))) (HpSub.get (.cons rfl (ObSub.box (.cons (Sub.own rfl rfl) (.cons (Sub.ownE rfl rfl (by simp)) (.cons (Sub.own rfl rfl) .nil)))) (.cons rfl (ObSub.rowsK RK.h) (.cons rfl ObSub.deadT (.cons rfl (ObSub.rows (rows_imm imms_encI_i64)) (.cons rfl (ObSub.rows (rows_imm imms_encI_i64)) (.cons rfl (ObSub.rows (rows_imm imms_encI_i64)) .nil))))))) rfl)
        refine rn 1 rfl ?_
        exact jX (l97,l98) h (gr [0,1,2,3,4,5] rfl (hB rfl rfl rfl (hR rfl rfl (hD rfl (hR rfl rfl (hR rfl rfl (hR rfl rfl .nil)))))) rfl)
       rintro⟨l111,l112⟩ h
       refine rn 1 rfl ?_
       exact jX (l111,l112) h (gr [0,1,2,3,4,5] rfl (hB rfl rfl rfl (hR rfl rfl (hD rfl (hR rfl rfl (hR rfl rfl (hR rfl rfl .nil)))))) rfl)
      refine dr mixed (vs 3 rfl (vb hb107 rfl (vs 10 rfl .nil))) (by kernel_rfl) ?_
      refine rn 3 rfl ?_
      exact jX (l97,l98) h (gr [0,1,2,3,4,5] rfl (hB rfl rfl rfl (hR rfl rfl (hD rfl (hR rfl rfl (hR rfl rfl (hR rfl rfl .nil)))))) rfl)
     rintro⟨l101,l102⟩ h
     refine rn 4 rfl ?_
     exact jX ((w64 (n96+1)),l101,l102) (hk3 _ h) (gr [0,1,2,3,4,5] rfl (hB rfl rfl rfl (hR rfl rfl (hD rfl (hR rfl rfl (hR rfl rfl (hR rfl rfl .nil)))))) rfl)
    replace h:=RC.f h hb99
    unfold M50_L3 at h
    refine rn 1 rfl ?_
    exact jX (l97,l98) h (gr [0,1,2,3,4,5] rfl (hB rfl rfl rfl (hR rfl rfl (hD rfl (hR rfl rfl (hR rfl rfl (hR rfl rfl .nil)))))) rfl)
   rintro⟨l91,l92⟩ h
   refine rn 1 rfl ?_
   exact jX (l91,l92) h (gr [0,1,2,3,4,5] rfl (hB rfl rfl rfl (hR rfl rfl (hD rfl (hR rfl rfl (hR rfl rfl (hR rfl rfl .nil)))))) rfl)
  rintro⟨l83,l84⟩ h
  exact jX (l83,l84) h (gr [0,1,2,3,4,5] rfl (hB rfl rfl rfl (hR rfl rfl (hD rfl (hR rfl rfl (hR rfl rfl (hR rfl rfl .nil)))))) rfl)
 refine rn 1 rfl ?_
 replace h:=Option.some.inj h
 subst h
 exact wE ⟨.inr rfl,[],(Ghost.trans (ghost_unpin 1 rfl) (gr [0,1,2,3,5] rfl (hB rfl rfl rfl (hR rfl rfl (hD rfl (hR rfl rfl (hR rfl rfl .nil))))) rfl)),.nil⟩
theorem W51_B{l0:Nat->Value}(R51:Int->Int->(List (List Treach_arc))->(List Int)->(List Int)->Option (Bool×(List (List Treach_arc))×(List Int)))(hR51:∀(a1:Int) (a2:Int) (a3:List (List Treach_arc)) (a4:List Int) (a5:List Int) (r:(Bool×(List (List Treach_arc))×(List Int))),R51 a1 a2 a3 a4 a5=some r->Mut Tryz.prog 51 [(V.ptr 0 3 0 0),(iV a1),(iV a2)] 4 [(0,(Ob.arr 69 3 [[(V.own 1 a3.length),(V.own 2 a4.length),(V.own 3 a5.length)]])),(1,(Ob.arr 123 1 (rowsX (fun i=>some (l0 i)) 125 3 encTreach_arc a3))),(2,(Ob.arr 3 1 (a4.map encI_i64))),(3,(Ob.arr 3 1 (a5.map encI_i64)))] (resV [(bV (r.1))]) 4 [(0,(Ob.arr 69 3 [[(V.own 1 (r.2.1).length),(V.own 2 a4.length),(V.own 3 (r.2.2).length)]])),(1,(Ob.arr 123 1 (rowsX (fun i=>some (l0 i)) 125 3 encTreach_arc (r.2.1)))),(2,(Ob.arr 3 1 (a4.map encI_i64))),(3,(Ob.arr 3 1 ((r.2.2).map encI_i64)))])(F:Nat)(a1:Int)(a2:Int)(a3:List (List Treach_arc))(a4:List Int)(a5:List Int)(r:(Bool×(List (List Treach_arc))×(List Int)))(h:M51_B R51 F a1 a2 a3 a4 a5=some r):Mut Tryz.prog 51 [(V.ptr 0 3 0 0),(iV a1),(iV a2)] 4 [(0,(Ob.arr 69 3 [[(V.own 1 a3.length),(V.own 2 a4.length),(V.own 3 a5.length)]])),(1,(Ob.arr 123 1 (rowsX (fun i=>some (l0 i)) 125 3 encTreach_arc a3))),(2,(Ob.arr 3 1 (a4.map encI_i64))),(3,(Ob.arr 3 1 (a5.map encI_i64)))] (resV [(bV (r.1))]) 4 [(0,(Ob.arr 69 3 [[(V.own 1 (r.2.1).length),(V.own 2 a4.length),(V.own 3 (r.2.2).length)]])),(1,(Ob.arr 123 1 (rowsX (fun i=>some (l0 i)) 125 3 encTreach_arc (r.2.1)))),(2,(Ob.arr 3 1 (a4.map encI_i64))),(3,(Ob.arr 3 1 ((r.2.2).map encI_i64)))]:=by
 refine mut_enter Tryz.func51 rfl rfl (l:=[.tmp 6]) rfl rfl [(0,(V.ptr 0 3 0 0)),(1,(iV a1)),(2,(iV a2))] rfl (fun w0 m0 β0 hg=>en ?_)
 unfold M51_B at h
 refine rn 11 rfl ?_
 refine spC h rfl (fun hb56 h=>?_) (fun hb56 h=>?_)
 ·refine rn 4 rfl ?_
  replace h:=Option.some.inj h
  subst h
  exact wR ⟨.inl rfl,[(6,(bV true))],(gr [0,1,2,3] rfl (hB rfl rfl rfl (hR rfl rfl (hR rfl rfl (hR rfl rfl .nil)))) rfl),(.cons (.tmp rfl) .nil)⟩
 refine rn 2 rfl ?_
 refine jK h (fun(p:(List (List Treach_arc))×(List Int))=>(⟨[],[(0,(Ob.arr 69 3 [[(V.own 1 (p.1).length),(V.own 2 a4.length),(V.own 3 (p.2).length)]])),(1,(Ob.arr 123 1 (rowsX (fun i=>some (l0 i)) 125 3 encTreach_arc (p.1)))),(2,(Ob.arr 3 1 (a4.map encI_i64))),(3,(Ob.arr 3 1 ((p.2).map encI_i64)))],4⟩:St)) (fun k57 p=>k57 p.1 p.2=some r) (fun k57 h=>?_) ?_
 ·refine rn 1 rfl ?_
  refine lC (fun(p:(List (List Treach_arc))×(List Int))=>(⟨[(0,(V.ptr 0 3 0 0)),(1,(iV a1)),(2,(iV a2))],[(0,(Ob.arr 69 3 [[(V.own 1 (p.1).length),(V.own 2 a4.length),(V.own 3 (p.2).length)]])),(1,(Ob.arr 123 1 (rowsX (fun i=>some (l0 i)) 125 3 encTreach_arc (p.1)))),(2,(Ob.arr 3 1 (a4.map encI_i64))),(3,(Ob.arr 3 1 ((p.2).map encI_i64)))],4⟩:St)) (fun n p=>M51_L1 R51 F a1 a2 a4 k57 n p.1 p.2=some r) (fun p h=>by simp[M51_L1] at h) F (a3,a5) h (gr [0,1,2,3] rfl (hB rfl rfl rfl (hR rfl rfl (hR rfl rfl (hR rfl rfl .nil)))) rfl) (fun n p h=>?_)
  obtain⟨l62,l63⟩:=p
  unfold M51_L1 at h
  obtain⟨x64,hx65,h⟩:=bind_some h
  obtain⟨x66,hx67,h⟩:=bind_some h
  refine rn 2 rfl ?_
  refine dr mixed (vs 5 rfl (oD (a:=l63) hx65 rfl rfl rfl rfl (lD hx65 rfl rfl rfl rfl rfl (vs 5 rfl (oD (a:=l62) hx67 rfl rfl rfl rfl (xD (OD.mk [(23,(V.ptr 1 1 a1.toNat 0))] [(1,(Ob.arr 123 1 (rowsX (fun i=>some (l0 i)) 125 3 encTreach_arc l62)))] [(24,(V.con (l0 a1.toNat)))] []) ⟨⟨rfl,trivial⟩,⟨rfl,trivial⟩⟩ (by exact fun S hn h hh=>aops_loadX tC123 wants_none h.1 hh.1 (idx_some hx67).2 rfl rfl (aops_nil ⟨rfl,rfl⟩)) rfl (xD (OD.mk [(24,(V.con (l0 a1.toNat)))] [(1,(Ob.arr 123 1 (rowsX (fun i=>some (l0 i)) 125 3 encTreach_arc l62)))] [(25,(iV ((x66.length:Nat):Int)))] []) ⟨⟨rfl,trivial⟩,⟨rfl,trivial⟩⟩ (by exact fun S hn h hh=>aops_lenX (id:=1) tIsSl123 wants_none h.1 hh.1 (idx_some hx67).2 rfl rfl (aops_nil ⟨rfl,rfl⟩)) rfl (vs 1 rfl .nil)))))))) (by kernel_rfl) ?_
  refine spC h rfl (fun hb68 h=>?_) (fun hb68 h=>?_)
  ·refine rn 2 rfl ?_
   refine jK h (fun(p:(List (List Treach_arc))×(List Int))=>(⟨[(0,(V.ptr 0 3 0 0)),(1,(iV a1)),(2,(iV a2))],[(0,(Ob.arr 69 3 [[(V.own 1 (p.1).length),(V.own 2 a4.length),(V.own 3 (p.2).length)]])),(1,(Ob.arr 123 1 (rowsX (fun i=>some (l0 i)) 125 3 encTreach_arc (p.1)))),(2,(Ob.arr 3 1 (a4.map encI_i64))),(3,(Ob.arr 3 1 ((p.2).map encI_i64)))],4⟩:St)) (fun k69 p=>k69 p.1 p.2=some r) (fun k69 h=>?_) ?_
   ·obtain⟨x72,hx73,h⟩:=bind_some h
    obtain⟨x74,hx75,h⟩:=bind_some h
    obtain⟨y76,hx77,h⟩:=bind_some h
    refine rn 2 rfl ?_
    refine dr mixed (vs 5 rfl (oD (a:=l62) hx73 rfl rfl rfl rfl (xD (OD.mk [(41,(V.ptr 1 1 a1.toNat 0))] [(1,(Ob.arr 123 1 (rowsX (fun i=>some (l0 i)) 125 3 encTreach_arc l62)))] [(42,(V.con (l0 a1.toNat)))] []) ⟨⟨rfl,trivial⟩,⟨rfl,trivial⟩⟩ (by exact fun S hn h hh=>aops_loadX tC123 wants_none h.1 hh.1 (idx_some hx73).2 rfl rfl (aops_nil ⟨rfl,rfl⟩)) rfl (vs 5 rfl (oD (a:=l63) hx75 rfl rfl rfl rfl (lD hx75 rfl rfl rfl rfl rfl (xD (OD.mk [(42,(V.con (l0 a1.toNat))),(49,(iV x74))] [(1,(Ob.arr 123 1 (rowsX (fun i=>some (l0 i)) 125 3 encTreach_arc l62)))] [(50,(V.con (ptrX (l0 a1.toNat) ((x74.toNat)*3))))] []) ⟨⟨rfl,rfl,trivial⟩,⟨rfl,trivial⟩⟩ (by exact fun S hn h hh=>aops_indexX (id:=1) tSl123 wants_none h.1 h.2.1 hh.1 (idx_some hx73).2 rfl (idx_some hx77).1 (idx_some hx77).2 rfl (aops_nil ⟨rfl,rfl⟩)) rfl (vs 1 rfl .nil)))))))) (by kernel_rfl) ?_
    refine rn 1 rfl ?_
    refine bs h (fun hb78 h=>?_) (fun hb78 h=>?_)
    ·obtain⟨x79,hx80,h⟩:=bind_some h
     obtain⟨x81,hx82,h⟩:=bind_some h
     refine bs h (fun hb83 h=>?_) (fun hb83 h=>?_)
     ·obtain⟨y84,hx85,h⟩:=bind_some h
      refine dr mixed (vs 1 rfl (xD (OD.mk [(51,(V.con (ptrX (l0 a1.toNat) ((x74.toNat)*3))))] [(1,(Ob.arr 123 1 (rowsX (fun i=>some (l0 i)) 125 3 encTreach_arc l62)))] [(52,(V.con (ptrX (l0 a1.toNat) ((x74.toNat)*3))))] []) ⟨⟨rfl,trivial⟩,⟨rfl,trivial⟩⟩ (by exact fun S hn h hh=>aops_nilCheckX (id:=1) wants_none h.1 hh.1 (idx_some hx73).2 rfl (idx_some hx77).2 rfl (aops_nil ⟨rfl,rfl⟩)) rfl (xD (OD.mk [(52,(V.con (ptrX (l0 a1.toNat) ((x74.toNat)*3))))] [(1,(Ob.arr 123 1 (rowsX (fun i=>some (l0 i)) 125 3 encTreach_arc l62)))] [(53,(V.con (ptrX (l0 a1.toNat) ((x74.toNat)*3+1))))] []) ⟨⟨rfl,trivial⟩,⟨rfl,trivial⟩⟩ (by exact fun S hn h hh=>aops_fieldX (id:=1) tF125_1 wants_none h.1 hh.1 (idx_some hx73).2 rfl (idx_some hx77).2 rfl (aops_nil ⟨rfl,rfl⟩)) rfl (xD (OD.mk [(53,(V.con (ptrX (l0 a1.toNat) ((x74.toNat)*3+1))))] [(1,(Ob.arr 123 1 (rowsX (fun i=>some (l0 i)) 125 3 encTreach_arc l62)))] [(54,(iV y76.left))] []) ⟨⟨rfl,trivial⟩,⟨rfl,trivial⟩⟩ (by exact fun S hn h hh=>aops_loadEl (id:=1) (iV y76.left) tC3 wants_none h.1 hh.1 (idx_some hx73).2 rfl (idx_some hx77).2 rfl rfl rfl rfl (aops_nil ⟨rfl,rfl⟩)) rfl (vs 1 rfl (vb hb78 rfl (vs 5 rfl (xD (OD.mk [(56,(bV true)),(61,(V.con (ptrX (l0 a1.toNat) ((x74.toNat)*3))))] [(1,(Ob.arr 123 1 (rowsX (fun i=>some (l0 i)) 125 3 encTreach_arc l62)))] [(62,(V.con (ptrX (l0 a1.toNat) ((x74.toNat)*3))))] []) ⟨⟨rfl,rfl,trivial⟩,⟨rfl,trivial⟩⟩ (by exact fun S hn h hh=>aops_nilCheckX (id:=1) (wants_some (c:=true) (b:=true) 56 rfl h.1 rfl) h.2.1 hh.1 (idx_some hx73).2 rfl (idx_some hx77).2 rfl (aops_nil ⟨rfl,rfl⟩)) rfl (xD (OD.mk [(56,(bV true)),(62,(V.con (ptrX (l0 a1.toNat) ((x74.toNat)*3))))] [(1,(Ob.arr 123 1 (rowsX (fun i=>some (l0 i)) 125 3 encTreach_arc l62)))] [(63,(V.con (ptrX (l0 a1.toNat) ((x74.toNat)*3+0))))] []) ⟨⟨rfl,rfl,trivial⟩,⟨rfl,trivial⟩⟩ (by exact fun S hn h hh=>aops_fieldX (id:=1) tF125_0 (wants_some (c:=true) (b:=true) 56 rfl h.1 rfl) h.2.1 hh.1 (idx_some hx73).2 rfl (idx_some hx77).2 rfl (aops_nil ⟨rfl,rfl⟩)) rfl (xD (OD.mk [(56,(bV true)),(63,(V.con (ptrX (l0 a1.toNat) ((x74.toNat)*3+0))))] [(1,(Ob.arr 123 1 (rowsX (fun i=>some (l0 i)) 125 3 encTreach_arc l62)))] [(64,(iV y76.to))] []) ⟨⟨rfl,rfl,trivial⟩,⟨rfl,trivial⟩⟩ (by exact fun S hn h hh=>aops_loadEl (id:=1) (iV y76.to) tC3 (wants_some (c:=true) (b:=true) 56 rfl h.1 rfl) h.2.1 hh.1 (idx_some hx73).2 rfl (idx_some hx77).2 rfl rfl rfl rfl (aops_nil ⟨rfl,rfl⟩)) rfl (oD (a:=a4) hx80 rfl rfl rfl rfl (lD hx80 rfl rfl rfl rfl rfl (vs 5 rfl (oD (a:=a4) hx82 rfl rfl rfl rfl (lD hx82 rfl rfl rfl rfl rfl (vs 3 rfl (vb hb83 rfl (vs 2 rfl (xD (OD.mk [(77,(bV true)),(79,(V.con (ptrX (l0 a1.toNat) ((x74.toNat)*3))))] [(1,(Ob.arr 123 1 (rowsX (fun i=>some (l0 i)) 125 3 encTreach_arc l62)))] [(80,(V.con (ptrX (l0 a1.toNat) ((x74.toNat)*3))))] []) ⟨⟨rfl,rfl,trivial⟩,⟨rfl,trivial⟩⟩ (by exact fun S hn h hh=>aops_nilCheckX (id:=1) (wants_some (c:=true) (b:=true) 77 rfl h.1 rfl) h.2.1 hh.1 (idx_some hx73).2 rfl (idx_some hx77).2 rfl (aops_nil ⟨rfl,rfl⟩)) rfl (xD (OD.mk [(77,(bV true)),(80,(V.con (ptrX (l0 a1.toNat) ((x74.toNat)*3))))] [(1,(Ob.arr 123 1 (rowsX (fun i=>some (l0 i)) 125 3 encTreach_arc l62)))] [(81,(V.con (ptrX (l0 a1.toNat) ((x74.toNat)*3+0))))] []) ⟨⟨rfl,rfl,trivial⟩,⟨rfl,trivial⟩⟩ (by exact fun S hn h hh=>aops_fieldX (id:=1) tF125_0 (wants_some (c:=true) (b:=true) 77 rfl h.1 rfl) h.2.1 hh.1 (idx_some hx73).2 rfl (idx_some hx77).2 rfl (aops_nil ⟨rfl,rfl⟩)) rfl (xD (OD.mk [(77,(bV true)),(81,(V.con (ptrX (l0 a1.toNat) ((x74.toNat)*3+0))))] [(1,(Ob.arr 123 1 (rowsX (fun i=>some (l0 i)) 125 3 encTreach_arc l62)))] [(82,(iV y76.to))] []) ⟨⟨rfl,rfl,trivial⟩,⟨rfl,trivial⟩⟩ (by exact fun S hn h hh=>aops_loadEl (id:=1) (iV y76.to) tC3 (wants_some (c:=true) (b:=true) 77 rfl h.1 rfl) h.2.1 hh.1 (idx_some hx73).2 rfl (idx_some hx77).2 rfl rfl rfl rfl (aops_nil ⟨rfl,rfl⟩)) rfl (vs 1 rfl (xD (OD.mk [(77,(bV true)),(78,(V.ptr 0 3 0 0)),(82,(iV y76.to)),(83,(iV a2))] [(0,(Ob.arr 69 3 [[(V.own 1 l62.length),(V.own 2 a4.length),(V.own 3 l63.length)]])),(1,(Ob.arr 123 1 (rowsX (fun i=>some (l0 i)) 125 3 encTreach_arc l62))),(2,(Ob.arr 3 1 (a4.map encI_i64))),(3,(Ob.arr 3 1 (l63.map encI_i64)))] [(84,(bV (y84.1)))] [(0,(Ob.arr 69 3 [[(V.own 1 (y84.2.1).length),(V.own 2 a4.length),(V.own 3 (y84.2.2).length)]])),(1,(Ob.arr 123 1 (rowsX (fun i=>some (l0 i)) 125 3 encTreach_arc (y84.2.1)))),(2,(Ob.arr 3 1 (a4.map encI_i64))),(3,(Ob.arr 3 1 ((y84.2.2).map encI_i64)))]) ⟨⟨rfl,rfl,rfl,rfl,trivial⟩,⟨rfl,rfl,rfl,rfl,trivial⟩⟩ (by exact fun S hn h hh=>aops_mcall_atH [] hn (fun _ hx=>nomatch hx) (bV (y84.1)) [(V.ptr 0 3 0 0),(iV y76.to),(iV a2)] (fun i=>([0,1,2,3]:List Nat).getD i 0) (fun i=>([0,1,2,3]:List Nat).getD i 0) [(0,(Ob.arr 69 3 [[(V.own 1 (y84.2.1).length),(V.own 2 a4.length),(V.own 3 (y84.2.2).length)]])),(1,(Ob.arr 123 1 (rowsX (fun i=>some (l0 i)) 125 3 encTreach_arc (y84.2.1)))),(2,(Ob.arr 3 1 (a4.map encI_i64))),(3,(Ob.arr 3 1 ((y84.2.2).map encI_i64)))] fOk51 (wants_some (c:=true) (b:=true) 77 rfl h.1 rfl) rfl (evm_cons h.2.1 (evm_cons h.2.2.1 (evm_cons h.2.2.2.1 evm_nil))) (.cons (Sub.ptr rfl rfl) (.cons (Sub.imm (Imm.con _)) (.cons (Sub.imm (Imm.con _)) .nil))) (HpSub.consE (id:=0) rfl hh.1 (ObSub.box (.cons (Sub.own rfl rfl) (.cons (Sub.own rfl rfl) (.cons (Sub.own rfl rfl) .nil)))) (HpSub.consE (id:=1) rfl hh.2.1 (ObSub.rowsK RK.h) (HpSub.consE (id:=2) rfl hh.2.2.1 (ObSub.rows (rows_imm imms_encI_i64)) (HpSub.consE (id:=3) rfl hh.2.2.2.1 (ObSub.rows (rows_imm imms_encI_i64)) .nil)))) (hR51 y76.to a2 l62 a4 l63 _ hx85) rfl rfl rfl rfl (Sub.immT (Imm.con _)) (.cons rfl (ObSub.box (.cons (Sub.ownT rfl rfl) (.cons (Sub.ownT rfl rfl) (.cons (Sub.ownT rfl rfl) .nil)))) (.cons rfl (ObSub.rowsTK RK.h) (.cons rfl (ObSub.rowsT (rows_imm imms_encI_i64)) (.cons rfl (ObSub.rowsT (rows_imm imms_encI_i64)) .nil)))) (aops_nil ⟨rfl,rfl⟩)) rfl (vs 1 rfl .nil)))))))))))))))))))))))) (by kernel_rfl) ?_
      refine spC h rfl (fun hb86 h=>?_) (fun hb86 h=>?_)
      ·obtain⟨x87,hx88,h⟩:=bind_some h
       obtain⟨y89,hx90,h⟩:=bind_some h
       refine rn 3 rfl ?_
       refine aops_nilCheckX (id:=1) wants_none rfl rfl (idx_some hx88).2 rfl (idx_some hx90).2 rfl ?_
       refine aops_fieldX (id:=1) tF125_1 wants_none rfl rfl (idx_some hx88).2 rfl (idx_some hx90).2 rfl ?_
       refine aops_loadEl (id:=1) (iV y89.left) tC3 wants_none rfl rfl (idx_some hx88).2 rfl (idx_some hx90).2 rfl rfl rfl rfl ?_
       refine fo (rn 1 rfl ?_)
       refine aops_nilCheckX (id:=1) wants_none rfl rfl (idx_some hx88).2 rfl (idx_some hx90).2 rfl ?_
       refine aops_fieldX (id:=1) tF125_1 wants_none rfl rfl (idx_some hx88).2 rfl (idx_some hx90).2 rfl ?_
       refine aops_storeEl (id:=1) (Treach_arc.mk y89.to (w64 (y89.left - 1)) y89.back) ((y84.2.1).set a1.toNat (x87.set x74.toNat (Treach_arc.mk y89.to (w64 (y89.left - 1)) y89.back))) tS3 wants_none rfl rfl rfl rfl (Imm.con _).2 rfl (idx_some hx88).2 rfl (idx_some hx90).2 rfl rfl (Nat.le_of_ble_eq_true rfl) rfl ?_
       obtain⟨x91,hx92,h⟩:=bind_some h
       obtain⟨y93,hx94,h⟩:=bind_some h
       obtain⟨x95,hx96,h⟩:=bind_some h
       obtain⟨y97,hx98,h⟩:=bind_some h
       refine fo (rn 2 rfl ?_)
       refine dr mixed (vs 5 rfl (xD (OD.mk [(97,(V.con (ptrX (l0 a1.toNat) ((x74.toNat)*3))))] [(1,(Ob.arr 123 1 (rowsX (fun i=>some (l0 i)) 125 3 encTreach_arc ((y84.2.1).set a1.toNat (x87.set x74.toNat (Treach_arc.mk y89.to (w64 (y89.left - 1)) y89.back))))))] [(98,(V.con (ptrX (l0 a1.toNat) ((x74.toNat)*3))))] []) ⟨⟨rfl,trivial⟩,⟨rfl,trivial⟩⟩ (by exact fun S hn h hh=>aops_nilCheckX (id:=1) wants_none h.1 hh.1 (idx_some hx92).2 rfl (idx_some hx94).2 rfl (aops_nil ⟨rfl,rfl⟩)) rfl (xD (OD.mk [(98,(V.con (ptrX (l0 a1.toNat) ((x74.toNat)*3))))] [(1,(Ob.arr 123 1 (rowsX (fun i=>some (l0 i)) 125 3 encTreach_arc ((y84.2.1).set a1.toNat (x87.set x74.toNat (Treach_arc.mk y89.to (w64 (y89.left - 1)) y89.back))))))] [(99,(V.con (ptrX (l0 a1.toNat) ((x74.toNat)*3+0))))] []) ⟨⟨rfl,trivial⟩,⟨rfl,trivial⟩⟩ (by exact fun S hn h hh=>aops_fieldX (id:=1) tF125_0 wants_none h.1 hh.1 (idx_some hx92).2 rfl (idx_some hx94).2 rfl (aops_nil ⟨rfl,rfl⟩)) rfl (xD (OD.mk [(99,(V.con (ptrX (l0 a1.toNat) ((x74.toNat)*3+0))))] [(1,(Ob.arr 123 1 (rowsX (fun i=>some (l0 i)) 125 3 encTreach_arc ((y84.2.1).set a1.toNat (x87.set x74.toNat (Treach_arc.mk y89.to (w64 (y89.left - 1)) y89.back))))))] [(100,(iV y93.to))] []) ⟨⟨rfl,trivial⟩,⟨rfl,trivial⟩⟩ (by exact fun S hn h hh=>aops_loadEl (id:=1) (iV y93.to) tC3 wants_none h.1 hh.1 (idx_some hx92).2 rfl (idx_some hx94).2 rfl rfl rfl rfl (aops_nil ⟨rfl,rfl⟩)) rfl (xD (OD.mk [(96,(V.own 1 (y84.2.1).length)),(100,(iV y93.to))] [] [(101,(V.ptr 1 1 y93.to.toNat 0))] []) ⟨⟨rfl,rfl,trivial⟩,trivial⟩ (by exact fun S hn h hh=>aops_index_own tSl67 wants_none h.1 h.2.1 (idx_some hx96).1 (by simpa using idx_lt hx96) rfl (aops_nil ⟨rfl,rfl⟩)) rfl (xD (OD.mk [(101,(V.ptr 1 1 y93.to.toNat 0))] [(1,(Ob.arr 123 1 (rowsX (fun i=>some (l0 i)) 125 3 encTreach_arc ((y84.2.1).set a1.toNat (x87.set x74.toNat (Treach_arc.mk y89.to (w64 (y89.left - 1)) y89.back))))))] [(102,(V.con (l0 y93.to.toNat)))] []) ⟨⟨rfl,trivial⟩,⟨rfl,trivial⟩⟩ (by exact fun S hn h hh=>aops_loadX tC123 wants_none h.1 hh.1 (idx_some hx96).2 rfl rfl (aops_nil ⟨rfl,rfl⟩)) rfl (vs 1 rfl (xD (OD.mk [(103,(V.con (ptrX (l0 a1.toNat) ((x74.toNat)*3))))] [(1,(Ob.arr 123 1 (rowsX (fun i=>some (l0 i)) 125 3 encTreach_arc ((y84.2.1).set a1.toNat (x87.set x74.toNat (Treach_arc.mk y89.to (w64 (y89.left - 1)) y89.back))))))] [(104,(V.con (ptrX (l0 a1.toNat) ((x74.toNat)*3))))] []) ⟨⟨rfl,trivial⟩,⟨rfl,trivial⟩⟩ (by exact fun S hn h hh=>aops_nilCheckX (id:=1) wants_none h.1 hh.1 (idx_some hx92).2 rfl (idx_some hx94).2 rfl (aops_nil ⟨rfl,rfl⟩)) rfl (xD (OD.mk [(104,(V.con (ptrX (l0 a1.toNat) ((x74.toNat)*3))))] [(1,(Ob.arr 123 1 (rowsX (fun i=>some (l0 i)) 125 3 encTreach_arc ((y84.2.1).set a1.toNat (x87.set x74.toNat (Treach_arc.mk y89.to (w64 (y89.left - 1)) y89.back))))))] [(105,(V.con (ptrX (l0 a1.toNat) ((x74.toNat)*3+2))))] []) ⟨⟨rfl,trivial⟩,⟨rfl,trivial⟩⟩ (by exact fun S hn h hh=>aops_fieldX (id:=1) tF125_2 wants_none h.1 hh.1 (idx_some hx92).2 rfl (idx_some hx94).2 rfl (aops_nil ⟨rfl,rfl⟩)) rfl (xD (OD.mk [(105,(V.con (ptrX (l0 a1.toNat) ((x74.toNat)*3+2))))] [(1,(Ob.arr 123 1 (rowsX (fun i=>some (l0 i)) 125 3 encTreach_arc ((y84.2.1).set a1.toNat (x87.set x74.toNat (Treach_arc.mk y89.to (w64 (y89.left - 1)) y89.back))))))] [(106,(iV y93.back))] []) ⟨⟨rfl,trivial⟩,⟨rfl,trivial⟩⟩ (by exact fun S hn h hh=>aops_loadEl (id:=1) (iV y93.back) tC3 wants_none h.1 hh.1 (idx_some hx92).2 rfl (idx_some hx94).2 rfl rfl rfl rfl (aops_nil ⟨rfl,rfl⟩)) rfl (xD (OD.mk [(102,(V.con (l0 y93.to.toNat))),(106,(iV y93.back))] [(1,(Ob.arr 123 1 (rowsX (fun i=>some (l0 i)) 125 3 encTreach_arc ((y84.2.1).set a1.toNat (x87.set x74.toNat (Treach_arc.mk y89.to (w64 (y89.left - 1)) y89.back))))))] [(107,(V.con (ptrX (l0 y93.to.toNat) ((y93.back.toNat)*3))))] []) ⟨⟨rfl,rfl,trivial⟩,⟨rfl,trivial⟩⟩ (by exact fun S hn h hh=>aops_indexX (id:=1) tSl123 wants_none h.1 h.2.1 hh.1 (idx_some hx96).2 rfl (idx_some hx98).1 (idx_some hx98).2 rfl (aops_nil ⟨rfl,rfl⟩)) rfl (xD (OD.mk [(107,(V.con (ptrX (l0 y93.to.toNat) ((y93.back.toNat)*3))))] [(1,(Ob.arr 123 1 (rowsX (fun i=>some (l0 i)) 125 3 encTreach_arc ((y84.2.1).set a1.toNat (x87.set x74.toNat (Treach_arc.mk y89.to (w64 (y89.left - 1)) y89.back))))))] [(108,(V.con (ptrX (l0 y93.to.toNat) ((y93.back.toNat)*3+1))))] []) ⟨⟨rfl,trivial⟩,⟨rfl,trivial⟩⟩ (by exact fun S hn h hh=>aops_fieldX (id:=1) tF125_1 wants_none h.1 hh.1 (idx_some hx96).2 rfl (idx_some hx98).2 rfl (aops_nil ⟨rfl,rfl⟩)) rfl (xD (OD.mk [(108,(V.con (ptrX (l0 y93.to.toNat) ((y93.back.toNat)*3+1))))] [(1,(Ob.arr 123 1 (rowsX (fun i=>some (l0 i)) 125 3 encTreach_arc ((y84.2.1).set a1.toNat (x87.set x74.toNat (Treach_arc.mk y89.to (w64 (y89.left - 1)) y89.back))))))] [(109,(iV y97.left))] []) ⟨⟨rfl,trivial⟩,⟨rfl,trivial⟩⟩ (by exact fun S hn h hh=>aops_loadEl (id:=1) (iV y97.left) tC3 wants_none h.1 hh.1 (idx_some hx96).2 rfl (idx_some hx98).2 rfl rfl rfl rfl (aops_nil ⟨rfl,rfl⟩)) rfl (vs 1 rfl (xD (OD.mk [(102,(V.con (l0 y93.to.toNat))),(106,(iV y93.back))] [(1,(Ob.arr 123 1 (rowsX (fun i=>some (l0 i)) 125 3 encTreach_arc ((y84.2.1).set a1.toNat (x87.set x74.toNat (Treach_arc.mk y89.to (w64 (y89.left - 1)) y89.back))))))] [(111,(V.con (ptrX (l0 y93.to.toNat) ((y93.back.toNat)*3))))] []) ⟨⟨rfl,rfl,trivial⟩,⟨rfl,trivial⟩⟩ (by exact fun S hn h hh=>aops_indexX (id:=1) tSl123 wants_none h.1 h.2.1 hh.1 (idx_some hx96).2 rfl (idx_some hx98).1 (idx_some hx98).2 rfl (aops_nil ⟨rfl,rfl⟩)) rfl (xD (OD.mk [(111,(V.con (ptrX (l0 y93.to.toNat) ((y93.back.toNat)*3))))] [(1,(Ob.arr 123 1 (rowsX (fun i=>some (l0 i)) 125 3 encTreach_arc ((y84.2.1).set a1.toNat (x87.set x74.toNat (Treach_arc.mk y89.to (w64 (y89.left - 1)) y89.back))))))] [(112,(V.con (ptrX (l0 y93.to.toNat) ((y93.back.toNat)*3+1))))] []) ⟨⟨rfl,trivial⟩,⟨rfl,trivial⟩⟩ (by exact fun S hn h hh=>aops_fieldX (id:=1) tF125_1 wants_none h.1 hh.1 (idx_some hx96).2 rfl (idx_some hx98).2 rfl (aops_nil ⟨rfl,rfl⟩)) rfl (xD (OD.mk [(112,(V.con (ptrX (l0 y93.to.toNat) ((y93.back.toNat)*3+1)))),(110,(iV (w64 (y97.left+1))))] [(1,(Ob.arr 123 1 (rowsX (fun i=>some (l0 i)) 125 3 encTreach_arc ((y84.2.1).set a1.toNat (x87.set x74.toNat (Treach_arc.mk y89.to (w64 (y89.left - 1)) y89.back))))))] [] [(1,(Ob.arr 123 1 (rowsX (fun i=>some (l0 i)) 125 3 encTreach_arc (((y84.2.1).set a1.toNat (x87.set x74.toNat (Treach_arc.mk y89.to (w64 (y89.left - 1)) y89.back))).set y93.to.toNat (x95.set y93.back.toNat (Treach_arc.mk y97.to (w64 (y97.left+1)) y97.back))))))]) ⟨⟨rfl,rfl,trivial⟩,⟨rfl,trivial⟩⟩ (by exact fun S hn h hh=>aops_storeEl (id:=1) (Treach_arc.mk y97.to (w64 (y97.left+1)) y97.back) (((y84.2.1).set a1.toNat (x87.set x74.toNat (Treach_arc.mk y89.to (w64 (y89.left - 1)) y89.back))).set y93.to.toNat (x95.set y93.back.toNat (Treach_arc.mk y97.to (w64 (y97.left+1)) y97.back))) tS3 wants_none h.1 h.2.1 rfl rfl (Imm.con _).2 hh.1 (idx_some hx96).2 rfl (idx_some hx98).2 rfl rfl (Nat.le_of_ble_eq_true rfl) rfl (aops_nil ⟨rfl,rfl⟩)) rfl .nil))))))))))))))))) (by kernel_rfl) ?_
       refine rn 4 rfl ?_
       replace h:=Option.some.inj h
       subst h
       exact wR ⟨.inl rfl,[(6,(bV true))],(ghost_ren 4 (fun i=>([0,1,2,3]:List Nat).getD i 0) _ _ (by decide) (EnvSub.get (.cons (Sub.imm (Imm.con _)) .nil)) (HpSub.get (.cons rfl (ObSub.box (.cons (Sub.ownE rfl rfl (by simp)) (.cons (Sub.own rfl rfl) (.cons (Sub.own rfl rfl) .nil)))) (.cons rfl (ObSub.rowsK RK.h) (.cons rfl (ObSub.rows (rows_imm imms_encI_i64)) (.cons rfl (ObSub.rows (rows_imm imms_encI_i64)) .nil))))) rfl),(.cons (.tmp rfl) .nil)⟩
      refine rn 2 rfl ?_
      exact jX ((y84.2.1),(y84.2.2)) h (gr [0,1,2,3] rfl (hB rfl rfl rfl (hR rfl rfl (hR rfl rfl (hR rfl rfl .nil)))) rfl)
     refine dr mixed (vs 1 rfl (xD (OD.mk [(51,(V.con (ptrX (l0 a1.toNat) ((x74.toNat)*3))))] [(1,(Ob.arr 123 1 (rowsX (fun i=>some (l0 i)) 125 3 encTreach_arc l62)))] [(52,(V.con (ptrX (l0 a1.toNat) ((x74.toNat)*3))))] []) ⟨⟨rfl,trivial⟩,⟨rfl,trivial⟩⟩ (by exact fun S hn h hh=>aops_nilCheckX (id:=1) wants_none h.1 hh.1 (idx_some hx73).2 rfl (idx_some hx77).2 rfl (aops_nil ⟨rfl,rfl⟩)) rfl (xD (OD.mk [(52,(V.con (ptrX (l0 a1.toNat) ((x74.toNat)*3))))] [(1,(Ob.arr 123 1 (rowsX (fun i=>some (l0 i)) 125 3 encTreach_arc l62)))] [(53,(V.con (ptrX (l0 a1.toNat) ((x74.toNat)*3+1))))] []) ⟨⟨rfl,trivial⟩,⟨rfl,trivial⟩⟩ (by exact fun S hn h hh=>aops_fieldX (id:=1) tF125_1 wants_none h.1 hh.1 (idx_some hx73).2 rfl (idx_some hx77).2 rfl (aops_nil ⟨rfl,rfl⟩)) rfl (xD (OD.mk [(53,(V.con (ptrX (l0 a1.toNat) ((x74.toNat)*3+1))))] [(1,(Ob.arr 123 1 (rowsX (fun i=>some (l0 i)) 125 3 encTreach_arc l62)))] [(54,(iV y76.left))] []) ⟨⟨rfl,trivial⟩,⟨rfl,trivial⟩⟩ (by exact fun S hn h hh=>aops_loadEl (id:=1) (iV y76.left) tC3 wants_none h.1 hh.1 (idx_some hx73).2 rfl (idx_some hx77).2 rfl rfl rfl rfl (aops_nil ⟨rfl,rfl⟩)) rfl (vs 1 rfl (vb hb78 rfl (vs 5 rfl (xD (OD.mk [(56,(bV true)),(61,(V.con (ptrX (l0 a1.toNat) ((x74.toNat)*3))))] [(1,(Ob.arr 123 1 (rowsX (fun i=>some (l0 i)) 125 3 encTreach_arc l62)))] [(62,(V.con (ptrX (l0 a1.toNat) ((x74.toNat)*3))))] []) ⟨⟨rfl,rfl,trivial⟩,⟨rfl,trivial⟩⟩ (by exact fun S hn h hh=>aops_nilCheckX (id:=1) (wants_some (c:=true) (b:=true) 56 rfl h.1 rfl) h.2.1 hh.1 (idx_some hx73).2 rfl (idx_some hx77).2 rfl (aops_nil ⟨rfl,rfl⟩)) rfl (xD (OD.mk [(56,(bV true)),(62,(V.con (ptrX (l0 a1.toNat) ((x74.toNat)*3))))] [(1,(Ob.arr 123 1 (rowsX (fun i=>some (l0 i)) 125 3 encTreach_arc l62)))] [(63,(V.con (ptrX (l0 a1.toNat) ((x74.toNat)*3+0))))] []) ⟨⟨rfl,rfl,trivial⟩,⟨rfl,trivial⟩⟩ (by exact fun S hn h hh=>aops_fieldX (id:=1) tF125_0 (wants_some (c:=true) (b:=true) 56 rfl h.1 rfl) h.2.1 hh.1 (idx_some hx73).2 rfl (idx_some hx77).2 rfl (aops_nil ⟨rfl,rfl⟩)) rfl (xD (OD.mk [(56,(bV true)),(63,(V.con (ptrX (l0 a1.toNat) ((x74.toNat)*3+0))))] [(1,(Ob.arr 123 1 (rowsX (fun i=>some (l0 i)) 125 3 encTreach_arc l62)))] [(64,(iV y76.to))] []) ⟨⟨rfl,rfl,trivial⟩,⟨rfl,trivial⟩⟩ (by exact fun S hn h hh=>aops_loadEl (id:=1) (iV y76.to) tC3 (wants_some (c:=true) (b:=true) 56 rfl h.1 rfl) h.2.1 hh.1 (idx_some hx73).2 rfl (idx_some hx77).2 rfl rfl rfl rfl (aops_nil ⟨rfl,rfl⟩)) rfl (oD (a:=a4) hx80 rfl rfl rfl rfl (lD hx80 rfl rfl rfl rfl rfl (vs 5 rfl (oD (a:=a4) hx82 rfl rfl rfl rfl (lD hx82 rfl rfl rfl rfl rfl (vs 3 rfl (vb hb83 rfl (vs 8 rfl .nil)))))))))))))))))) (by kernel_rfl) ?_
     refine rn 3 rfl ?_
     exact jX (l62,l63) h (gr [0,1,2,3] rfl (hB rfl rfl rfl (hR rfl rfl (hR rfl rfl (hR rfl rfl .nil)))) rfl)
    refine dr mixed (vs 1 rfl (xD (OD.mk [(51,(V.con (ptrX (l0 a1.toNat) ((x74.toNat)*3))))] [(1,(Ob.arr 123 1 (rowsX (fun i=>some (l0 i)) 125 3 encTreach_arc l62)))] [(52,(V.con (ptrX (l0 a1.toNat) ((x74.toNat)*3))))] []) ⟨⟨rfl,trivial⟩,⟨rfl,trivial⟩⟩ (by exact fun S hn h hh=>aops_nilCheckX (id:=1) wants_none h.1 hh.1 (idx_some hx73).2 rfl (idx_some hx77).2 rfl (aops_nil ⟨rfl,rfl⟩)) rfl (xD (OD.mk [(52,(V.con (ptrX (l0 a1.toNat) ((x74.toNat)*3))))] [(1,(Ob.arr 123 1 (rowsX (fun i=>some (l0 i)) 125 3 encTreach_arc l62)))] [(53,(V.con (ptrX (l0 a1.toNat) ((x74.toNat)*3+1))))] []) ⟨⟨rfl,trivial⟩,⟨rfl,trivial⟩⟩ (by exact fun S hn h hh=>aops_fieldX (id:=1) tF125_1 wants_none h.1 hh.1 (idx_some hx73).2 rfl (idx_some hx77).2 rfl (aops_nil ⟨rfl,rfl⟩)) rfl (xD (OD.mk [(53,(V.con (ptrX (l0 a1.toNat) ((x74.toNat)*3+1))))] [(1,(Ob.arr 123 1 (rowsX (fun i=>some (l0 i)) 125 3 encTreach_arc l62)))] [(54,(iV y76.left))] []) ⟨⟨rfl,trivial⟩,⟨rfl,trivial⟩⟩ (by exact fun S hn h hh=>aops_loadEl (id:=1) (iV y76.left) tC3 wants_none h.1 hh.1 (idx_some hx73).2 rfl (idx_some hx77).2 rfl rfl rfl rfl (aops_nil ⟨rfl,rfl⟩)) rfl (vs 1 rfl (vb hb78 rfl (vs 29 rfl .nil))))))) (by kernel_rfl) ?_
    refine rn 3 rfl ?_
    exact jX (l62,l63) h (gr [0,1,2,3] rfl (hB rfl rfl rfl (hR rfl rfl (hR rfl rfl (hR rfl rfl .nil)))) rfl)
   rintro⟨l70,l71⟩ h
   refine rn 6 rfl ?_
   refine ixo (a:=l71) h rfl rfl rfl (fun x99 hx100 h=>?_)
   refine ldp hx100 rfl rfl rfl rfl ?_
   refine rn 1 rfl ?_
   refine ixo (a:=l71) h rfl rfl rfl (fun x101 hx102 h=>?_)
   refine stS (w64 (x99+1)) hx102 rfl rfl rfl rfl rfl rfl ?_
   refine rn 1 rfl ?_
   exact jX (l70,(l71.set a1.toNat (w64 (x99+1)))) h (ghost_ren 4 (fun i=>([0,1,2,3]:List Nat).getD i 0) _ _ (by decide) (EnvSub.get (.cons (Sub.ptr rfl rfl) (.cons (Sub.imm (Imm.con _)) (.cons (Sub.imm (Imm.con _)) .nil)))) (HpSub.get (.cons rfl (ObSub.box (.cons (Sub.own rfl rfl) (.cons (Sub.own rfl rfl) (.cons (Sub.ownE rfl rfl (by simp)) .nil)))) (.cons rfl (ObSub.rowsK RK.h) (.cons rfl (ObSub.rows (rows_imm imms_encI_i64)) (.cons rfl (ObSub.rows (rows_imm imms_encI_i64)) .nil))))) rfl)
  refine rn 1 rfl ?_
  exact jX (l62,l63) h (gr [0,1,2,3] rfl (hB rfl rfl rfl (hR rfl rfl (hR rfl rfl (hR rfl rfl .nil)))) rfl)
 rintro⟨l58,l59⟩ h
 refine rn 4 rfl ?_
 replace h:=Option.some.inj h
 subst h
 exact wR ⟨.inl rfl,[(6,(bV false))],(gr [0,1,2,3] rfl (hB rfl rfl rfl (hR rfl rfl (hR rfl rfl (hR rfl rfl .nil)))) rfl),(.cons (.tmp rfl) .nil)⟩
theorem W51{l0:Nat->Value}:∀(F:Nat) (a1:Int) (a2:Int) (a3:List (List Treach_arc)) (a4:List Int) (a5:List Int) (r:(Bool×(List (List Treach_arc))×(List Int))) (h:M51 F a1 a2 a3 a4 a5=some r),Mut Tryz.prog 51 [(V.ptr 0 3 0 0),(iV a1),(iV a2)] 4 [(0,(Ob.arr 69 3 [[(V.own 1 a3.length),(V.own 2 a4.length),(V.own 3 a5.length)]])),(1,(Ob.arr 123 1 (rowsX (fun i=>some (l0 i)) 125 3 encTreach_arc a3))),(2,(Ob.arr 3 1 (a4.map encI_i64))),(3,(Ob.arr 3 1 (a5.map encI_i64)))] (resV [(bV (r.1))]) 4 [(0,(Ob.arr 69 3 [[(V.own 1 (r.2.1).length),(V.own 2 a4.length),(V.own 3 (r.2.2).length)]])),(1,(Ob.arr 123 1 (rowsX (fun i=>some (l0 i)) 125 3 encTreach_arc (r.2.1)))),(2,(Ob.arr 3 1 (a4.map encI_i64))),(3,(Ob.arr 3 1 ((r.2.2).map encI_i64)))]:=by
 intro F
 induction F with
 |zero=>intros;simp[M51] at *
 |succ F ih=>exact fun a1 a2 a3 a4 a5 r h=>W51_B (M51 F) ih F a1 a2 a3 a4 a5 r h
theorem W19(F:Nat)(a1:Int)(a2:Int)(a3:List (List Treach_arc))(a4:List Int)(a5:List Int)(r:((List (List Treach_arc))×(List Int)×(List Int)))(h:M19 F a1 a2 a3 a4 a5=some r):Mut Tryz.prog 19 [(V.ptr 0 3 0 0),(iV a1),(iV a2)] 4 [(0,(Ob.arr 69 3 [[(V.own 1 a3.length),(V.own 2 a4.length),(V.own 3 a5.length)]])),(1,(Ob.arr 123 1 (a3.map (encR 125 3 encTreach_arc)))),(2,(Ob.arr 3 1 (a4.map encI_i64))),(3,(Ob.arr 3 1 (a5.map encI_i64)))] (resV []) 6 [(0,(Ob.arr 69 3 [[(V.own 1 (r.1).length),(V.own 4 (r.2.1).length),(V.own 5 (r.2.2).length)]])),(1,(Ob.arr 123 1 ((r.1).map (encR 125 3 encTreach_arc)))),(2,Ob.dead),(3,Ob.dead),(4,(Ob.arr 3 1 ((r.2.1).map encI_i64))),(5,(Ob.arr 3 1 ((r.2.2).map encI_i64)))]:=by
 refine mut_enter Tryz.func19 rfl rfl (l:=[]) rfl rfl [(0,(V.ptr 0 3 0 0)),(1,(iV a1)),(2,(iV a2))] rfl (fun w0 m0 β0 hg=>en ?_)
 unfold M19 at h
 refine rn 1 rfl ?_
 refine lC (fun(p:(List (List Treach_arc))×(List Int)×(List Int))=>(⟨[(0,(V.ptr 0 3 0 0)),(1,(iV a1)),(2,(iV a2))],[(0,(Ob.arr 69 3 [[(V.own 1 (p.1).length),(V.own 4 (p.2.1).length),(V.own 5 (p.2.2).length)]])),(1,(Ob.arr 123 1 ((p.1).map (encR 125 3 encTreach_arc)))),(2,Ob.dead),(3,Ob.dead),(4,(Ob.arr 3 1 ((p.2.1).map encI_i64))),(5,(Ob.arr 3 1 ((p.2.2).map encI_i64)))],6⟩:St)) (fun n p=>M19_L1 F a1 a2 n p.1 p.2.1 p.2.2=some r) (fun p h=>by simp[M19_L1] at h) F (a3,a4,a5) h (Ghost.trans (ghost_mvC 2 0 4 3 1 (Ob.arr 69 3 [[(V.own 1 a3.length),(V.own 4 a4.length),(V.own 3 a5.length)]]) rfl rfl rfl (ObSub.box (.cons Sub.keepMv (.cons Sub.mv (.cons Sub.keepMv .nil)))) rfl rfl) (Ghost.trans (ghost_mvC 3 0 5 3 1 (Ob.arr 69 3 [[(V.own 1 a3.length),(V.own 4 a4.length),(V.own 5 a5.length)]]) rfl rfl rfl (ObSub.box (.cons Sub.keepMv (.cons Sub.keepMv (.cons Sub.mv .nil)))) rfl rfl) (gr [0,1,2,3,4,5] rfl (hB rfl rfl rfl (hR rfl rfl (hD rfl (hD rfl (hR rfl rfl (hR rfl rfl .nil)))))) rfl))) (fun n p h=>?_)
 obtain⟨l39,l40,l41⟩:=p
 unfold M19_L1 at h
 refine jK h (fun(p:(List (List Treach_arc))×(List Int)×(List Int))=>(⟨[(0,(V.ptr 0 3 0 0)),(1,(iV a1)),(2,(iV a2))],[(0,(Ob.arr 69 3 [[(V.own 1 (p.1).length),(V.own 4 (p.2.1).length),(V.own 5 (p.2.2).length)]])),(1,(Ob.arr 123 1 ((p.1).map (encR 125 3 encTreach_arc)))),(2,Ob.dead),(3,Ob.dead),(4,(Ob.arr 3 1 ((p.2.1).map encI_i64))),(5,(Ob.arr 3 1 ((p.2.2).map encI_i64)))],6⟩:St)) (fun k42 p=>k42 p.1 p.2.1 p.2.2=some r) (fun k42 h=>?_) ?_
 ·obtain⟨y46,hx47,h⟩:=bind_some h
  refine rn 5 rfl ?_
  refine aops_mcallS (V.tup []) [(V.ptr 0 3 0 0),(iV a1)] (fun i=>([0,1,4,5]:List Nat).getD i 0) (fun i=>([0,1,4,5,6]:List Nat).getD i 0) 6 7 [(0,(Ob.arr 69 3 [[(V.own 1 l39.length),(V.own 6 y46.length),(V.own 5 l41.length)]])),(1,(Ob.arr 123 1 (l39.map (encR 125 3 encTreach_arc)))),(4,Ob.dead),(5,(Ob.arr 3 1 (l41.map encI_i64))),(6,(Ob.arr 3 1 (y46.map encI_i64)))] fOk50 wants_none rfl (evm_cons rfl (evm_cons rfl evm_nil)) (.cons (Sub.ptr rfl rfl) (.cons (Sub.imm (Imm.con _)) .nil)) (.cons rfl (ObSub.box (.cons (Sub.own rfl rfl) (.cons (Sub.own rfl rfl) (.cons (Sub.own rfl rfl) .nil)))) (.cons rfl (ObSub.rowsK RK.h) (.cons rfl (ObSub.rows (rows_imm imms_encI_i64)) (.cons rfl (ObSub.rows (rows_imm imms_encI_i64)) .nil)))) (W50 F a1 l39 l40 l41 y46 hx47) rfl rfl rfl rfl (Sub.immT (Imm.tup .nil)) (.cons rfl (ObSub.box (.cons (Sub.ownT rfl rfl) (.cons (Sub.ownT rfl rfl) (.cons (Sub.ownT rfl rfl) .nil)))) (.cons rfl (ObSub.rowsTK RK.h) (.cons rfl ObSub.deadT (.cons rfl (ObSub.rowsT (rows_imm imms_encI_i64)) (.cons rfl (ObSub.rowsT (rows_imm imms_encI_i64)) .nil))))) _ rfl ?_
  refine fo (rn 9 rfl ?_)
  refine ixo (a:=y46) h rfl rfl rfl (fun x48 hx49 h=>?_)
  refine ldp hx49 rfl rfl rfl rfl ?_
  refine rn 2 rfl ?_
  refine spC h rfl (fun hb50 h=>?_) (fun hb50 h=>?_)
  ·replace h:=Option.some.inj h
   subst h
   exact wR ⟨.inl rfl,[],(gr [0,1,2,3,6,5] rfl (hB rfl rfl rfl (hR rfl rfl (hD rfl (hD rfl (hR rfl rfl (hR rfl rfl .nil)))))) rfl),.nil⟩
  refine rn 2 rfl ?_
  refine awp_pinD 1 rfl (fun l51=>?_)
  refine fa (rn 7 rfl ?_)
  refine ck h (fun hc52 h=>?_)
  refine aops_makeSlice (ln:=(List.replicate (((l39.length:Nat):Int)).toNat (0:Int)).length) ((List.replicate (((l39.length:Nat):Int)).toNat (0:Int)).map encI_i64) tEl58 tZ3 rfl rfl hc52 List.map_replicate List.length_replicate wants_none rfl rfl ?_
  refine fo (rn 4 rfl ?_)
  refine jK h (fun(p:(List (List Treach_arc))×(List Int))=>(⟨[(0,(V.ptr 0 3 0 0)),(1,(iV a1)),(2,(iV a2))],[(0,(Ob.arr 69 3 [[(V.own 1 (p.1).length),(V.own 4 y46.length),(V.own 5 (p.2).length)]])),(1,(Ob.arr 123 1 (rowsX (fun i=>some (l51 i)) 125 3 encTreach_arc (p.1)))),(2,Ob.dead),(3,Ob.dead),(4,(Ob.arr 3 1 (y46.map encI_i64))),(5,(Ob.arr 3 1 ((p.2).map encI_i64)))],6⟩:St)) (fun k53 p=>k53 p.1 p.2=some r) (fun k53 h=>?_) ?_
  ·refine rn 1 rfl ?_
   refine lC (fun(p:(List (List Treach_arc))×(List Int))=>(⟨[(0,(V.ptr 0 3 0 0)),(1,(iV a1)),(2,(iV a2))],[(0,(Ob.arr 69 3 [[(V.own 1 (p.1).length),(V.own 4 y46.length),(V.own 5 (p.2).length)]])),(1,(Ob.arr 123 1 (rowsX (fun i=>some (l51 i)) 125 3 encTreach_arc (p.1)))),(2,Ob.dead),(3,Ob.dead),(4,(Ob.arr 3 1 (y46.map encI_i64))),(5,(Ob.arr 3 1 ((p.2).map encI_i64)))],6⟩:St)) (fun n p=>M19_L2 F a1 a2 y46 k53 n p.1 p.2=some r) (fun p h=>by simp[M19_L2] at h) F (l39,(List.replicate (((l39.length:Nat):Int)).toNat (0:Int))) h (gr [0,1,2,3,6,7] rfl (hB rfl rfl rfl (hR rfl rfl (hD rfl (hD rfl (hR rfl rfl (hR rfl rfl .nil)))))) rfl) (fun n p h=>?_)
   obtain⟨l58,l59⟩:=p
   unfold M19_L2 at h
   obtain⟨y60,hx61,h⟩:=bind_some h
   refine rn 6 rfl ?_
   refine aops_mcallS (bV (y60.1)) [(V.ptr 0 3 0 0),(iV a1),(iV a2)] (fun i=>([0,1,4,5]:List Nat).getD i 0) (fun i=>([0,1,4,5]:List Nat).getD i 0) 6 6 [(0,(Ob.arr 69 3 [[(V.own 1 (y60.2.1).length),(V.own 4 y46.length),(V.own 5 (y60.2.2).length)]])),(1,(Ob.arr 123 1 (rowsX (fun i=>some (l51 i)) 125 3 encTreach_arc (y60.2.1)))),(4,(Ob.arr 3 1 (y46.map encI_i64))),(5,(Ob.arr 3 1 ((y60.2.2).map encI_i64)))] fOk51 wants_none rfl (evm_cons rfl (evm_cons rfl (evm_cons rfl evm_nil))) (.cons (Sub.ptr rfl rfl) (.cons (Sub.imm (Imm.con _)) (.cons (Sub.imm (Imm.con _)) .nil))) (.cons rfl (ObSub.box (.cons (Sub.own rfl rfl) (.cons (Sub.own rfl rfl) (.cons (Sub.own rfl rfl) .nil)))) (.cons rfl (ObSub.rowsK RK.h) (.cons rfl (ObSub.rows (rows_imm imms_encI_i64)) (.cons rfl (ObSub.rows (rows_imm imms_encI_i64)) .nil)))) (W51 F a1 a2 l58 y46 l59 y60 hx61) rfl rfl rfl rfl (Sub.immT (Imm.con _)) (.cons rfl (ObSub.box (.cons (Sub.ownT rfl rfl) (.cons (Sub.ownT rfl rfl) (.cons (Sub.ownT rfl rfl) .nil)))) (.cons rfl (ObSub.rowsTK RK.h) (.cons rfl (ObSub.rowsT (rows_imm imms_encI_i64)) (.cons rfl (ObSub.rowsT (rows_imm imms_encI_i64)) .nil)))) _ rfl ?_
   refine fo (rn 1 rfl ?_)
   refine spC h rfl (fun hb62 h=>?_) (fun hb62 h=>?_)
   ·refine rn 4 rfl ?_
    exact jX ((y60.2.1),(y60.2.2)) h (gr [0,1,2,3,4,5] rfl (hB rfl rfl rfl (hR rfl rfl (hD rfl (hD rfl (hR rfl rfl (hR rfl rfl .nil)))))) rfl)
   refine rn 1 rfl ?_
   exact jX ((y60.2.1),(y60.2.2)) h (gr [0,1,2,3,4,5] rfl (hB rfl rfl rfl (hR rfl rfl (hD rfl (hD rfl (hR rfl rfl (hR rfl rfl .nil)))))) rfl)
  rintro⟨l54,l55⟩ h
  refine rn 1 rfl ?_
  exact jX (l54,y46,l55) h (Ghost.trans (ghost_unpin 1 rfl) (gr [0,1,2,3,4,5] rfl (hB rfl rfl rfl (hR rfl rfl (hD rfl (hD rfl (hR rfl rfl (hR rfl rfl .nil)))))) rfl))
 rintro⟨l43,l44,l45⟩ h
 exact jX (l43,l44,l45) h (gr [0,1,2,3,4,5] rfl (hB rfl rfl rfl (hR rfl rfl (hD rfl (hD rfl (hR rfl rfl (hR rfl rfl .nil)))))) rfl)
end Go.Proofs.YtcihpgamojpcnaaGreat
