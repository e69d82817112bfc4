/- Part of the proof: C6W3b. -/
import Derived.Test.YtcihpgamojpcnaaGreatFewC6Ord
import Derived.Test.YtcihpgamojpcnaaGreatFewC6Sh
import Derived.Test.YtcihpgamojpcnaaGreatFewC6W3a
import Derived.KernelRfl
namespace Go.Proofs.YtcihpgamojpcnaaGreat
open Go Go.Pv
set_option linter.unusedVariables false
set_option maxRecDepth 100000
theorem W5(F:Nat)(a1:TGraph)(a2:(List (List UInt8)))(a3:(List UInt8))(r:((List TSite)×Bool×Int))(h:M5 F a1 a2 a3=some r):Pure Tryz.prog 5 [(V.agg (encTGraph a1)),(V.lst 1 (a2.map encS)),(sV a3)] (V.tup [(V.lst 2 ((r.1).map encTSite)),(bV (r.2.1)),(iV (r.2.2))]):=by
 refine pin (fun r=>(V.tup [(V.lst 2 ((r.1).map encTSite)),(bV (r.2.1)),(iV (r.2.2))])) r rfl Tryz.func5 rfl rfl rfl rfl rfl (fun w0 m0 hg=>?_)
 unfold M5 at h
 refine rn 12 rfl ?_
 refine cl h rfl rfl rfl (W15 _ _ _ _ _) rfl (fun y4 hx5 h=>?_)
 refine rn 14 rfl ?_
 refine spC h rfl (fun hb6 h=>?_) (fun hb6 h=>?_)
 ·refine rn 7 rfl ?_
  exact rt h rfl
 refine rn 7 rfl ?_
 refine cl h rfl rfl rfl (W10 _ _ _) rfl (fun y7 hx8 h=>?_)
 refine rn 1 rfl ?_
 refine spC h rfl (fun hb9 h=>?_) (fun hb9 h=>?_)
 ·refine rn 6 rfl ?_
  exact rt h rfl
 obtain⟨x10,hx11,h⟩:=bind_some h
 refine rn 6 rfl ?_
 refine opC 9 hx11 rfl ?_
 refine rn 2 rfl ?_
 refine cl h rfl rfl rfl (W16 _ _ _) rfl (fun y12 hx13 h=>?_)
 refine rn 7 rfl ?_
 refine ln rfl rfl ?_
 refine rn 2 rfl ?_
 refine jK h (fun(p:(List TSite))=>(⟨[(3,(V.ptr 0 4 0 0)),(9,(V.iptr (encTreach_world x10) 0)),(10,(iV (y4.2.1))),(12,(V.own 1 p.length))],[(0,(Ob.arr 27 4 [(encTGraph a1)])),(1,(Ob.arr 41 2 (p.map encTSite)))],2⟩:St)) (fun k14 p=>k14 p=some r) (fun k14 h=>?_) ?_
 ·obtain⟨x16,hx17,h⟩:=bind_some h
  refine rn 1 rfl ?_
  refine opC 13 hx17 rfl ?_
  refine wl (A:=a1.Funcs) 49 rfl (fun hA46=>?_)
  refine lC (fun(p:Int×(List TSite))=>(⟨[(3,(V.ptr 0 4 0 0)),(9,(V.iptr (encTreach_world x10) 0)),(10,(iV (y4.2.1))),(12,(V.own 1 (p.2).length)),(13,(V.iptr (encTreach_spread x16) 0)),(49,(V.lst 4 (a1.Funcs.map encTFunc))),(50,(iV ((a1.Funcs.length:Nat):Int))),(51,(iV (p.1)))],[(0,(Ob.arr 27 4 [(encTGraph a1)])),(1,(Ob.arr 41 2 ((p.2).map encTSite)))],2⟩:St)) (fun n p=>RG a1.Funcs (fun tl nn=>M5_L1 F x10 x16 k14 tl nn p.2=some r) n p.1) (fun p h=>RG.zero h) (a1.Funcs.length+1) (0,([]:List TSite)) (RG.start h) (Ghost.trans (ghost_nilE 12 41 2 rfl) (ghost_ren 2 (fun i=>([0,1]:List Nat).getD i 0) _ _ (by decide) (EnvSub.get (.cons (Sub.ptr rfl rfl) (.cons (Sub.imm (Imm.iptr _ _)) (.cons (Sub.imm (Imm.con _)) (.cons (Sub.ownE rfl rfl (by simp)) (.cons (Sub.imm (Imm.iptr _ _)) (.cons (Sub.imm (Imm.lst _ _)) (.cons (Sub.imm (Imm.con _)) (.cons (Sub.imm (Imm.con _)) .nil))))))))) (HpSub.get (.cons rfl (ObSub.box (.cons (Sub.imm (Imm.lst _ _)) (.cons (Sub.imm (Imm.lst _ _)) (.cons (Sub.imm (Imm.lst _ _)) (.cons (Sub.imm (Imm.lst _ _)) .nil))))) (.cons rfl (ObSub.rows (rows_imm imms_encTSite)) .nil))) rfl)) (fun n p h=>?_)
  obtain⟨n20,l21⟩:=p
  refine rn 5 rfl ?_
  refine spL rfl (fun hb22=>?_) (fun hb22=>?_)
  ·obtain⟨x25,tl,hx26,h,hk1⟩:=RG.t hA46 h hb22
   unfold M5_L1 at h
   refine rn 2 rfl ?_
   refine jK h (fun(p:(List TSite))=>(⟨[(3,(V.ptr 0 4 0 0)),(9,(V.iptr (encTreach_world x10) 0)),(10,(iV (y4.2.1))),(12,(V.own 1 p.length)),(13,(V.iptr (encTreach_spread x16) 0)),(49,(V.lst 4 (a1.Funcs.map encTFunc))),(50,(iV ((a1.Funcs.length:Nat):Int))),(51,(iV n20))],[(0,(Ob.arr 27 4 [(encTGraph a1)])),(1,(Ob.arr 41 2 (p.map encTSite)))],2⟩:St)) (fun k23 p=>k23 p=some r) (fun k23 h=>?_) ?_
   ·refine rn 4 rfl ?_
    refine ixh hx26 rfl rfl ?_
    refine rn 9 rfl ?_
    refine ln rfl rfl ?_
    refine rn 2 rfl ?_
    refine jK h (fun(p:(List TSite))=>(⟨[(3,(V.ptr 0 4 0 0)),(9,(V.iptr (encTreach_world x10) 0)),(10,(iV (y4.2.1))),(12,(V.own 1 p.length)),(13,(V.iptr (encTreach_spread x16) 0)),(49,(V.lst 4 (a1.Funcs.map encTFunc))),(50,(iV ((a1.Funcs.length:Nat):Int))),(51,(iV n20))],[(0,(Ob.arr 27 4 [(encTGraph a1)])),(1,(Ob.arr 41 2 (p.map encTSite)))],2⟩:St)) (fun k27 p=>k27 p=some r) (fun k27 h=>?_) ?_
    ·refine rn 1 rfl ?_
     refine wl (A:=x25.Calls) 57 rfl (fun hA45=>?_)
     refine lC (fun(p:Int×(List TSite))=>(⟨[(3,(V.ptr 0 4 0 0)),(9,(V.iptr (encTreach_world x10) 0)),(10,(iV (y4.2.1))),(12,(V.own 1 (p.2).length)),(13,(V.iptr (encTreach_spread x16) 0)),(14,(iV n20)),(15,(V.ptr 2 4 0 0)),(49,(V.lst 4 (a1.Funcs.map encTFunc))),(50,(iV ((a1.Funcs.length:Nat):Int))),(51,(iV n20)),(57,(V.lst 4 (x25.Calls.map encTCall))),(58,(iV ((x25.Calls.length:Nat):Int))),(59,(iV (p.1)))],[(0,(Ob.arr 27 4 [(encTGraph a1)])),(1,(Ob.arr 41 2 ((p.2).map encTSite))),(2,(Ob.arr 52 4 [(encTFunc x25)]))],3⟩:St)) (fun n p=>RG x25.Calls (fun tl nn=>M5_L2 F x10 x16 n20 x25 k27 tl nn p.2=some r) n p.1) (fun p h=>RG.zero h) (x25.Calls.length+1) (0,l21) (RG.start h) (gr [0,1,2] rfl (hB rfl rfl rfl (hR rfl rfl (hB rfl rfl rfl .nil))) rfl) (fun n p h=>?_)
     obtain⟨n31,l32⟩:=p
     refine rn 5 rfl ?_
     refine spL rfl (fun hb33=>?_) (fun hb33=>?_)
     ·obtain⟨x36,tl,hx37,h,hk2⟩:=RG.t hA45 h hb33
      unfold M5_L2 at h
      refine rn 2 rfl ?_
      refine jK h (fun(p:(List TSite))=>(⟨[(3,(V.ptr 0 4 0 0)),(9,(V.iptr (encTreach_world x10) 0)),(10,(iV (y4.2.1))),(12,(V.own 1 p.length)),(13,(V.iptr (encTreach_spread x16) 0)),(14,(iV n20)),(15,(V.ptr 2 4 0 0)),(49,(V.lst 4 (a1.Funcs.map encTFunc))),(50,(iV ((a1.Funcs.length:Nat):Int))),(51,(iV n20)),(57,(V.lst 4 (x25.Calls.map encTCall))),(58,(iV ((x25.Calls.length:Nat):Int))),(59,(iV n31))],[(0,(Ob.arr 27 4 [(encTGraph a1)])),(1,(Ob.arr 41 2 (p.map encTSite))),(2,(Ob.arr 52 4 [(encTFunc x25)]))],3⟩:St)) (fun k34 p=>k34 p=some r) (fun k34 h=>?_) ?_
      ·refine rn 4 rfl ?_
       refine ixh hx37 rfl rfl ?_
       obtain⟨x38,hx39,h⟩:=bind_some h
       refine rn 6 rfl ?_
       refine bs h (fun hb40 h=>?_) (fun hb40 h=>?_)
       ·refine dr mixed (vs 5 rfl (iD hx39 rfl rfl rfl (vs 1 rfl (vb hb40 rfl (vs 6 rfl (xD (OD.mk [(71,(bV true)),(75,(V.imap (x10.on.map encM9_4))),(77,(sV x36.Feature))] [] [(78,(bV ((mget x10.on x36.Feature).getD false)))] []) ⟨⟨rfl,rfl,rfl,trivial⟩,trivial⟩ (by exact fun S hn h hh=>aops_lookup _ (bV false) (bV ((mget x10.on x36.Feature).getD false)) tMap63 tKey9 tZo4 (irel_con _) (wants_some (c:=true) (b:=true) 71 rfl h.1 rfl) h.2.1 .imm (.con h.2.2.1) ⟨_,rfl⟩ encM9_4_good (encM9_4_look x10.on x36.Feature) (getD_map (encM9_4_val) (mget x10.on x36.Feature) false) rfl (aops_nil ⟨rfl,rfl⟩)) rfl (vs 1 rfl .nil))))))) (by kernel_rfl) ?_
        refine jK h (fun(p:(List TSite))=>(⟨[(3,(V.ptr 0 4 0 0)),(9,(V.iptr (encTreach_world x10) 0)),(10,(iV (y4.2.1))),(12,(V.own 1 p.length)),(13,(V.iptr (encTreach_spread x16) 0)),(14,(iV n20)),(15,(V.ptr 2 4 0 0)),(49,(V.lst 4 (a1.Funcs.map encTFunc))),(50,(iV ((a1.Funcs.length:Nat):Int))),(51,(iV n20)),(57,(V.lst 4 (x25.Calls.map encTCall))),(58,(iV ((x25.Calls.length:Nat):Int))),(59,(iV n31)),(78,(bV ((mget x10.on x36.Feature).getD false)))],[(0,(Ob.arr 27 4 [(encTGraph a1)])),(1,(Ob.arr 41 2 (p.map encTSite))),(2,(Ob.arr 52 4 [(encTFunc x25)]))],3⟩:St)) (fun k41 p=>k41 p=some r) (fun k41 h=>?_) ?_
        ·refine spC h rfl (fun hb43 h=>?_) (fun hb43 h=>?_)
         ·refine rn 6 rfl ?_
          refine aops_buildSlice [(0,(V.agg [(sV x25.Name),(iV n31)]))] [[(sV x25.Name),(iV n31)]] tEl28 tZ41 rfl rfl rfl rfl wants_none (evp_cons rfl evp_nil) rfl rfl (by simp) rfl ?_
          refine fo ?_
          refine apO encTSite h rfl rfl rfl rfl rfl rfl rfl rfl (fun h=>?_)
          refine rn 2 rfl ?_
          exact jX (l32++([(TSite.mk x25.Name n31)]:List TSite)) h (gr [0,5,2] rfl (hB rfl rfl rfl (hR rfl rfl (hB rfl rfl rfl .nil))) rfl)
         refine rn 1 rfl ?_
         exact jX l32 h (gr [0,1,2] rfl (hB rfl rfl rfl (hR rfl rfl (hB rfl rfl rfl .nil))) rfl)
        intro l42 h
        refine rn 1 rfl ?_
        exact jX l42 h (gr [0,1,2] rfl (hB rfl rfl rfl (hR rfl rfl (hB rfl rfl rfl .nil))) rfl)
       refine dr mixed (vs 5 rfl (iD hx39 rfl rfl rfl (vs 1 rfl (vb hb40 rfl (vs 8 rfl .nil))))) (by kernel_rfl) ?_
       refine rn 3 rfl ?_
       exact jX l32 h (gr [0,1,2] rfl (hB rfl rfl rfl (hR rfl rfl (hB rfl rfl rfl .nil))) rfl)
      intro l35 h
      refine rn 4 rfl ?_
      exact jX ((w64 (n31+1)),l35) (hk2 _ h) (gr [0,1,2] rfl (hB rfl rfl rfl (hR rfl rfl (hB rfl rfl rfl .nil))) rfl)
     replace h:=RG.f h hb33
     unfold M5_L2 at h
     refine rn 1 rfl ?_
     exact jX l32 h (gr [0,1] rfl (hB rfl rfl rfl (hR rfl rfl .nil)) rfl)
    intro l28 h
    refine rn 1 rfl ?_
    exact jX l28 h (gr [0,1] rfl (hB rfl rfl rfl (hR rfl rfl .nil)) rfl)
   intro l24 h
   refine rn 4 rfl ?_
   exact jX ((w64 (n20+1)),l24) (hk1 _ h) (gr [0,1] rfl (hB rfl rfl rfl (hR rfl rfl .nil)) rfl)
  replace h:=RG.f h hb22
  unfold M5_L1 at h
  refine rn 1 rfl ?_
  exact jX l21 h (gr [0,1] rfl (hB rfl rfl rfl (hR rfl rfl .nil)) rfl)
 intro l15 h
 refine rn 4 rfl ?_
 refine ln rfl rfl ?_
 refine rn 14 rfl ?_
 refine ck h (fun hc47 h=>?_)
 refine aops_makeSliceD (e2:=125) (k2:=3) (ln:=(List.replicate ((w64 ((w64 (((a1.Funcs.length:Nat):Int)+((l15.length:Nat):Int)))+1))).toNat (([]:(List Treach_arc)):(List Treach_arc))).length) encTreach_arc ((List.replicate ((w64 ((w64 (((a1.Funcs.length:Nat):Int)+((l15.length:Nat):Int)))+1))).toNat (([]:(List Treach_arc)):(List Treach_arc))).map (encR 125 3 encTreach_arc)) tEl67 tZ123 rfl rfl rfl hc47 rfl List.length_replicate wants_none rfl rfl ?_
 refine fo (rn 11 rfl ?_)
 refine jK h (fun(p:(List (List Treach_arc)))=>(⟨[(3,(V.ptr 0 4 0 0)),(9,(V.iptr (encTreach_world x10) 0)),(10,(iV (y4.2.1))),(12,(V.own 1 l15.length)),(18,(iV ((a1.Funcs.length:Nat):Int))),(19,(iV (w64 (((a1.Funcs.length:Nat):Int)+((l15.length:Nat):Int))))),(20,(V.ptr 2 3 0 0))],[(0,(Ob.arr 27 4 [(encTGraph a1)])),(1,(Ob.arr 41 2 (l15.map encTSite))),(2,(Ob.arr 69 3 [[(V.own 3 p.length),(V.own 4 ([]:List Int).length),(V.own 5 ([]:List Int).length)]])),(3,(Ob.arr 123 1 (p.map (encR 125 3 encTreach_arc)))),(4,(Ob.arr 3 1 (([]:List Int).map encI_i64))),(5,(Ob.arr 3 1 (([]:List Int).map encI_i64)))],6⟩:St)) (fun k48 p=>k48 p=some r) (fun k48 h=>?_) ?_
 ·refine rn 1 rfl ?_
  refine wlO (A:=l15) 1 rfl (fun hA79=>?_)
  refine lC (fun(p:Int×(List (List Treach_arc)))=>(⟨[(3,(V.ptr 0 4 0 0)),(9,(V.iptr (encTreach_world x10) 0)),(10,(iV (y4.2.1))),(12,(V.own 1 l15.length)),(18,(iV ((a1.Funcs.length:Nat):Int))),(19,(iV (w64 (((a1.Funcs.length:Nat):Int)+((l15.length:Nat):Int))))),(20,(V.ptr 2 3 0 0)),(101,(V.own 1 l15.length)),(102,(iV ((l15.length:Nat):Int))),(103,(iV (p.1)))],[(0,(Ob.arr 27 4 [(encTGraph a1)])),(1,(Ob.arr 41 2 (l15.map encTSite))),(2,(Ob.arr 69 3 [[(V.own 3 (p.2).length),(V.own 4 ([]:List Int).length),(V.own 5 ([]:List Int).length)]])),(3,(Ob.arr 123 1 ((p.2).map (encR 125 3 encTreach_arc)))),(4,(Ob.arr 3 1 (([]:List Int).map encI_i64))),(5,(Ob.arr 3 1 (([]:List Int).map encI_i64)))],6⟩:St)) (fun n p=>RG l15 (fun tl nn=>M5_L3 F a1 x10 k48 tl nn p.2=some r) n p.1) (fun p h=>RG.zero h) (l15.length+1) (0,(List.replicate ((w64 ((w64 (((a1.Funcs.length:Nat):Int)+((l15.length:Nat):Int)))+1))).toNat (([]:(List Treach_arc)):(List Treach_arc)))) (RG.start h) (Ghost.trans (ghost_nilC 3 3 1 (Ob.arr 69 3 [[(V.own 2 (List.replicate ((w64 ((w64 (((a1.Funcs.length:Nat):Int)+((l15.length:Nat):Int)))+1))).toNat (([]:(List Treach_arc)):(List Treach_arc))).length),(V.own 4 0),nV]]) (ObSub.box (.cons Sub.keepNil (.cons Sub.mkNil (.cons Sub.keepNil .nil))))) (Ghost.trans (ghost_nilC 3 3 1 (Ob.arr 69 3 [[(V.own 2 (List.replicate ((w64 ((w64 (((a1.Funcs.length:Nat):Int)+((l15.length:Nat):Int)))+1))).toNat (([]:(List Treach_arc)):(List Treach_arc))).length),(V.own 4 0),(V.own 5 0)]]) (ObSub.box (.cons Sub.keepNil (.cons Sub.keepNil (.cons Sub.mkNil .nil))))) (ghost_ren 6 (fun i=>([0,1,3,2,4,5]:List Nat).getD i 0) _ _ (by decide) (EnvSub.get (.cons (Sub.ptr rfl rfl) (.cons (Sub.imm (Imm.iptr _ _)) (.cons (Sub.imm (Imm.con _)) (.cons (Sub.own rfl rfl) (.cons (Sub.imm (Imm.con _)) (.cons (Sub.imm (Imm.con _)) (.cons (Sub.ptr rfl rfl) (.cons (Sub.own rfl rfl) (.cons (Sub.imm (Imm.con _)) (.cons (Sub.imm (Imm.con _)) .nil))))))))))) (HpSub.get (.cons rfl (ObSub.box (.cons (Sub.imm (Imm.lst _ _)) (.cons (Sub.imm (Imm.lst _ _)) (.cons (Sub.imm (Imm.lst _ _)) (.cons (Sub.imm (Imm.lst _ _)) .nil))))) (.cons rfl (ObSub.rows (rows_imm imms_encTSite)) (.cons rfl (ObSub.box (.cons (Sub.own rfl rfl) (.cons (Sub.ownE rfl rfl (by simp)) (.cons (Sub.ownE rfl rfl (by simp)) .nil)))) (.cons rfl (ObSub.rowsK RK.h) (.cons rfl (ObSub.rows (rows_imm imms_encI_i64)) (.cons rfl (ObSub.rows (rows_imm imms_encI_i64)) .nil))))))) rfl))) (fun n p h=>?_)
  obtain⟨n52,l53⟩:=p
  refine rn 5 rfl ?_
  refine spL rfl (fun hb54=>?_) (fun hb54=>?_)
  ·obtain⟨x57,tl,hx58,h,hk3⟩:=RG.t hA79 h hb54
   unfold M5_L3 at h
   refine rn 2 rfl ?_
   refine jK h (fun(p:(List (List Treach_arc)))=>(⟨[(3,(V.ptr 0 4 0 0)),(9,(V.iptr (encTreach_world x10) 0)),(10,(iV (y4.2.1))),(12,(V.own 1 l15.length)),(18,(iV ((a1.Funcs.length:Nat):Int))),(19,(iV (w64 (((a1.Funcs.length:Nat):Int)+((l15.length:Nat):Int))))),(20,(V.ptr 2 3 0 0)),(101,(V.own 1 l15.length)),(102,(iV ((l15.length:Nat):Int))),(103,(iV n52))],[(0,(Ob.arr 27 4 [(encTGraph a1)])),(1,(Ob.arr 41 2 (l15.map encTSite))),(2,(Ob.arr 69 3 [[(V.own 3 p.length),(V.own 4 ([]:List Int).length),(V.own 5 ([]:List Int).length)]])),(3,(Ob.arr 123 1 (p.map (encR 125 3 encTreach_arc)))),(4,(Ob.arr 3 1 (([]:List Int).map encI_i64))),(5,(Ob.arr 3 1 (([]:List Int).map encI_i64)))],6⟩:St)) (fun k55 p=>k55 p=some r) (fun k55 h=>?_) ?_
   ·refine rn 4 rfl ?_
    refine ixoh (a:=l15) hx58 rfl rfl rfl ?_
    refine ldp hx58 rfl rfl rfl rfl ?_
    refine rn 5 rfl ?_
    refine dr mixed (vs 6 rfl (xD (OD.mk [(111,(V.imap (x10.funcs.map encM9_3))),(113,(sV x57.Func))] [] [(114,(iV ((mget x10.funcs x57.Func).getD 0)))] []) ⟨⟨rfl,rfl,trivial⟩,trivial⟩ (by exact fun S hn h hh=>aops_lookup _ (iV 0) (iV ((mget x10.funcs x57.Func).getD 0)) tMap61 tKey9 tZo3 (irel_con _) wants_none h.1 .imm (.con h.2.1) ⟨_,rfl⟩ encM9_3_good (encM9_3_look x10.funcs x57.Func) (getD_map (encM9_3_val) (mget x10.funcs x57.Func) 0) rfl (aops_nil ⟨rfl,rfl⟩)) rfl (vs 1 rfl .nil))) (by kernel_rfl) ?_
    obtain⟨y59,hx60,h⟩:=bind_some h
    refine rn 7 rfl ?_
    refine aops_mcallS (V.tup []) [(V.ptr 2 3 0 0),(iV ((mget x10.funcs x57.Func).getD 0)),(iV (w64 (((a1.Funcs.length:Nat):Int)+n52))),(iV 1)] (fun i=>([2,3,4,5]:List Nat).getD i 0) (fun i=>([2,3,4,5]:List Nat).getD i 0) 7 7 [(2,(Ob.arr 69 3 [[(V.own 3 y59.length),(V.own 4 ([]:List Int).length),(V.own 5 ([]:List Int).length)]])),(3,(Ob.arr 123 1 (y59.map (encR 125 3 encTreach_arc)))),(4,(Ob.arr 3 1 (([]:List Int).map encI_i64))),(5,(Ob.arr 3 1 (([]:List Int).map encI_i64)))] fOk17 wants_none rfl (evm_cons rfl (evm_cons rfl (evm_cons rfl (evm_cons rfl evm_nil)))) (.cons (Sub.ptr rfl rfl) (.cons (Sub.imm (Imm.con _)) (.cons (Sub.imm (Imm.con _)) (.cons (Sub.imm (Imm.con _)) .nil)))) (.cons rfl (ObSub.box (.cons (Sub.own rfl rfl) (.cons (Sub.own rfl rfl) (.cons (Sub.own rfl rfl) .nil)))) (.cons rfl (ObSub.rowsK RK.h) (.cons rfl (ObSub.rows (rows_imm imms_encI_i64)) (.cons rfl (ObSub.rows (rows_imm imms_encI_i64)) .nil)))) (W17 F ((mget x10.funcs x57.Func).getD 0) (w64 (((a1.Funcs.length:Nat):Int)+n52)) 1 l53 ([]:List Int) ([]:List Int) y59 hx60) rfl rfl rfl rfl (Sub.immT (Imm.tup .nil)) (.cons rfl (ObSub.box (.cons (Sub.ownT rfl rfl) (.cons (Sub.ownT rfl rfl) (.cons (Sub.ownT rfl rfl) .nil)))) (.cons rfl (ObSub.rowsTK RK.h) (.cons rfl (ObSub.rowsT (rows_imm imms_encI_i64)) (.cons rfl (ObSub.rowsT (rows_imm imms_encI_i64)) .nil)))) _ rfl ?_
    obtain⟨x61,hx62,h⟩:=bind_some h
    obtain⟨x63,hx64,h⟩:=bind_some h
    obtain⟨y65,hx66,h⟩:=bind_some h
    refine fo (rn 2 rfl ?_)
    refine dr mixed (vs 4 rfl (iD hx62 rfl rfl rfl (vs 4 rfl (iD hx64 rfl rfl rfl (vs 1 rfl (cD rfl rfl rfl rfl (W18 _ _ _ _ hx66) rfl (nD rfl rfl rfl (vs 1 rfl .nil)))))))) (by kernel_rfl) ?_
    refine jK h (fun(p:(List (List Treach_arc)))=>(⟨[(3,(V.ptr 0 4 0 0)),(9,(V.iptr (encTreach_world x10) 0)),(10,(iV (y4.2.1))),(12,(V.own 1 l15.length)),(18,(iV ((a1.Funcs.length:Nat):Int))),(19,(iV (w64 (((a1.Funcs.length:Nat):Int)+((l15.length:Nat):Int))))),(20,(V.ptr 2 3 0 0)),(101,(V.own 1 l15.length)),(102,(iV ((l15.length:Nat):Int))),(103,(iV n52))],[(0,(Ob.arr 27 4 [(encTGraph a1)])),(1,(Ob.arr 41 2 (l15.map encTSite))),(2,(Ob.arr 69 3 [[(V.own 3 p.length),(V.own 4 ([]:List Int).length),(V.own 5 ([]:List Int).length)]])),(3,(Ob.arr 123 1 (p.map (encR 125 3 encTreach_arc)))),(4,(Ob.arr 3 1 (([]:List Int).map encI_i64))),(5,(Ob.arr 3 1 (([]:List Int).map encI_i64)))],6⟩:St)) (fun k67 p=>k67 p=some r) (fun k67 h=>?_) ?_
    ·refine rn 1 rfl ?_
     refine wl (A:=y65) 132 rfl (fun hA78=>?_)
     refine lC (fun(p:Int×(List (List Treach_arc)))=>(⟨[(3,(V.ptr 0 4 0 0)),(9,(V.iptr (encTreach_world x10) 0)),(10,(iV (y4.2.1))),(12,(V.own 1 l15.length)),(18,(iV ((a1.Funcs.length:Nat):Int))),(19,(iV (w64 (((a1.Funcs.length:Nat):Int)+((l15.length:Nat):Int))))),(20,(V.ptr 2 3 0 0)),(21,(iV n52)),(101,(V.own 1 l15.length)),(102,(iV ((l15.length:Nat):Int))),(103,(iV n52)),(132,(V.lst 1 (y65.map encI_i64))),(133,(iV ((y65.length:Nat):Int))),(134,(iV (p.1)))],[(0,(Ob.arr 27 4 [(encTGraph a1)])),(1,(Ob.arr 41 2 (l15.map encTSite))),(2,(Ob.arr 69 3 [[(V.own 3 (p.2).length),(V.own 4 ([]:List Int).length),(V.own 5 ([]:List Int).length)]])),(3,(Ob.arr 123 1 ((p.2).map (encR 125 3 encTreach_arc)))),(4,(Ob.arr 3 1 (([]:List Int).map encI_i64))),(5,(Ob.arr 3 1 (([]:List Int).map encI_i64)))],6⟩:St)) (fun n p=>RG y65 (fun tl nn=>M5_L4 F a1 n52 k67 tl p.2=some r) n p.1) (fun p h=>RG.zero h) (y65.length+1) (0,y59) (RG.start h) (gr [0,1,2,3,4,5] rfl (hB rfl rfl rfl (hR rfl rfl (hB rfl rfl rfl (hR rfl rfl (hR rfl rfl (hR rfl rfl .nil)))))) rfl) (fun n p h=>?_)
     obtain⟨n71,l72⟩:=p
     refine rn 5 rfl ?_
     refine spL rfl (fun hb73=>?_) (fun hb73=>?_)
     ·obtain⟨x74,tl,hx75,h,hk4⟩:=RG.t hA78 h hb73
      unfold M5_L4 at h
      refine rn 5 rfl ?_
      refine ixh hx75 rfl rfl ?_
      obtain⟨y76,hx77,h⟩:=bind_some h
      refine rn 9 rfl ?_
      refine aops_mcallS (V.tup []) [(V.ptr 2 3 0 0),(iV (w64 (((a1.Funcs.length:Nat):Int)+n52))),(iV x74),(iV 1099511627776)] (fun i=>([2,3,4,5]:List Nat).getD i 0) (fun i=>([2,3,4,5]:List Nat).getD i 0) 6 6 [(2,(Ob.arr 69 3 [[(V.own 3 y76.length),(V.own 4 ([]:List Int).length),(V.own 5 ([]:List Int).length)]])),(3,(Ob.arr 123 1 (y76.map (encR 125 3 encTreach_arc)))),(4,(Ob.arr 3 1 (([]:List Int).map encI_i64))),(5,(Ob.arr 3 1 (([]:List Int).map encI_i64)))] fOk17 wants_none rfl (evm_cons rfl (evm_cons rfl (evm_cons rfl (evm_cons rfl evm_nil)))) (.cons (Sub.ptr rfl rfl) (.cons (Sub.imm (Imm.con _)) (.cons (Sub.imm (Imm.con _)) (.cons (Sub.imm (Imm.con _)) .nil)))) (.cons rfl (ObSub.box (.cons (Sub.own rfl rfl) (.cons (Sub.own rfl rfl) (.cons (Sub.own rfl rfl) .nil)))) (.cons rfl (ObSub.rowsK RK.h) (.cons rfl (ObSub.rows (rows_imm imms_encI_i64)) (.cons rfl (ObSub.rows (rows_imm imms_encI_i64)) .nil)))) (W17 F (w64 (((a1.Funcs.length:Nat):Int)+n52)) x74 1099511627776 l72 ([]:List Int) ([]:List Int) y76 hx77) rfl rfl rfl rfl (Sub.immT (Imm.tup .nil)) (.cons rfl (ObSub.box (.cons (Sub.ownT rfl rfl) (.cons (Sub.ownT rfl rfl) (.cons (Sub.ownT rfl rfl) .nil)))) (.cons rfl (ObSub.rowsTK RK.h) (.cons rfl (ObSub.rowsT (rows_imm imms_encI_i64)) (.cons rfl (ObSub.rowsT (rows_imm imms_encI_i64)) .nil)))) _ rfl ?_
      refine fo (rn 6 rfl ?_)
      exact jX ((w64 (n71+1)),y76) (hk4 _ h) (gr [0,1,2,3,4,5] rfl (hB rfl rfl rfl (hR rfl rfl (hB rfl rfl rfl (hR rfl rfl (hR rfl rfl (hR rfl rfl .nil)))))) rfl)
     replace h:=RG.f h hb73
     unfold M5_L4 at h
     refine rn 1 rfl ?_
     exact jX l72 h (gr [0,1,2,3,4,5] rfl (hB rfl rfl rfl (hR rfl rfl (hB rfl rfl rfl (hR rfl rfl (hR rfl rfl (hR rfl rfl .nil)))))) rfl)
    intro l68 h
    refine rn 1 rfl ?_
    exact jX l68 h (gr [0,1,2,3,4,5] rfl (hB rfl rfl rfl (hR rfl rfl (hB rfl rfl rfl (hR rfl rfl (hR rfl rfl (hR rfl rfl .nil)))))) rfl)
   intro l56 h
   refine rn 4 rfl ?_
   exact jX ((w64 (n52+1)),l56) (hk3 _ h) (gr [0,1,2,3,4,5] rfl (hB rfl rfl rfl (hR rfl rfl (hB rfl rfl rfl (hR rfl rfl (hR rfl rfl (hR rfl rfl .nil)))))) rfl)
  replace h:=RG.f h hb54
  unfold M5_L3 at h
  refine rn 1 rfl ?_
  exact jX l53 h (gr [0,1,2,3,4,5] rfl (hB rfl rfl rfl (hR rfl rfl (hB rfl rfl rfl (hR rfl rfl (hR rfl rfl (hR rfl rfl .nil)))))) rfl)
 intro l49 h
 refine rn 5 rfl ?_
 refine ln rfl rfl ?_
 refine rn 2 rfl ?_
 refine jK h (fun(p:(List (List Treach_arc)))=>(⟨[(9,(V.iptr (encTreach_world x10) 0)),(10,(iV (y4.2.1))),(12,(V.own 0 l15.length)),(18,(iV ((a1.Funcs.length:Nat):Int))),(19,(iV (w64 (((a1.Funcs.length:Nat):Int)+((l15.length:Nat):Int))))),(20,(V.ptr 1 3 0 0))],[(0,(Ob.arr 41 2 (l15.map encTSite))),(1,(Ob.arr 69 3 [[(V.own 2 p.length),(V.own 3 ([]:List Int).length),(V.own 4 ([]:List Int).length)]])),(2,(Ob.arr 123 1 (p.map (encR 125 3 encTreach_arc)))),(3,(Ob.arr 3 1 (([]:List Int).map encI_i64))),(4,(Ob.arr 3 1 (([]:List Int).map encI_i64)))],5⟩:St)) (fun k80 p=>k80 p=some r) (fun k80 h=>?_) ?_
 ·refine rn 1 rfl ?_
  refine wl (A:=a1.Entries) 147 rfl (fun hA91=>?_)
  refine lC (fun(p:Int×(List (List Treach_arc)))=>(⟨[(9,(V.iptr (encTreach_world x10) 0)),(10,(iV (y4.2.1))),(12,(V.own 0 l15.length)),(18,(iV ((a1.Funcs.length:Nat):Int))),(19,(iV (w64 (((a1.Funcs.length:Nat):Int)+((l15.length:Nat):Int))))),(20,(V.ptr 1 3 0 0)),(147,(V.lst 1 (a1.Entries.map encS))),(148,(iV ((a1.Entries.length:Nat):Int))),(149,(iV (p.1)))],[(0,(Ob.arr 41 2 (l15.map encTSite))),(1,(Ob.arr 69 3 [[(V.own 2 (p.2).length),(V.own 3 ([]:List Int).length),(V.own 4 ([]:List Int).length)]])),(2,(Ob.arr 123 1 ((p.2).map (encR 125 3 encTreach_arc)))),(3,(Ob.arr 3 1 (([]:List Int).map encI_i64))),(4,(Ob.arr 3 1 (([]:List Int).map encI_i64)))],5⟩:St)) (fun n p=>RG a1.Entries (fun tl nn=>M5_L5 F a1 x10 l15 k80 tl p.2=some r) n p.1) (fun p h=>RG.zero h) (a1.Entries.length+1) (0,l49) (RG.start h) (gr [1,2,3,4,5] rfl (hR rfl rfl (hB rfl rfl rfl (hR rfl rfl (hR rfl rfl (hR rfl rfl .nil))))) rfl) (fun n p h=>?_)
  obtain⟨n84,l85⟩:=p
  refine rn 5 rfl ?_
  refine spL rfl (fun hb86=>?_) (fun hb86=>?_)
  ·obtain⟨x87,tl,hx88,h,hk5⟩:=RG.t hA91 h hb86
   unfold M5_L5 at h
   refine rn 5 rfl ?_
   refine ixh hx88 rfl rfl ?_
   refine rn 11 rfl ?_
   refine aops_lookup _ (iV 0) (iV ((mget x10.funcs x87).getD 0)) tMap61 tKey9 tZo3 (irel_con _) wants_none rfl .imm (.con rfl) ⟨_,rfl⟩ encM9_3_good (encM9_3_look x10.funcs x87) (getD_map (encM9_3_val) (mget x10.funcs x87) 0) rfl ?_
   obtain⟨y89,hx90,h⟩:=bind_some h
   refine aops_mcallS (V.tup []) [(V.ptr 1 3 0 0),(iV (w64 (((a1.Funcs.length:Nat):Int)+((l15.length:Nat):Int)))),(iV ((mget x10.funcs x87).getD 0)),(iV 1099511627776)] (fun i=>([1,2,3,4]:List Nat).getD i 0) (fun i=>([1,2,3,4]:List Nat).getD i 0) 5 5 [(1,(Ob.arr 69 3 [[(V.own 2 y89.length),(V.own 3 ([]:List Int).length),(V.own 4 ([]:List Int).length)]])),(2,(Ob.arr 123 1 (y89.map (encR 125 3 encTreach_arc)))),(3,(Ob.arr 3 1 (([]:List Int).map encI_i64))),(4,(Ob.arr 3 1 (([]:List Int).map encI_i64)))] fOk17 wants_none rfl (evm_cons rfl (evm_cons rfl (evm_cons rfl (evm_cons rfl evm_nil)))) (.cons (Sub.ptr rfl rfl) (.cons (Sub.imm (Imm.con _)) (.cons (Sub.imm (Imm.con _)) (.cons (Sub.imm (Imm.con _)) .nil)))) (.cons rfl (ObSub.box (.cons (Sub.own rfl rfl) (.cons (Sub.own rfl rfl) (.cons (Sub.own rfl rfl) .nil)))) (.cons rfl (ObSub.rowsK RK.h) (.cons rfl (ObSub.rows (rows_imm imms_encI_i64)) (.cons rfl (ObSub.rows (rows_imm imms_encI_i64)) .nil)))) (W17 F (w64 (((a1.Funcs.length:Nat):Int)+((l15.length:Nat):Int))) ((mget x10.funcs x87).getD 0) 1099511627776 l85 ([]:List Int) ([]:List Int) y89 hx90) rfl rfl rfl rfl (Sub.immT (Imm.tup .nil)) (.cons rfl (ObSub.box (.cons (Sub.ownT rfl rfl) (.cons (Sub.ownT rfl rfl) (.cons (Sub.ownT rfl rfl) .nil)))) (.cons rfl (ObSub.rowsTK RK.h) (.cons rfl (ObSub.rowsT (rows_imm imms_encI_i64)) (.cons rfl (ObSub.rowsT (rows_imm imms_encI_i64)) .nil)))) _ rfl ?_
   refine fo (rn 6 rfl ?_)
   exact jX ((w64 (n84+1)),y89) (hk5 _ h) (gr [0,1,2,3,4] rfl (hR rfl rfl (hB rfl rfl rfl (hR rfl rfl (hR rfl rfl (hR rfl rfl .nil))))) rfl)
  replace h:=RG.f h hb86
  unfold M5_L5 at h
  refine rn 1 rfl ?_
  exact jX l85 h (gr [0,1,2,3,4] rfl (hR rfl rfl (hB rfl rfl rfl (hR rfl rfl (hR rfl rfl (hR rfl rfl .nil))))) rfl)
 intro l81 h
 obtain⟨y92,hx93,h⟩:=bind_some h
 refine rn 5 rfl ?_
 refine aops_mcallS (V.tup []) [(V.ptr 1 3 0 0),(iV (w64 (((a1.Funcs.length:Nat):Int)+((l15.length:Nat):Int)))),(iV (y4.2.1))] (fun i=>([1,2,3,4]:List Nat).getD i 0) (fun i=>([1,2,3,4,5,6]:List Nat).getD i 0) 5 7 [(1,(Ob.arr 69 3 [[(V.own 2 (y92.1).length),(V.own 5 (y92.2.1).length),(V.own 6 (y92.2.2).length)]])),(2,(Ob.arr 123 1 ((y92.1).map (encR 125 3 encTreach_arc)))),(3,Ob.dead),(4,Ob.dead),(5,(Ob.arr 3 1 ((y92.2.1).map encI_i64))),(6,(Ob.arr 3 1 ((y92.2.2).map encI_i64)))] fOk19 wants_none rfl (evm_cons rfl (evm_cons rfl (evm_cons rfl evm_nil))) (.cons (Sub.ptr rfl rfl) (.cons (Sub.imm (Imm.con _)) (.cons (Sub.imm (Imm.con _)) .nil))) (.cons rfl (ObSub.box (.cons (Sub.own rfl rfl) (.cons (Sub.own rfl rfl) (.cons (Sub.own rfl rfl) .nil)))) (.cons rfl (ObSub.rowsK RK.h) (.cons rfl (ObSub.rows (rows_imm imms_encI_i64)) (.cons rfl (ObSub.rows (rows_imm imms_encI_i64)) .nil)))) (W19 F (w64 (((a1.Funcs.length:Nat):Int)+((l15.length:Nat):Int))) (y4.2.1) l81 ([]:List Int) ([]:List Int) y92 hx93) rfl rfl rfl rfl (Sub.immT (Imm.tup .nil)) (.cons rfl (ObSub.box (.cons (Sub.ownT rfl rfl) (.cons (Sub.ownT rfl rfl) (.cons (Sub.ownT rfl rfl) .nil)))) (.cons rfl (ObSub.rowsTK RK.h) (.cons rfl ObSub.deadT (.cons rfl ObSub.deadT (.cons rfl (ObSub.rowsT (rows_imm imms_encI_i64)) (.cons rfl (ObSub.rowsT (rows_imm imms_encI_i64)) .nil)))))) _ rfl ?_
 refine fo (rn 12 rfl ?_)
 refine jK h (fun(p:(List TSite))=>(⟨[(28,(V.own 0 p.length))],[(0,(Ob.arr 41 2 (p.map encTSite)))],1⟩:St)) (fun k94 p=>k94 p=some r) (fun k94 h=>?_) ?_
 ·refine rn 1 rfl ?_
  refine wlO (A:=l15) 0 rfl (fun hA114=>?_)
  refine lC (fun(p:Int×(List TSite))=>(⟨[(9,(V.iptr (encTreach_world x10) 0)),(18,(iV ((a1.Funcs.length:Nat):Int))),(20,(V.ptr 0 3 0 0)),(28,(V.own 1 (p.2).length)),(167,(V.own 2 l15.length)),(168,(iV ((l15.length:Nat):Int))),(169,(iV (p.1)))],[(0,(Ob.arr 69 3 [[(V.own 3 (y92.1).length),(V.own 4 (y92.2.1).length),(V.own 5 (y92.2.2).length)]])),(1,(Ob.arr 41 2 ((p.2).map encTSite))),(2,(Ob.arr 41 2 (l15.map encTSite))),(3,(Ob.arr 123 1 ((y92.1).map (encR 125 3 encTreach_arc)))),(4,(Ob.arr 3 1 ((y92.2.1).map encI_i64))),(5,(Ob.arr 3 1 ((y92.2.2).map encI_i64)))],6⟩:St)) (fun n p=>RG l15 (fun tl nn=>M5_L6 F a1 x10 y92 k94 tl nn p.2=some r) n p.1) (fun p h=>RG.zero h) (l15.length+1) (0,([]:List TSite)) (RG.start h) (Ghost.trans (ghost_nilE 28 41 2 rfl) (ghost_ren 6 (fun i=>([1,7,0,2,5,6]:List Nat).getD i 0) _ _ (by decide) (EnvSub.get (.cons (Sub.imm (Imm.iptr _ _)) (.cons (Sub.imm (Imm.con _)) (.cons (Sub.ptr rfl rfl) (.cons (Sub.ownE rfl rfl (by simp)) (.cons (Sub.own rfl rfl) (.cons (Sub.imm (Imm.con _)) (.cons (Sub.imm (Imm.con _)) .nil)))))))) (HpSub.get (.cons rfl (ObSub.box (.cons (Sub.own rfl rfl) (.cons (Sub.own rfl rfl) (.cons (Sub.own rfl rfl) .nil)))) (.cons rfl (ObSub.rows (rows_imm imms_encTSite)) (.cons rfl (ObSub.rows (rows_imm imms_encTSite)) (.cons rfl (ObSub.rowsK RK.h) (.cons rfl (ObSub.rows (rows_imm imms_encI_i64)) (.cons rfl (ObSub.rows (rows_imm imms_encI_i64)) .nil))))))) rfl)) (fun n p h=>?_)
  obtain⟨n98,l99⟩:=p
  refine rn 5 rfl ?_
  refine spL rfl (fun hb100=>?_) (fun hb100=>?_)
  ·obtain⟨x103,tl,hx104,h,hk6⟩:=RG.t hA114 h hb100
   unfold M5_L6 at h
   refine rn 2 rfl ?_
   refine jK h (fun(p:(List TSite))=>(⟨[(9,(V.iptr (encTreach_world x10) 0)),(18,(iV ((a1.Funcs.length:Nat):Int))),(20,(V.ptr 0 3 0 0)),(28,(V.own 1 p.length)),(167,(V.own 2 l15.length)),(168,(iV ((l15.length:Nat):Int))),(169,(iV n98))],[(0,(Ob.arr 69 3 [[(V.own 3 (y92.1).length),(V.own 4 (y92.2.1).length),(V.own 5 (y92.2.2).length)]])),(1,(Ob.arr 41 2 (p.map encTSite))),(2,(Ob.arr 41 2 (l15.map encTSite))),(3,(Ob.arr 123 1 ((y92.1).map (encR 125 3 encTreach_arc)))),(4,(Ob.arr 3 1 ((y92.2.1).map encI_i64))),(5,(Ob.arr 3 1 ((y92.2.2).map encI_i64)))],6⟩:St)) (fun k101 p=>k101 p=some r) (fun k101 h=>?_) ?_
   ·refine rn 4 rfl ?_
    refine ixoh (a:=l15) hx104 rfl rfl rfl ?_
    refine ldp hx104 rfl rfl rfl rfl ?_
    obtain⟨x105,hx106,h⟩:=bind_some h
    refine rn 5 rfl ?_
    refine bs h (fun hb107 h=>?_) (fun hb107 h=>?_)
    ·obtain⟨x108,hx109,h⟩:=bind_some h
     refine dr mixed (vs 10 rfl (xD (OD.mk [(181,(V.imap (x10.funcs.map encM9_3))),(183,(sV x103.Func))] [] [(184,(iV ((mget x10.funcs x103.Func).getD 0)))] []) ⟨⟨rfl,rfl,trivial⟩,trivial⟩ (by exact fun S hn h hh=>aops_lookup _ (iV 0) (iV ((mget x10.funcs x103.Func).getD 0)) tMap61 tKey9 tZo3 (irel_con _) wants_none h.1 .imm (.con h.2.1) ⟨_,rfl⟩ encM9_3_good (encM9_3_look x10.funcs x103.Func) (getD_map (encM9_3_val) (mget x10.funcs x103.Func) 0) rfl (aops_nil ⟨rfl,rfl⟩)) rfl (oD (a:=(y92.2.1)) hx106 rfl rfl rfl rfl (lD hx106 rfl rfl rfl rfl rfl (vs 1 rfl (vb hb107 rfl (vs 7 rfl (oD (a:=(y92.2.1)) hx109 rfl rfl rfl rfl (lD hx109 rfl rfl rfl rfl rfl (vs 2 rfl .nil)))))))))) (by kernel_rfl) ?_
     refine jK h (fun(p:(List TSite))=>(⟨[(9,(V.iptr (encTreach_world x10) 0)),(18,(iV ((a1.Funcs.length:Nat):Int))),(20,(V.ptr 0 3 0 0)),(28,(V.own 1 p.length)),(167,(V.own 2 l15.length)),(168,(iV ((l15.length:Nat):Int))),(169,(iV n98)),(198,(bV (decide (x108<0))))],[(0,(Ob.arr 69 3 [[(V.own 3 (y92.1).length),(V.own 4 (y92.2.1).length),(V.own 5 (y92.2.2).length)]])),(1,(Ob.arr 41 2 (p.map encTSite))),(2,(Ob.arr 41 2 (l15.map encTSite))),(3,(Ob.arr 123 1 ((y92.1).map (encR 125 3 encTreach_arc)))),(4,(Ob.arr 3 1 ((y92.2.1).map encI_i64))),(5,(Ob.arr 3 1 ((y92.2.2).map encI_i64)))],6⟩:St)) (fun k110 p=>k110 p=some r) (fun k110 h=>?_) ?_
     ·refine spC h rfl (fun hb112 h=>?_) (fun hb112 h=>?_)
      ·refine rn 3 rfl ?_
       refine aops_buildSlice [(0,(V.agg (encTSite x103)))] [(encTSite x103)] tEl28 tZ41 rfl rfl rfl rfl wants_none (evp_cons rfl evp_nil) rfl rfl (by simp) rfl ?_
       refine fo ?_
       refine apO encTSite h rfl rfl rfl rfl rfl rfl rfl rfl (fun h=>?_)
       refine rn 2 rfl ?_
       exact jX (l99++([x103]:List TSite)) h (gr [0,8,2,3,4,5] rfl (hB rfl rfl rfl (hR rfl rfl (hR rfl rfl (hR rfl rfl (hR rfl rfl (hR rfl rfl .nil)))))) rfl)
      refine rn 1 rfl ?_
      exact jX l99 h (gr [0,1,2,3,4,5] rfl (hB rfl rfl rfl (hR rfl rfl (hR rfl rfl (hR rfl rfl (hR rfl rfl (hR rfl rfl .nil)))))) rfl)
     intro l111 h
     refine rn 1 rfl ?_
     exact jX l111 h (gr [0,1,2,3,4,5] rfl (hB rfl rfl rfl (hR rfl rfl (hR rfl rfl (hR rfl rfl (hR rfl rfl (hR rfl rfl .nil)))))) rfl)
    refine dr mixed (vs 10 rfl (xD (OD.mk [(181,(V.imap (x10.funcs.map encM9_3))),(183,(sV x103.Func))] [] [(184,(iV ((mget x10.funcs x103.Func).getD 0)))] []) ⟨⟨rfl,rfl,trivial⟩,trivial⟩ (by exact fun S hn h hh=>aops_lookup _ (iV 0) (iV ((mget x10.funcs x103.Func).getD 0)) tMap61 tKey9 tZo3 (irel_con _) wants_none h.1 .imm (.con h.2.1) ⟨_,rfl⟩ encM9_3_good (encM9_3_look x10.funcs x103.Func) (getD_map (encM9_3_val) (mget x10.funcs x103.Func) 0) rfl (aops_nil ⟨rfl,rfl⟩)) rfl (oD (a:=(y92.2.1)) hx106 rfl rfl rfl rfl (lD hx106 rfl rfl rfl rfl rfl (vs 1 rfl (vb hb107 rfl (vs 11 rfl .nil))))))) (by kernel_rfl) ?_
    refine rn 3 rfl ?_
    exact jX l99 h (gr [0,1,2,3,4,5] rfl (hB rfl rfl rfl (hR rfl rfl (hR rfl rfl (hR rfl rfl (hR rfl rfl (hR rfl rfl .nil)))))) rfl)
   intro l102 h
   refine rn 4 rfl ?_
   exact jX ((w64 (n98+1)),l102) (hk6 _ h) (gr [0,1,2,3,4,5] rfl (hB rfl rfl rfl (hR rfl rfl (hR rfl rfl (hR rfl rfl (hR rfl rfl (hR rfl rfl .nil)))))) rfl)
  replace h:=RG.f h hb100
  unfold M5_L6 at h
  refine rn 1 rfl ?_
  exact jX l99 h (gr [1] rfl (hR rfl rfl .nil) rfl)
 intro l95 h
 refine rn 7 rfl ?_
 refine awp_ghost (ghost_frzEs 0 [6,28,205] rfl (rows_imm imms_encTSite) (List.forall_mem_cons.2 ⟨rfl,(List.forall_mem_cons.2 ⟨rfl,(List.forall_mem_cons.2 ⟨rfl,(fun _ hx=>nomatch hx)⟩)⟩)⟩) (List.length_map ..).symm) ?_
 refine fa ?_
 exact rt h rfl
theorem W80(F:Nat)(a1:Int)(r:Bool)(h:M80 F a1=some r):Pure Tryz.prog 80 [(iV a1)] (bV r):=by
 refine pin (fun r=>(bV r)) r rfl Tryz.func80 rfl rfl rfl rfl rfl (fun w0 m0 hg=>?_)
 unfold M80 at h
 refine rn 11 rfl ?_
 exact rt h rfl
theorem W57(F:Nat)(a1:Int)(a2:Int)(r:Int)(h:M57 F a1 a2=some r):Pure Tryz.prog 57 [(iV a1),(iV a2)] (iV r):=by
 refine pin (fun r=>(iV r)) r rfl Tryz.func57 rfl rfl rfl rfl rfl (fun w0 m0 hg=>?_)
 unfold M57 at h
 refine rn 7 rfl ?_
 refine cl h rfl rfl rfl (W80 _ _) rfl (fun y3 hx4 h=>?_)
 refine rn 5 rfl ?_
 refine cl h rfl rfl rfl (W80 _ _) rfl (fun y5 hx6 h=>?_)
 refine rn 7 rfl ?_
 refine spC h rfl (fun hb7 h=>?_) (fun hb7 h=>?_)
 ·refine rn 5 rfl ?_
  refine spC h rfl (fun hb8 h=>?_) (fun hb8 h=>?_)
  ·refine rn 4 rfl ?_
   exact rt h rfl
  refine rn 5 rfl ?_
  exact rt h rfl
 refine rn 6 rfl ?_
 refine spC h rfl (fun hb9 h=>?_) (fun hb9 h=>?_)
 ·refine rn 4 rfl ?_
  exact rt h rfl
 refine rn 8 rfl ?_
 refine spC h rfl (fun hb10 h=>?_) (fun hb10 h=>?_)
 ·refine rn 4 rfl ?_
  exact rt h rfl
 refine rn 8 rfl ?_
 refine spC h rfl (fun hb11 h=>?_) (fun hb11 h=>?_)
 ·refine rn 4 rfl ?_
  exact rt h rfl
 refine rn 5 rfl ?_
 exact rt h rfl
theorem W55(F:Nat)(a1:(List Int))(r:Int)(h:M55 F a1=some r):Pure Tryz.prog 55 [(V.lst 1 (a1.map encI_i64))] (iV r):=by
 refine pin (fun r=>(iV r)) r rfl Tryz.func55 rfl rfl rfl rfl rfl (fun w0 m0 hg=>?_)
 unfold M55 at h
 refine rn 12 rfl ?_
 refine ln rfl rfl ?_
 refine rn 2 rfl ?_
 refine jK h (fun _:Unit=>(⟨[(3,(iV 0))],[],0⟩:St)) (fun k2 (_:Unit)=>k2=some r) (fun k2 h=>?_) ?_
 ·refine rn 1 rfl ?_
  refine wl (A:=a1) 0 rfl (fun hA9=>?_)
  refine lC (fun(p:Int)=>(⟨[(3,(iV 0)),(6,(V.lst 1 (a1.map encI_i64))),(7,(iV ((a1.length:Nat):Int))),(8,(iV p))],[],0⟩:St)) (fun n p=>RG a1 (fun tl nn=>M55_L1 F k2 tl=some r) n p) (fun p h=>RG.zero h) (a1.length+1) 0 (RG.start h) (g0 rfl rfl) (fun n n4 h=>?_)
  refine rn 5 rfl ?_
  refine spL rfl (fun hb5=>?_) (fun hb5=>?_)
  ·obtain⟨x6,tl,hx7,h,hk1⟩:=RG.t hA9 h hb5
   unfold M55_L1 at h
   refine rn 5 rfl ?_
   refine ixh hx7 rfl rfl ?_
   refine rn 9 rfl ?_
   refine spC h rfl (fun hb8 h=>?_) (fun hb8 h=>?_)
   ·refine rn 5 rfl ?_
    exact rt h rfl
   refine rn 6 rfl ?_
   exact jX (w64 (n4+1)) (hk1 _ h) (g0 rfl rfl)
  replace h:=RG.f h hb5
  unfold M55_L1 at h
  refine rn 1 rfl ?_
  exact jX () h (g0 rfl rfl)
 intro _ h
 refine rn 5 rfl ?_
 exact rt h rfl
theorem W22(F:Nat)(a1:TSite)(a2:TSite)(r:Int)(h:M22 F a1 a2=some r):Pure Tryz.prog 22 [(V.agg (encTSite a1)),(V.agg (encTSite a2))] (iV r):=by
 refine pin (fun r=>(iV r)) r rfl Tryz.func22 rfl rfl rfl rfl rfl (fun w0 m0 hg=>?_)
 unfold M22 at h
 obtain⟨y3,hx4,h⟩:=bind_some h
 obtain⟨y5,hx6,h⟩:=bind_some h
 obtain⟨y7,hx8,h⟩:=bind_some h
 refine rn 7 rfl ?_
 refine dr mixed (vs 4 rfl (cD rfl rfl rfl rfl (W56 _ _ _ _ hx4) rfl (vs 4 rfl (cD rfl rfl rfl rfl (W57 _ _ _ _ hx6) rfl (xD (OD.mk [(9,(iV y3)),(14,(iV y5))] [] [(15,(V.lst 1 (([y3,y5]:List Int).map encI_i64)))] []) ⟨⟨rfl,rfl,trivial⟩,trivial⟩ (by exact fun S hn h hh=>aops_buildSlice_imm [(0,(iV y3)),(1,(iV y5))] [[(iV y3)],[(iV y5)]] tEl58 tZ3 wants_none rfl rfl rfl rfl (evp_cons h.1 (evp_cons h.2.1 evp_nil)) rfl rfl (by simp) (imms_rows (.cons (.cons (Imm.con _) .nil) (.cons (.cons (Imm.con _) .nil) .nil))) rfl (aops_nil ⟨rfl,rfl⟩)) rfl (cD rfl rfl rfl rfl (W55 _ _ _ hx8) rfl (vs 1 rfl .nil))))))) (by kernel_rfl) ?_
 exact rt h rfl
theorem W29(F:Nat)(a1:(List (List UInt8)))(r:(List (List UInt8)))(h:M29 F a1=some r):Pure Tryz.prog 29 [(V.lst 1 (a1.map encS))] (V.lst 1 (r.map encS)):=by
 refine pin (fun r=>(V.lst 1 (r.map encS))) r rfl Tryz.func29 rfl rfl rfl rfl rfl (fun w0 m0 hg=>?_)
 unfold M29 at h
 refine rn 8 rfl ?_
 refine aops_isNil (n:=a1.length) false tIsSl25 wants_none rfl rfl (congrArg some (List.length_map ..)) rfl (fun b2 hn3=>?_)
 replace h:=nilq_elim h hn3
 refine fo (rn 1 rfl ?_)
 refine spC h rfl (fun hb4 h=>?_) (fun hb4 h=>?_)
 ·refine rn 4 rfl ?_
  exact rt h rfl
 refine rn 3 rfl ?_
 refine aops_emptySlice tEl25 wants_none rfl ?_
 refine fo (rn 1 rfl ?_)
 refine apL encS h rfl rfl rfl (by simp) rfl (fun h=>?_)
 refine rn 2 rfl ?_
 refine awp_ghost (ghost_frzEs 1 [2,7] rfl (rows_imm imms_encS) (List.forall_mem_cons.2 ⟨rfl,(List.forall_mem_cons.2 ⟨rfl,(fun _ hx=>nomatch hx)⟩)⟩) (List.length_map ..).symm) ?_
 refine fa ?_
 exact rt h rfl
theorem W25(F:Nat)(a1:TIface)(r:TIface)(h:M25 F a1=some r):Pure Tryz.prog 25 [(V.agg (encTIface a1))] (V.agg (encTIface r)):=by
 refine pin (fun r=>(V.agg (encTIface r))) r rfl Tryz.func25 rfl rfl rfl rfl rfl (fun w0 m0 hg=>?_)
 unfold M25 at h
 refine rn 9 rfl ?_
 refine cl h rfl rfl rfl (W29 _ _) rfl (fun y2 hx3 h=>?_)
 refine rn 8 rfl ?_
 exact rt h rfl
theorem W24(F:Nat)(a1:TIface)(r:(List UInt8))(h:M24 F a1=some r):Pure Tryz.prog 24 [(V.agg (encTIface a1))] (sV r):=by
 refine pin (fun r=>(sV r)) r rfl Tryz.func24 rfl rfl rfl rfl rfl (fun w0 m0 hg=>?_)
 unfold M24 at h
 refine rn 11 rfl ?_
 exact rt h rfl
theorem W59(F:Nat)(a1:TIface)(a2:TIface)(r:Int)(h:M59 F a1 a2=some r):Pure Tryz.prog 59 [(V.agg (encTIface a1)),(V.agg (encTIface a2)),(V.iptr [(V.fn (.func 24) [] [])] 0)] (iV r):=by
 refine pin (fun r=>(iV r)) r rfl Tryz.func59 rfl rfl rfl rfl rfl (fun w0 m0 hg=>?_)
 unfold M59 at h
 obtain⟨y3,hx4,h⟩:=bind_some h
 obtain⟨y5,hx6,h⟩:=bind_some h
 obtain⟨y7,hx8,h⟩:=bind_some h
 refine rn 7 rfl ?_
 refine dr mixed (vs 2 rfl (cD rfl rfl rfl rfl (W24 _ _ _ hx4) rfl (vs 2 rfl (cD rfl rfl rfl rfl (W24 _ _ _ hx6) rfl (cD rfl rfl rfl rfl (W56 _ _ _ _ hx8) rfl (vs 1 rfl .nil)))))) (by kernel_rfl) ?_
 exact rt h rfl
theorem W58(F:Nat)(a1:List TIface)(r:List TIface)(h:M58 F a1=some r):Mut Tryz.prog 58 [(V.own 0 a1.length),(V.fn (.func 59) [] [(V.iptr [(V.fn (.func 24) [] [])] 0)])] 1 [(0,(Ob.arr 80 2 (a1.map encTIface)))] (resV []) 1 [(0,(Ob.arr 80 2 (r.map encTIface)))]:=by
 unfold M58 at h
 exact(mut_sortF (g:=59) encTIface (fun _=>rfl) (fun x=>(imms_encTIface _)) [(V.iptr [(V.fn (.func 24) [] [])] 0)] (.cons (Imm.iptr _ _) .nil) (fun x3 y4=>M59 F x3 y4) a1 r rfl h (fun x3 y4 c hc=>W59 F x3 y4 c hc)
  (fun encR h1 h2 cf h3 cb blk off cap d w h4 h5 h6 h7=>Go.Proofs.Tryz.slices_SortFunc_f58 2 Go.Proofs.Tryz.isAgg80 Go.Proofs.Tryz.sizeOf80 encR h1 h2 cf h3 59 cb blk off cap d w (Go.Proofs.enters_of Go.Proofs.Tryz.func59 (by kernel_rfl) rfl) h4 h5 h6 h7)
  (fun p cap fv w=>Go.Proofs.Tryz.slices_SortFunc_none_f58 (α:=Nat) p cap fv w)).heap hget_one
theorem W23(F:Nat)(a1:(List TIface))(r:(List TIface))(h:M23 F a1=some r):Pure Tryz.prog 23 [(V.lst 2 (a1.map encTIface)),(V.fn (.func 24) [] []),(V.fn (.func 25) [] [])] (V.lst 2 (r.map encTIface)):=by
 refine pin (fun r=>(V.lst 2 (r.map encTIface))) r rfl Tryz.func23 rfl rfl rfl rfl rfl (fun w0 m0 hg=>?_)
 unfold M23 at h
 refine rn 13 rfl ?_
 refine ln rfl rfl ?_
 refine rn 2 rfl ?_
 refine jK h (fun(p:(List TIface))=>(⟨[(4,(V.ptr 0 1 0 0)),(7,(V.own 1 p.length))],[(0,(Ob.arr 81 1 [[(V.fn (.func 24) [] [])]])),(1,(Ob.arr 80 2 (p.map encTIface)))],2⟩:St)) (fun k2 p=>k2 p=some r) (fun k2 h=>?_) ?_
 ·refine rn 1 rfl ?_
  refine wl (A:=a1) 0 rfl (fun hA14=>?_)
  refine lC (fun(p:Int×(List TIface))=>(⟨[(2,(V.fn (.func 25) [] [])),(4,(V.ptr 0 1 0 0)),(7,(V.own 1 (p.2).length)),(10,(V.lst 2 (a1.map encTIface))),(11,(iV ((a1.length:Nat):Int))),(12,(iV (p.1)))],[(0,(Ob.arr 81 1 [[(V.fn (.func 24) [] [])]])),(1,(Ob.arr 80 2 ((p.2).map encTIface)))],2⟩:St)) (fun n p=>RG a1 (fun tl nn=>M23_L1 F k2 tl p.2=some r) n p.1) (fun p h=>RG.zero h) (a1.length+1) (0,([]:List TIface)) (RG.start h) (Ghost.trans (ghost_nilE 7 80 2 rfl) (ghost_ren 2 (fun i=>([0,1]:List Nat).getD i 0) _ _ (by decide) (EnvSub.get (.cons (Sub.imm (Imm.fn .nil .nil)) (.cons (Sub.ptr rfl rfl) (.cons (Sub.ownE rfl rfl (by simp)) (.cons (Sub.imm (Imm.lst _ _)) (.cons (Sub.imm (Imm.con _)) (.cons (Sub.imm (Imm.con _)) .nil))))))) (HpSub.get (.cons rfl (ObSub.box (.cons (Sub.imm (Imm.fn .nil .nil)) .nil)) (.cons rfl (ObSub.rows (rows_imm imms_encTIface)) .nil))) rfl)) (fun n p h=>?_)
  obtain⟨n6,l7⟩:=p
  refine rn 5 rfl ?_
  refine spL rfl (fun hb8=>?_) (fun hb8=>?_)
  ·obtain⟨x9,tl,hx10,h,hk1⟩:=RG.t hA14 h hb8
   unfold M23_L1 at h
   refine rn 5 rfl ?_
   refine ixh hx10 rfl rfl ?_
   refine rn 8 rfl ?_
   refine cl h rfl rfl rfl (W25 _ _) rfl (fun y11 hx12 h=>?_)
   refine aops_buildSlice [(0,(V.agg (encTIface y11)))] [(encTIface y11)] tEl22 tZ80 rfl rfl rfl rfl wants_none (evp_cons rfl evp_nil) rfl rfl (by simp) rfl ?_
   refine fo ?_
   refine apO encTIface h rfl rfl rfl rfl rfl rfl rfl rfl (fun h=>?_)
   refine rn 7 rfl ?_
   exact jX ((w64 (n6+1)),(l7++([y11]:List TIface))) (hk1 _ h) (gr [0,4] rfl (hB rfl rfl rfl (hR rfl rfl .nil)) rfl)
  replace h:=RG.f h hb8
  unfold M23_L1 at h
  refine rn 1 rfl ?_
  exact jX l7 h (gr [0,1] rfl (hB rfl rfl rfl (hR rfl rfl .nil)) rfl)
 intro l3 h
 obtain⟨y15,hx16,h⟩:=bind_some h
 refine rn 4 rfl ?_
 refine ck h (fun hc17 h=>?_)
 refine aops_ghost (ghost_frzV 0 24 (V.fn (.func 59) [] [(V.iptr [(V.fn (.func 24) [] [])] 0)]) rfl (imms_rows (.cons (.cons (Imm.fn .nil .nil) .nil) .nil)) rfl (Sub.fnc (.cons (Sub.frzptr rfl) .nil))) ?_
 refine aops_mcallS (V.tup []) [(V.own 1 l3.length),(V.fn (.func 59) [] [(V.iptr [(V.fn (.func 24) [] [])] 0)])] (fun i=>([1]:List Nat).getD i 0) (fun i=>([1]:List Nat).getD i 0) 2 2 [(1,(Ob.arr 80 2 (y15.map encTIface)))] fOk58 wants_none rfl (evm_cons rfl (evm_cons rfl evm_nil)) (.cons (Sub.own rfl rfl) (.cons (Sub.imm (Imm.fn .nil (.cons (Imm.iptr _ _) .nil))) .nil)) (.cons rfl (ObSub.rows (rows_imm imms_encTIface)) .nil) (W58 F l3 y15 hx16) rfl rfl rfl rfl (Sub.immT (Imm.tup .nil)) (.cons rfl (ObSub.rowsT (rows_imm imms_encTIface)) .nil) _ rfl ?_
 refine aops_ghost (ghost_tell 7 (V.own 1 y15.length) rfl (Sub.ownI hc17)) ?_
 refine aops_ghost (ghost_tell 23 (V.own 1 y15.length) rfl (Sub.ownI hc17)) ?_
 refine fo (rn 6 rfl ?_)
 refine awp_ghost (ghost_frzEs 1 [6,7,23,26] rfl (rows_imm imms_encTIface) (List.forall_mem_cons.2 ⟨rfl,(List.forall_mem_cons.2 ⟨rfl,(List.forall_mem_cons.2 ⟨rfl,(List.forall_mem_cons.2 ⟨rfl,(fun _ hx=>nomatch hx)⟩)⟩)⟩)⟩) (List.length_map ..).symm) ?_
 refine fa ?_
 exact rt h rfl
theorem W62(F:Nat)(a1:(List TMethod))(r:(List TMethod))(h:M62 F a1=some r):Pure Tryz.prog 62 [(V.lst 2 (a1.map encTMethod))] (V.lst 2 (r.map encTMethod)):=by
 refine pin (fun r=>(V.lst 2 (r.map encTMethod))) r rfl Tryz.func62 rfl rfl rfl rfl rfl (fun w0 m0 hg=>?_)
 unfold M62 at h
 refine rn 8 rfl ?_
 refine aops_isNil (n:=a1.length) false tIsSl84 wants_none rfl rfl (congrArg some (List.length_map ..)) rfl (fun b2 hn3=>?_)
 replace h:=nilq_elim h hn3
 refine fo (rn 1 rfl ?_)
 refine spC h rfl (fun hb4 h=>?_) (fun hb4 h=>?_)
 ·refine rn 4 rfl ?_
  exact rt h rfl
 refine rn 3 rfl ?_
 refine aops_emptySlice tEl84 wants_none rfl ?_
 refine fo (rn 1 rfl ?_)
 refine apL encTMethod h rfl rfl rfl (by simp) rfl (fun h=>?_)
 refine rn 2 rfl ?_
 refine awp_ghost (ghost_frzEs 1 [2,7] rfl (rows_imm imms_encTMethod) (List.forall_mem_cons.2 ⟨rfl,(List.forall_mem_cons.2 ⟨rfl,(fun _ hx=>nomatch hx)⟩)⟩) (List.length_map ..).symm) ?_
 refine fa ?_
 exact rt h rfl
theorem W28(F:Nat)(a1:TType)(r:TType)(h:M28 F a1=some r):Pure Tryz.prog 28 [(V.agg (encTType a1))] (V.agg (encTType r)):=by
 refine pin (fun r=>(V.agg (encTType r))) r rfl Tryz.func28 rfl rfl rfl rfl rfl (fun w0 m0 hg=>?_)
 unfold M28 at h
 refine rn 9 rfl ?_
 refine cl h rfl rfl rfl (W62 _ _) rfl (fun y2 hx3 h=>?_)
 refine rn 8 rfl ?_
 exact rt h rfl
theorem W27(F:Nat)(a1:TType)(r:(List UInt8))(h:M27 F a1=some r):Pure Tryz.prog 27 [(V.agg (encTType a1))] (sV r):=by
 refine pin (fun r=>(sV r)) r rfl Tryz.func27 rfl rfl rfl rfl rfl (fun w0 m0 hg=>?_)
 unfold M27 at h
 refine rn 11 rfl ?_
 exact rt h rfl
theorem W61(F:Nat)(a1:TType)(a2:TType)(r:Int)(h:M61 F a1 a2=some r):Pure Tryz.prog 61 [(V.agg (encTType a1)),(V.agg (encTType a2)),(V.iptr [(V.fn (.func 27) [] [])] 0)] (iV r):=by
 refine pin (fun r=>(iV r)) r rfl Tryz.func61 rfl rfl rfl rfl rfl (fun w0 m0 hg=>?_)
 unfold M61 at h
 obtain⟨y3,hx4,h⟩:=bind_some h
 obtain⟨y5,hx6,h⟩:=bind_some h
 obtain⟨y7,hx8,h⟩:=bind_some h
 refine rn 7 rfl ?_
 refine dr mixed (vs 2 rfl (cD rfl rfl rfl rfl (W27 _ _ _ hx4) rfl (vs 2 rfl (cD rfl rfl rfl rfl (W27 _ _ _ hx6) rfl (cD rfl rfl rfl rfl (W56 _ _ _ _ hx8) rfl (vs 1 rfl .nil)))))) (by kernel_rfl) ?_
 exact rt h rfl
theorem W60(F:Nat)(a1:List TType)(r:List TType)(h:M60 F a1=some r):Mut Tryz.prog 60 [(V.own 0 a1.length),(V.fn (.func 61) [] [(V.iptr [(V.fn (.func 27) [] [])] 0)])] 1 [(0,(Ob.arr 86 2 (a1.map encTType)))] (resV []) 1 [(0,(Ob.arr 86 2 (r.map encTType)))]:=by
 unfold M60 at h
 exact(mut_sortF (g:=61) encTType (fun _=>rfl) (fun x=>(imms_encTType _)) [(V.iptr [(V.fn (.func 27) [] [])] 0)] (.cons (Imm.iptr _ _) .nil) (fun x3 y4=>M61 F x3 y4) a1 r rfl h (fun x3 y4 c hc=>W61 F x3 y4 c hc)
  (fun encR h1 h2 cf h3 cb blk off cap d w h4 h5 h6 h7=>Go.Proofs.Tryz.slices_SortFunc_f60 2 Go.Proofs.Tryz.isAgg86 Go.Proofs.Tryz.sizeOf86 encR h1 h2 cf h3 61 cb blk off cap d w (Go.Proofs.enters_of Go.Proofs.Tryz.func61 (by kernel_rfl) rfl) h4 h5 h6 h7)
  (fun p cap fv w=>Go.Proofs.Tryz.slices_SortFunc_none_f60 (α:=Nat) p cap fv w)).heap hget_one
theorem W26(F:Nat)(a1:(List TType))(r:(List TType))(h:M26 F a1=some r):Pure Tryz.prog 26 [(V.lst 2 (a1.map encTType)),(V.fn (.func 27) [] []),(V.fn (.func 28) [] [])] (V.lst 2 (r.map encTType)):=by
 refine pin (fun r=>(V.lst 2 (r.map encTType))) r rfl Tryz.func26 rfl rfl rfl rfl rfl (fun w0 m0 hg=>?_)
 unfold M26 at h
 refine rn 13 rfl ?_
 refine ln rfl rfl ?_
 refine rn 2 rfl ?_
 refine jK h (fun(p:(List TType))=>(⟨[(4,(V.ptr 0 1 0 0)),(7,(V.own 1 p.length))],[(0,(Ob.arr 87 1 [[(V.fn (.func 27) [] [])]])),(1,(Ob.arr 86 2 (p.map encTType)))],2⟩:St)) (fun k2 p=>k2 p=some r) (fun k2 h=>?_) ?_
 ·refine rn 1 rfl ?_
  refine wl (A:=a1) 0 rfl (fun hA14=>?_)
  refine lC (fun(p:Int×(List TType))=>(⟨[(2,(V.fn (.func 28) [] [])),(4,(V.ptr 0 1 0 0)),(7,(V.own 1 (p.2).length)),(10,(V.lst 2 (a1.map encTType))),(11,(iV ((a1.length:Nat):Int))),(12,(iV (p.1)))],[(0,(Ob.arr 87 1 [[(V.fn (.func 27) [] [])]])),(1,(Ob.arr 86 2 ((p.2).map encTType)))],2⟩:St)) (fun n p=>RG a1 (fun tl nn=>M26_L1 F k2 tl p.2=some r) n p.1) (fun p h=>RG.zero h) (a1.length+1) (0,([]:List TType)) (RG.start h) (Ghost.trans (ghost_nilE 7 86 2 rfl) (ghost_ren 2 (fun i=>([0,1]:List Nat).getD i 0) _ _ (by decide) (EnvSub.get (.cons (Sub.imm (Imm.fn .nil .nil)) (.cons (Sub.ptr rfl rfl) (.cons (Sub.ownE rfl rfl (by simp)) (.cons (Sub.imm (Imm.lst _ _)) (.cons (Sub.imm (Imm.con _)) (.cons (Sub.imm (Imm.con _)) .nil))))))) (HpSub.get (.cons rfl (ObSub.box (.cons (Sub.imm (Imm.fn .nil .nil)) .nil)) (.cons rfl (ObSub.rows (rows_imm imms_encTType)) .nil))) rfl)) (fun n p h=>?_)
  obtain⟨n6,l7⟩:=p
  refine rn 5 rfl ?_
  refine spL rfl (fun hb8=>?_) (fun hb8=>?_)
  ·obtain⟨x9,tl,hx10,h,hk1⟩:=RG.t hA14 h hb8
   unfold M26_L1 at h
   refine rn 5 rfl ?_
   refine ixh hx10 rfl rfl ?_
   refine rn 8 rfl ?_
   refine cl h rfl rfl rfl (W28 _ _) rfl (fun y11 hx12 h=>?_)
   refine aops_buildSlice [(0,(V.agg (encTType y11)))] [(encTType y11)] tEl23 tZ86 rfl rfl rfl rfl wants_none (evp_cons rfl evp_nil) rfl rfl (by simp) rfl ?_
   refine fo ?_
   refine apO encTType h rfl rfl rfl rfl rfl rfl rfl rfl (fun h=>?_)
   refine rn 7 rfl ?_
   exact jX ((w64 (n6+1)),(l7++([y11]:List TType))) (hk1 _ h) (gr [0,4] rfl (hB rfl rfl rfl (hR rfl rfl .nil)) rfl)
  replace h:=RG.f h hb8
  unfold M26_L1 at h
  refine rn 1 rfl ?_
  exact jX l7 h (gr [0,1] rfl (hB rfl rfl rfl (hR rfl rfl .nil)) rfl)
 intro l3 h
 obtain⟨y15,hx16,h⟩:=bind_some h
 refine rn 4 rfl ?_
 refine ck h (fun hc17 h=>?_)
 refine aops_ghost (ghost_frzV 0 24 (V.fn (.func 61) [] [(V.iptr [(V.fn (.func 27) [] [])] 0)]) rfl (imms_rows (.cons (.cons (Imm.fn .nil .nil) .nil) .nil)) rfl (Sub.fnc (.cons (Sub.frzptr rfl) .nil))) ?_
 refine aops_mcallS (V.tup []) [(V.own 1 l3.length),(V.fn (.func 61) [] [(V.iptr [(V.fn (.func 27) [] [])] 0)])] (fun i=>([1]:List Nat).getD i 0) (fun i=>([1]:List Nat).getD i 0) 2 2 [(1,(Ob.arr 86 2 (y15.map encTType)))] fOk60 wants_none rfl (evm_cons rfl (evm_cons rfl evm_nil)) (.cons (Sub.own rfl rfl) (.cons (Sub.imm (Imm.fn .nil (.cons (Imm.iptr _ _) .nil))) .nil)) (.cons rfl (ObSub.rows (rows_imm imms_encTType)) .nil) (W60 F l3 y15 hx16) rfl rfl rfl rfl (Sub.immT (Imm.tup .nil)) (.cons rfl (ObSub.rowsT (rows_imm imms_encTType)) .nil) _ rfl ?_
 refine aops_ghost (ghost_tell 7 (V.own 1 y15.length) rfl (Sub.ownI hc17)) ?_
 refine aops_ghost (ghost_tell 23 (V.own 1 y15.length) rfl (Sub.ownI hc17)) ?_
 refine fo (rn 6 rfl ?_)
 refine awp_ghost (ghost_frzEs 1 [6,7,23,26] rfl (rows_imm imms_encTType) (List.forall_mem_cons.2 ⟨rfl,(List.forall_mem_cons.2 ⟨rfl,(List.forall_mem_cons.2 ⟨rfl,(List.forall_mem_cons.2 ⟨rfl,(fun _ hx=>nomatch hx)⟩)⟩)⟩)⟩) (List.length_map ..).symm) ?_
 refine fa ?_
 exact rt h rfl
theorem W6(F:Nat)(a1:TGraph)(a2:(List TSite))(r:(TGraph×Int))(h:M6 F a1 a2=some r):Pure Tryz.prog 6 [(V.agg (encTGraph a1)),(V.lst 2 (a2.map encTSite))] (V.tup [(V.agg (encTGraph (r.1))),(iV (r.2))]):=by
 refine pin (fun r=>(V.tup [(V.agg (encTGraph (r.1))),(iV (r.2))])) r rfl Tryz.func6 rfl rfl rfl rfl rfl (fun w0 m0 hg=>?_)
 unfold M6 at h
 refine rn 10 rfl ?_
 refine cl h rfl rfl rfl (W20 _ _) rfl (fun y3 hx4 h=>?_)
 refine rn 7 rfl ?_
 refine spC h rfl (fun hb5 h=>?_) (fun hb5 h=>?_)
 ·refine rn 7 rfl ?_
  exact rt h rfl
 obtain⟨y6,hx7,h⟩:=bind_some h
 refine rn 4 rfl ?_
 refine aops_call (optr encTreach_world y6) [(V.agg (encTGraph a1)),(iV 1),nV] fOk21 wants_none (evm_cons rfl (evm_cons rfl (evm_cons rfl evm_nil))) (.cons (Imm.agg (imms_encTGraph _)) (.cons (Imm.con _) (.cons (Imm.con _) .nil))) (pure_nilAt 2 rfl rfl (W21 F a1 1 ([]:List (List UInt8)) y6 hx7)) rfl ?_
 refine fo (rn 11 rfl ?_)
 refine ln rfl rfl ?_
 refine rn 2 rfl ?_
 refine jK h (fun(p:(List (TSite×Bool)))=>(⟨[(2,(V.ptr 0 4 0 0)),(4,(V.ptr 1 4 0 0)),(8,(V.map 2))],[(0,(Ob.arr 27 4 [(encTGraph a1)])),(1,(Ob.arr 27 4 [[nV,nV,nV,nV]])),(2,(Ob.map (p.map encM41_4)))],3⟩:St)) (fun k8 p=>k8 p=some r) (fun k8 h=>?_) ?_
 ·obtain⟨x10,hx11,h⟩:=bind_some h
  refine rn 1 rfl ?_
  refine opC 7 hx11 rfl ?_
  refine wl (A:=a2) 1 rfl (fun hA32=>?_)
  refine lC (fun(p:Int×(List (TSite×Bool)))=>(⟨[(1,(V.lst 2 (a2.map encTSite))),(2,(V.ptr 0 4 0 0)),(4,(V.ptr 1 4 0 0)),(7,(V.iptr (encTreach_world x10) 0)),(8,(V.map 2)),(28,(V.lst 2 (a2.map encTSite))),(29,(iV ((a2.length:Nat):Int))),(30,(iV (p.1)))],[(0,(Ob.arr 27 4 [(encTGraph a1)])),(1,(Ob.arr 27 4 [[nV,nV,nV,nV]])),(2,(Ob.map ((p.2).map encM41_4)))],3⟩:St)) (fun n p=>RG a2 (fun tl nn=>M6_L1 F a1 a2 x10 k8 tl nn p.2=some r) n p.1) (fun p h=>RG.zero h) (a2.length+1) (0,([]:List (TSite×Bool))) (RG.start h) (gr [0,1,2] rfl (hB rfl rfl rfl (hB rfl rfl rfl (hM rfl rfl .nil))) rfl) (fun n p h=>?_)
  obtain⟨n14,m15⟩:=p
  refine rn 5 rfl ?_
  refine spL rfl (fun hb16=>?_) (fun hb16=>?_)
  ·obtain⟨x17,tl,hx18,h,hk1⟩:=RG.t hA32 h hb16
   unfold M6_L1 at h
   refine rn 6 rfl ?_
   refine ixh hx18 rfl rfl ?_
   refine rn 6 rfl ?_
   refine dr mixed (vs 6 rfl (xD (OD.mk [(39,(V.imap (x10.funcs.map encM9_3))),(41,(sV x17.Func))] [] [(42,(V.tup [(iV ((mget x10.funcs x17.Func).getD 0)),(bV ((mget x10.funcs x17.Func).isSome))]))] []) ⟨⟨rfl,rfl,trivial⟩,trivial⟩ (by exact fun S hn h hh=>aops_lookup_okB _ (iV 0) (iV ((mget x10.funcs x17.Func).getD 0)) tMap61 tKey9 tZo3 (irel_con _) wants_none h.1 .imm (.con h.2.1) ⟨_,rfl⟩ encM9_3_good (encM9_3_look x10.funcs x17.Func) (getD_map (encM9_3_val) (mget x10.funcs x17.Func) 0) (isSome_map ..) rfl (aops_nil ⟨rfl,rfl⟩)) rfl (vs 5 rfl .nil))) (by kernel_rfl) ?_
   refine rn 8 rfl ?_
   refine jK h (fun(p:Bool)=>(⟨[(1,(V.lst 2 (a2.map encTSite))),(2,(V.ptr 0 4 0 0)),(4,(V.ptr 1 4 0 0)),(7,(V.iptr (encTreach_world x10) 0)),(8,(V.map 2)),(10,(V.ptr 3 2 0 0)),(28,(V.lst 2 (a2.map encTSite))),(29,(iV ((a2.length:Nat):Int))),(30,(iV n14)),(63,(bV p))],[(0,(Ob.arr 27 4 [(encTGraph a1)])),(1,(Ob.arr 27 4 [[nV,nV,nV,nV]])),(2,(Ob.map (m15.map encM41_4))),(3,(Ob.arr 41 2 [(encTSite x17)]))],4⟩:St)) (fun k19 p=>k19 p=some r) (fun k19 h=>?_) ?_
   ·refine spC h rfl (fun hb21 h=>?_) (fun hb21 h=>?_)
    ·refine rn 6 rfl ?_
     exact rt h rfl
    refine rn 1 rfl ?_
    refine bs h (fun hb22 h=>?_) (fun hb22 h=>?_)
    ·refine dr mixed (vs 3 rfl (vb hb22 rfl (vs 12 rfl .nil))) (by kernel_rfl) ?_
     refine rn 7 rfl ?_
     exact rt h rfl
    obtain⟨x23,hx24,h⟩:=bind_some h
    refine dr mixed (vs 3 rfl (vb hb22 rfl (vs 5 rfl (iD hx24 rfl rfl rfl (vs 2 rfl (nD rfl rfl rfl (vs 3 rfl .nil))))))) (by kernel_rfl) ?_
    refine spC h rfl (fun hb25 h=>?_) (fun hb25 h=>?_)
    ·refine rn 6 rfl ?_
     exact rt h rfl
    refine rn 1 rfl ?_
    refine bs h (fun hb26 h=>?_) (fun hb26 h=>?_)
    ·obtain⟨x27,hx28,h⟩:=bind_some h
     obtain⟨y29,hx30,h⟩:=bind_some h
     refine dr mixed (vs 2 rfl (vb hb26 rfl (vs 3 rfl (iD hx28 rfl rfl rfl (vs 2 rfl (cD rfl rfl rfl rfl (W22 _ _ _ _ hx30) rfl (vs 3 rfl .nil))))))) (by kernel_rfl) ?_
     refine spC h rfl (fun hb31 h=>?_) (fun hb31 h=>?_)
     ·refine rn 6 rfl ?_
      exact rt h rfl
     refine rn 1 rfl ?_
     exact jX (decide (x17.Call>=((x23.Calls.length:Nat):Int))) h (gr [0,1,2,3] rfl (hB rfl rfl rfl (hB rfl rfl rfl (hM rfl rfl (hB rfl rfl rfl .nil)))) rfl)
    refine dr mixed (vs 2 rfl (vb hb26 rfl (vs 10 rfl .nil))) (by kernel_rfl) ?_
    refine rn 2 rfl ?_
    exact jX (decide (x17.Call>=((x23.Calls.length:Nat):Int))) h (gr [0,1,2,3] rfl (hB rfl rfl rfl (hB rfl rfl rfl (hM rfl rfl (hB rfl rfl rfl .nil)))) rfl)
   intro b20 h
   refine rn 4 rfl ?_
   refine aops_mapUpdate (es:=m15.map encM41_4) ((mput m15 x17 true).map encM41_4) tMap75 tKey41 wants_none rfl rfl (.agg (cv41 x17) rfl) ⟨_,rfl⟩ encM41_4_good rfl (encM41_4_puts m15 x17 true) ?_
   refine fo (rn 6 rfl ?_)
   exact jX ((w64 (n14+1)),(mput m15 x17 true)) (hk1 _ h) (gr [0,1,2] rfl (hB rfl rfl rfl (hB rfl rfl rfl (hM rfl rfl .nil))) rfl)
  replace h:=RG.f h hb16
  unfold M6_L1 at h
  refine rn 1 rfl ?_
  exact jX m15 h (gr [0,1,2] rfl (hB rfl rfl rfl (hB rfl rfl rfl (hM rfl rfl .nil))) rfl)
 intro m9 h
 obtain⟨y33,hx34,h⟩:=bind_some h
 obtain⟨y35,hx36,h⟩:=bind_some h
 obtain⟨y37,hx38,h⟩:=bind_some h
 refine rn 1 rfl ?_
 refine awp_ghost ghost_res ?_
 refine fa ?_
 refine dr mixed (vs 2 rfl (cD rfl rfl rfl rfl (W23 _ _ _ hx34) rfl (vs 2 rfl (cD rfl rfl rfl rfl (W26 _ _ _ hx36) rfl (vs 2 rfl (cD rfl rfl rfl rfl (W29 _ _ _ hx38) rfl (vs 1 rfl (xD (OD.mk [] [(3,Ob.res)] [(13,(V.ptr 3 4 0 0))] [(3,(Ob.arr 27 4 [[nV,nV,nV,nV]]))]) ⟨trivial,⟨rfl,trivial⟩⟩ (by exact fun S hn h hh=>aops_alloc_at 3 rfl hn hh.1 tZ27 rfl rfl wants_none rfl (aops_nil ⟨rfl,rfl⟩)) rfl (vs 1 rfl .nil))))))))) (by kernel_rfl) ?_
 refine rn 5 rfl ?_
 refine ln rfl rfl ?_
 refine rn 2 rfl ?_
 refine jK h (fun(p:(List TFunc))=>(⟨[(4,(V.ptr 0 4 0 0)),(13,(V.ptr 1 4 0 0))],[(0,(Ob.arr 27 4 [[nV,nV,nV,nV]])),(1,(Ob.arr 27 4 [[(V.lst 2 (y33.map encTIface)),(V.lst 2 (y35.map encTType)),(V.own 2 p.length),(V.lst 1 (y37.map encS))]])),(2,(Ob.arr 52 4 (p.map encTFunc)))],3⟩:St)) (fun k39 p=>k39 p=some r) (fun k39 h=>?_) ?_
 ·refine rn 1 rfl ?_
  refine wl (A:=a1.Funcs) 94 rfl (fun hA67=>?_)
  refine lC (fun(p:Int×(List TFunc))=>(⟨[(4,(V.ptr 0 4 0 0)),(8,(V.map 1)),(13,(V.ptr 2 4 0 0)),(94,(V.lst 4 (a1.Funcs.map encTFunc))),(95,(iV ((a1.Funcs.length:Nat):Int))),(96,(iV (p.1)))],[(0,(Ob.arr 27 4 [[nV,nV,nV,nV]])),(1,(Ob.map (m9.map encM41_4))),(2,(Ob.arr 27 4 [[(V.lst 2 (y33.map encTIface)),(V.lst 2 (y35.map encTType)),(V.own 3 (p.2).length),(V.lst 1 (y37.map encS))]])),(3,(Ob.arr 52 4 ((p.2).map encTFunc)))],4⟩:St)) (fun n p=>RG a1.Funcs (fun tl nn=>M6_L2 F m9 k39 tl p.2=some r) n p.1) (fun p h=>RG.zero h) (a1.Funcs.length+1) (0,([]:List TFunc)) (RG.start h) (Ghost.trans (ghost_nilC 3 52 4 (Ob.arr 27 4 [[(V.lst 2 (y33.map encTIface)),(V.lst 2 (y35.map encTType)),(V.own 4 0),(V.lst 1 (y37.map encS))]]) (ObSub.box (.cons Sub.keepNil (.cons Sub.keepNil (.cons Sub.mkNil (.cons Sub.keepNil .nil)))))) (ghost_ren 4 (fun i=>([1,2,3,4]:List Nat).getD i 0) _ _ (by decide) (EnvSub.get (.cons (Sub.ptr rfl rfl) (.cons (Sub.map rfl rfl) (.cons (Sub.ptr rfl rfl) (.cons (Sub.imm (Imm.lst _ _)) (.cons (Sub.imm (Imm.con _)) (.cons (Sub.imm (Imm.con _)) .nil))))))) (HpSub.get (.cons rfl (ObSub.box (.cons (Sub.imm (Imm.con _)) (.cons (Sub.imm (Imm.con _)) (.cons (Sub.imm (Imm.con _)) (.cons (Sub.imm (Imm.con _)) .nil))))) (.cons rfl (ObSub.maps encM41_4_imm) (.cons rfl (ObSub.box (.cons (Sub.imm (Imm.lst _ _)) (.cons (Sub.imm (Imm.lst _ _)) (.cons (Sub.ownE rfl rfl (by simp)) (.cons (Sub.imm (Imm.lst _ _)) .nil))))) (.cons rfl (ObSub.rows (rows_imm imms_encTFunc)) .nil))))) rfl)) (fun n p h=>?_)
  obtain⟨n43,l44⟩:=p
  refine rn 5 rfl ?_
  refine spL rfl (fun hb45=>?_) (fun hb45=>?_)
  ·obtain⟨x48,tl,hx49,h,hk2⟩:=RG.t hA67 h hb45
   unfold M6_L2 at h
   refine rn 2 rfl ?_
   refine jK h (fun(p:(List TFunc))=>(⟨[(4,(V.ptr 0 4 0 0)),(8,(V.map 1)),(13,(V.ptr 2 4 0 0)),(94,(V.lst 4 (a1.Funcs.map encTFunc))),(95,(iV ((a1.Funcs.length:Nat):Int))),(96,(iV n43))],[(0,(Ob.arr 27 4 [[nV,nV,nV,nV]])),(1,(Ob.map (m9.map encM41_4))),(2,(Ob.arr 27 4 [[(V.lst 2 (y33.map encTIface)),(V.lst 2 (y35.map encTType)),(V.own 3 p.length),(V.lst 1 (y37.map encS))]])),(3,(Ob.arr 52 4 (p.map encTFunc)))],4⟩:St)) (fun k46 p=>k46 p=some r) (fun k46 h=>?_) ?_
   ·refine rn 3 rfl ?_
    refine ixh hx49 rfl rfl ?_
    refine rn 8 rfl ?_
    refine cl h rfl rfl rfl (W29 _ _) rfl (fun y50 hx51 h=>?_)
    refine rn 12 rfl ?_
    refine ln rfl rfl ?_
    refine rn 2 rfl ?_
    refine jK h (fun(p:(List TCall))=>(⟨[(4,(V.ptr 0 4 0 0)),(8,(V.map 1)),(13,(V.ptr 2 4 0 0)),(15,(V.ptr 3 4 0 0)),(16,(V.own 4 p.length)),(94,(V.lst 4 (a1.Funcs.map encTFunc))),(95,(iV ((a1.Funcs.length:Nat):Int))),(96,(iV n43))],[(0,(Ob.arr 27 4 [[nV,nV,nV,nV]])),(1,(Ob.map (m9.map encM41_4))),(2,(Ob.arr 27 4 [[(V.lst 2 (y33.map encTIface)),(V.lst 2 (y35.map encTType)),(V.own 5 l44.length),(V.lst 1 (y37.map encS))]])),(3,(Ob.arr 52 4 [[(sV x48.Name),(sV x48.Component),(V.lst 4 (x48.Calls.map encTCall)),(V.lst 1 (y50.map encS))]])),(4,(Ob.arr 54 4 (p.map encTCall))),(5,(Ob.arr 52 4 (l44.map encTFunc)))],6⟩:St)) (fun k52 p=>k52 p=some r) (fun k52 h=>?_) ?_
    ·refine rn 1 rfl ?_
     refine wl (A:=x48.Calls) 105 rfl (fun hA65=>?_)
     refine lC (fun(p:Int×(List TCall))=>(⟨[(4,(V.ptr 0 4 0 0)),(8,(V.map 1)),(13,(V.ptr 2 4 0 0)),(15,(V.ptr 3 4 0 0)),(16,(V.own 4 (p.2).length)),(94,(V.lst 4 (a1.Funcs.map encTFunc))),(95,(iV ((a1.Funcs.length:Nat):Int))),(96,(iV n43)),(105,(V.lst 4 (x48.Calls.map encTCall))),(106,(iV ((x48.Calls.length:Nat):Int))),(107,(iV (p.1)))],[(0,(Ob.arr 27 4 [[nV,nV,nV,nV]])),(1,(Ob.map (m9.map encM41_4))),(2,(Ob.arr 27 4 [[(V.lst 2 (y33.map encTIface)),(V.lst 2 (y35.map encTType)),(V.own 5 l44.length),(V.lst 1 (y37.map encS))]])),(3,(Ob.arr 52 4 [[(sV x48.Name),(sV x48.Component),(V.lst 4 (x48.Calls.map encTCall)),(V.lst 1 (y50.map encS))]])),(4,(Ob.arr 54 4 ((p.2).map encTCall))),(5,(Ob.arr 52 4 (l44.map encTFunc)))],6⟩:St)) (fun n p=>RG x48.Calls (fun tl nn=>M6_L3 F m9 x48 k52 tl nn p.2=some r) n p.1) (fun p h=>RG.zero h) (x48.Calls.length+1) (0,([]:List TCall)) (RG.start h) (Ghost.trans (ghost_nilE 16 54 4 rfl) (ghost_ren 6 (fun i=>([0,1,2,4,5,3]:List Nat).getD i 0) _ _ (by decide) (EnvSub.get (.cons (Sub.ptr rfl rfl) (.cons (Sub.map rfl rfl) (.cons (Sub.ptr rfl rfl) (.cons (Sub.ptr rfl rfl) (.cons (Sub.ownE rfl rfl (by simp)) (.cons (Sub.imm (Imm.lst _ _)) (.cons (Sub.imm (Imm.con _)) (.cons (Sub.imm (Imm.con _)) (.cons (Sub.imm (Imm.lst _ _)) (.cons (Sub.imm (Imm.con _)) (.cons (Sub.imm (Imm.con _)) .nil)))))))))))) (HpSub.get (.cons rfl (ObSub.box (.cons (Sub.imm (Imm.con _)) (.cons (Sub.imm (Imm.con _)) (.cons (Sub.imm (Imm.con _)) (.cons (Sub.imm (Imm.con _)) .nil))))) (.cons rfl (ObSub.maps encM41_4_imm) (.cons rfl (ObSub.box (.cons (Sub.imm (Imm.lst _ _)) (.cons (Sub.imm (Imm.lst _ _)) (.cons (Sub.own rfl rfl) (.cons (Sub.imm (Imm.lst _ _)) .nil))))) (.cons rfl (ObSub.box (.cons (Sub.imm (Imm.con _)) (.cons (Sub.imm (Imm.con _)) (.cons (Sub.imm (Imm.lst _ _)) (.cons (Sub.imm (Imm.lst _ _)) .nil))))) (.cons rfl (ObSub.rows (rows_imm imms_encTCall)) (.cons rfl (ObSub.rows (rows_imm imms_encTFunc)) .nil))))))) rfl)) (fun n p h=>?_)
     obtain⟨n56,l57⟩:=p
     refine rn 5 rfl ?_
     refine spL rfl (fun hb58=>?_) (fun hb58=>?_)
     ·obtain⟨x59,tl,hx60,h,hk3⟩:=RG.t hA65 h hb58
      unfold M6_L3 at h
      refine rn 6 rfl ?_
      refine ixh hx60 rfl rfl ?_
      refine rn 12 rfl ?_
      refine aops_lookup _ (bV false) (bV ((mget m9 (TSite.mk x48.Name n56)).getD false)) tMap75 tKey41 tZo4 (irel_con _) wants_none rfl (.own rfl) (.agg (cv41 (TSite.mk x48.Name n56)) rfl) ⟨_,rfl⟩ encM41_4_good (encM41_4_look m9 (TSite.mk x48.Name n56)) (getD_map (encM41_4_val) (mget m9 (TSite.mk x48.Name n56)) false) rfl ?_
      refine fo (rn 2 rfl ?_)
      refine jK h (fun(p:(List TCall))=>(⟨[(4,(V.ptr 0 4 0 0)),(8,(V.map 1)),(13,(V.ptr 2 4 0 0)),(15,(V.ptr 3 4 0 0)),(16,(V.own 4 p.length)),(94,(V.lst 4 (a1.Funcs.map encTFunc))),(95,(iV ((a1.Funcs.length:Nat):Int))),(96,(iV n43)),(105,(V.lst 4 (x48.Calls.map encTCall))),(106,(iV ((x48.Calls.length:Nat):Int))),(107,(iV n56))],[(0,(Ob.arr 27 4 [[nV,nV,nV,nV]])),(1,(Ob.map (m9.map encM41_4))),(2,(Ob.arr 27 4 [[(V.lst 2 (y33.map encTIface)),(V.lst 2 (y35.map encTType)),(V.own 5 l44.length),(V.lst 1 (y37.map encS))]])),(3,(Ob.arr 52 4 [[(sV x48.Name),(sV x48.Component),(V.lst 4 (x48.Calls.map encTCall)),(V.lst 1 (y50.map encS))]])),(4,(Ob.arr 54 4 (p.map encTCall))),(5,(Ob.arr 52 4 (l44.map encTFunc)))],6⟩:St)) (fun k61 p=>k61 p=some r) (fun k61 h=>?_) ?_
      ·refine spC h rfl (fun hb63 h=>?_) (fun hb63 h=>?_)
       ·refine rn 3 rfl ?_
        refine aops_buildSlice [(0,(V.agg (encTCall x59)))] [(encTCall x59)] tEl50 tZ54 rfl rfl rfl rfl wants_none (evp_cons rfl evp_nil) rfl rfl (by simp) rfl ?_
        refine fo ?_
        refine apO encTCall h rfl rfl rfl rfl rfl rfl rfl rfl (fun h=>?_)
        refine rn 2 rfl ?_
        exact jX (l57++([x59]:List TCall)) h (gr [0,1,2,3,8,5] rfl (hB rfl rfl rfl (hM rfl rfl (hB rfl rfl rfl (hB rfl rfl rfl (hR rfl rfl (hR rfl rfl .nil)))))) rfl)
       refine rn 1 rfl ?_
       exact jX l57 h (gr [0,1,2,3,4,5] rfl (hB rfl rfl rfl (hM rfl rfl (hB rfl rfl rfl (hB rfl rfl rfl (hR rfl rfl (hR rfl rfl .nil)))))) rfl)
      intro l62 h
      refine rn 5 rfl ?_
      exact jX ((w64 (n56+1)),l62) (hk3 _ h) (gr [0,1,2,3,4,5] rfl (hB rfl rfl rfl (hM rfl rfl (hB rfl rfl rfl (hB rfl rfl rfl (hR rfl rfl (hR rfl rfl .nil)))))) rfl)
     replace h:=RG.f h hb58
     unfold M6_L3 at h
     refine rn 1 rfl ?_
     exact jX l57 h (gr [0,1,2,3,4,5] rfl (hB rfl rfl rfl (hM rfl rfl (hB rfl rfl rfl (hB rfl rfl rfl (hR rfl rfl (hR rfl rfl .nil)))))) rfl)
    intro l53 h
    refine rn 10 rfl ?_
    refine aops_ghost (ghost_frzV 4 128 (V.agg [(sV x48.Name),(sV x48.Component),(V.lst 4 (l53.map encTCall)),(V.lst 1 (y50.map encS))]) rfl (rows_imm imms_encTCall) rfl (Sub.agg (.cons Sub.keep (.cons Sub.keep (.cons (Sub.frzAll (rows:=l53.map encTCall) (List.length_map ..).symm) (.cons Sub.keep .nil)))))) ?_
    refine aops_buildSlice [(0,(V.agg [(sV x48.Name),(sV x48.Component),(V.lst 4 (l53.map encTCall)),(V.lst 1 (y50.map encS))]))] [[(sV x48.Name),(sV x48.Component),(V.lst 4 (l53.map encTCall)),(V.lst 1 (y50.map encS))]] tEl24 tZ52 rfl rfl rfl rfl wants_none (evp_cons rfl evp_nil) rfl rfl (by simp) rfl ?_
    refine fo ?_
    refine apO encTFunc h rfl rfl rfl rfl rfl rfl rfl rfl (fun h=>?_)
    refine rn 4 rfl ?_
    exact jX (l44++([(TFunc.mk x48.Name x48.Component l53 y50)]:List TFunc)) h (gr [0,1,2,7] rfl (hB rfl rfl rfl (hM rfl rfl (hB rfl rfl rfl (hR rfl rfl .nil)))) rfl)
   intro l47 h
   refine rn 4 rfl ?_
   exact jX ((w64 (n43+1)),l47) (hk2 _ h) (gr [0,1,2,3] rfl (hB rfl rfl rfl (hM rfl rfl (hB rfl rfl rfl (hR rfl rfl .nil)))) rfl)
  replace h:=RG.f h hb45
  unfold M6_L2 at h
  refine rn 1 rfl ?_
  exact jX l44 h (gr [0,2,3] rfl (hB rfl rfl rfl (hB rfl rfl rfl (hR rfl rfl .nil))) rfl)
 intro l40 h
 refine rn 6 rfl ?_
 refine awp_ghost (ghost_frzC 2 0 (Ob.arr 27 4 [[(V.lst 2 (y33.map encTIface)),(V.lst 2 (y35.map encTType)),(V.lst 4 (l40.map encTFunc)),(V.lst 1 (y37.map encS))]]) rfl (rows_imm imms_encTFunc) (ObSub.box (.cons Sub.keep (.cons Sub.keep (.cons (Sub.frzAll (rows:=l40.map encTFunc) (List.length_map ..).symm) (.cons Sub.keep .nil)))))) ?_
 refine fa ?_
 exact rt h rfl
theorem W63(F:Nat)(a1:TGraph)(r:Tprovenderref6_names)(h:M63 F a1=some r):Pure Tryz.prog 63 [(V.agg (encTGraph a1))] (V.agg (encTprovenderref6_names r)):=by
 refine pin (fun r=>(V.agg (encTprovenderref6_names r))) r rfl Tryz.func63 rfl rfl rfl rfl rfl (fun w0 m0 hg=>?_)
 unfold M63 at h
 refine rn 19 rfl ?_
 refine ln rfl rfl ?_
 refine rn 2 rfl ?_
 refine jK h (fun(p:(List ((List UInt8)×(List ((List UInt8)×Bool)))))=>(⟨[(1,(V.ptr 0 4 0 0)),(2,(V.ptr 1 3 0 0)),(3,(V.ptr 2 3 0 0))],[(0,(Ob.arr 27 4 [(encTGraph a1)])),(1,(Ob.arr 147 3 [[(V.con (.map none)),(V.con (.map none)),(V.con (.map none))]])),(2,(Ob.arr 147 3 [[(V.map 3),(V.map 4),(V.map 5)]])),(3,(Ob.map (p.map encM9_250))),(4,(Ob.map (([]:List ((List UInt8)×Bool)).map encM9_4))),(5,(Ob.map (([]:List ((List UInt8)×Bool)).map encM9_4)))],6⟩:St)) (fun k2 p=>k2 p=some r) (fun k2 h=>?_) ?_
 ·refine rn 1 rfl ?_
  refine wl (A:=a1.Ifaces) 17 rfl (fun hA24=>?_)
  refine lC (fun(p:Int×(List ((List UInt8)×(List ((List UInt8)×Bool)))))=>(⟨[(1,(V.ptr 0 4 0 0)),(2,(V.ptr 1 3 0 0)),(3,(V.ptr 2 3 0 0)),(17,(V.lst 2 (a1.Ifaces.map encTIface))),(18,(iV ((a1.Ifaces.length:Nat):Int))),(19,(iV (p.1)))],[(0,(Ob.arr 27 4 [(encTGraph a1)])),(1,(Ob.arr 147 3 [[(V.con (.map none)),(V.con (.map none)),(V.con (.map none))]])),(2,(Ob.arr 147 3 [[(V.map 3),(V.map 4),(V.map 5)]])),(3,(Ob.map ((p.2).map encM9_250))),(4,(Ob.map (([]:List ((List UInt8)×Bool)).map encM9_4))),(5,(Ob.map (([]:List ((List UInt8)×Bool)).map encM9_4)))],6⟩:St)) (fun n p=>RG a1.Ifaces (fun tl nn=>M63_L1 F k2 tl p.2=some r) n p.1) (fun p h=>RG.zero h) (a1.Ifaces.length+1) (0,([]:List ((List UInt8)×(List ((List UInt8)×Bool))))) (RG.start h) (gr [0,1,5,2,3,4] rfl (hB rfl rfl rfl (hB rfl rfl rfl (hB rfl rfl rfl (hM rfl rfl (hM rfl rfl (hM rfl rfl .nil)))))) rfl) (fun n p h=>?_)
  obtain⟨n6,m7⟩:=p
  refine rn 5 rfl ?_
  refine spL rfl (fun hb8=>?_) (fun hb8=>?_)
  ·obtain⟨x11,tl,hx12,h,hk1⟩:=RG.t hA24 h hb8
   unfold M63_L1 at h
   refine rn 2 rfl ?_
   refine jK h (fun(p:(List ((List UInt8)×(List ((List UInt8)×Bool)))))=>(⟨[(1,(V.ptr 0 4 0 0)),(2,(V.ptr 1 3 0 0)),(3,(V.ptr 2 3 0 0)),(17,(V.lst 2 (a1.Ifaces.map encTIface))),(18,(iV ((a1.Ifaces.length:Nat):Int))),(19,(iV n6))],[(0,(Ob.arr 27 4 [(encTGraph a1)])),(1,(Ob.arr 147 3 [[(V.con (.map none)),(V.con (.map none)),(V.con (.map none))]])),(2,(Ob.arr 147 3 [[(V.map 3),(V.map 4),(V.map 5)]])),(3,(Ob.map (p.map encM9_250))),(4,(Ob.map (([]:List ((List UInt8)×Bool)).map encM9_4))),(5,(Ob.map (([]:List ((List UInt8)×Bool)).map encM9_4)))],6⟩:St)) (fun k9 p=>k9 p=some r) (fun k9 h=>?_) ?_
   ·refine rn 3 rfl ?_
    refine ixh hx12 rfl rfl ?_
    refine rn 11 rfl ?_
    refine aops_mapUpdate_deepG (id2:=7) (o:=(V.map 7)) (dv:=(.dmp (([]:List ((List UInt8)×Bool)).map encM9_4))) (ob:=(.map (([]:List ((List UInt8)×Bool)).map encM9_4))) ((mput m7 x11.Name ([]:List ((List UInt8)×Bool))).map encM9_250) tMap145 tKey9 wants_none rfl rfl (.con rfl) ⟨_,rfl⟩ encM9_250_good rfl (by simp[ovl]) rfl rfl (okeep_ents encM9_4_im ([]:List ((List UInt8)×Bool))) (puts_new encM9_250 (fun k=>str k) encM9_4 (fun _=>rfl) inj_str x11.Name ([]:List ((List UInt8)×Bool)) m7) ?_
    refine fo (rn 5 rfl ?_)
    refine ln rfl rfl ?_
    refine rn 2 rfl ?_
    refine jK h (fun(p:(List ((List UInt8)×(List ((List UInt8)×Bool)))))=>(⟨[(1,(V.ptr 0 4 0 0)),(2,(V.ptr 1 3 0 0)),(3,(V.ptr 2 3 0 0)),(17,(V.lst 2 (a1.Ifaces.map encTIface))),(18,(iV ((a1.Ifaces.length:Nat):Int))),(19,(iV n6))],[(0,(Ob.arr 27 4 [(encTGraph a1)])),(1,(Ob.arr 147 3 [[(V.con (.map none)),(V.con (.map none)),(V.con (.map none))]])),(2,(Ob.arr 147 3 [[(V.map 3),(V.map 4),(V.map 5)]])),(3,(Ob.map (p.map encM9_250))),(4,(Ob.map (([]:List ((List UInt8)×Bool)).map encM9_4))),(5,(Ob.map (([]:List ((List UInt8)×Bool)).map encM9_4)))],6⟩:St)) (fun k13 p=>k13 p=some r) (fun k13 h=>?_) ?_
    ·refine rn 1 rfl ?_
     refine wl (A:=x11.Methods) 29 rfl (fun hA23=>?_)
     refine lC (fun(p:Int×(List ((List UInt8)×(List ((List UInt8)×Bool)))))=>(⟨[(1,(V.ptr 0 4 0 0)),(2,(V.ptr 1 3 0 0)),(3,(V.ptr 2 3 0 0)),(5,(V.ptr 3 2 0 0)),(17,(V.lst 2 (a1.Ifaces.map encTIface))),(18,(iV ((a1.Ifaces.length:Nat):Int))),(19,(iV n6)),(29,(V.lst 1 (x11.Methods.map encS))),(30,(iV ((x11.Methods.length:Nat):Int))),(31,(iV (p.1)))],[(0,(Ob.arr 27 4 [(encTGraph a1)])),(1,(Ob.arr 147 3 [[(V.con (.map none)),(V.con (.map none)),(V.con (.map none))]])),(2,(Ob.arr 147 3 [[(V.map 4),(V.map 5),(V.map 6)]])),(3,(Ob.arr 80 2 [(encTIface x11)])),(4,(Ob.map ((p.2).map encM9_250))),(5,(Ob.map (([]:List ((List UInt8)×Bool)).map encM9_4))),(6,(Ob.map (([]:List ((List UInt8)×Bool)).map encM9_4)))],7⟩:St)) (fun n p=>RG x11.Methods (fun tl nn=>M63_L2 F x11 k13 tl p.2=some r) n p.1) (fun p h=>RG.zero h) (x11.Methods.length+1) (0,(mput m7 x11.Name ([]:List ((List UInt8)×Bool)))) (RG.start h) (gr [0,1,2,6,3,4,5] rfl (hB rfl rfl rfl (hB rfl rfl rfl (hB rfl rfl rfl (hB rfl rfl rfl (hM rfl rfl (hM rfl rfl (hM rfl rfl .nil))))))) rfl) (fun n p h=>?_)
     obtain⟨n17,m18⟩:=p
     refine rn 5 rfl ?_
     refine spL rfl (fun hb19=>?_) (fun hb19=>?_)
     ·obtain⟨x20,tl,hx21,h,hk2⟩:=RG.t hA23 h hb19
      unfold M63_L2 at h
      refine rn 5 rfl ?_
      refine ixh hx21 rfl rfl ?_
      refine rn 8 rfl ?_
      refine ck h (fun hc22 h=>?_)
      refine aops_lookup_tkP tMap145 tKey9 wants_none rfl rfl (.con rfl) ⟨_,rfl⟩ encM9_250_good (lookD_enc encM9_250 (fun k=>str k) encM9_4 7 (fun _=>rfl) inj_str x11.Name m18 hc22) rfl rfl ?_
      refine fo (rn 1 rfl ?_)
      refine aops_mapUpdate (es:=((mget m18 x11.Name).getD []).map encM9_4) ((mput ((mget m18 x11.Name).getD []) x20 true).map encM9_4) tMap63 tKey9 wants_none rfl rfl (.con rfl) ⟨_,rfl⟩ encM9_4_good rfl (encM9_4_puts ((mget m18 x11.Name).getD []) x20 true) ?_
      refine aops_ghost (ghost_putN 4 7 encM9_250 (fun k=>str k) encM9_4 (fun _=>rfl) hc22 rfl rfl rfl encM9_4_im) ?_
      refine fo (rn 6 rfl ?_)
      exact jX ((w64 (n17+1)),(mput m18 x11.Name (mput ((mget m18 x11.Name).getD []) x20 true))) (hk2 _ h) (gr [0,1,2,3,4,5,6] rfl (hB rfl rfl rfl (hB rfl rfl rfl (hB rfl rfl rfl (hB rfl rfl rfl (hM rfl rfl (hM rfl rfl (hM rfl rfl .nil))))))) rfl)
     replace h:=RG.f h hb19
     unfold M63_L2 at h
     refine rn 1 rfl ?_
     exact jX m18 h (gr [0,1,2,4,5,6] rfl (hB rfl rfl rfl (hB rfl rfl rfl (hB rfl rfl rfl (hM rfl rfl (hM rfl rfl (hM rfl rfl .nil)))))) rfl)
    intro m14 h
    refine rn 1 rfl ?_
    exact jX m14 h (gr [0,1,2,3,4,5] rfl (hB rfl rfl rfl (hB rfl rfl rfl (hB rfl rfl rfl (hM rfl rfl (hM rfl rfl (hM rfl rfl .nil)))))) rfl)
   intro m10 h
   refine rn 4 rfl ?_
   exact jX ((w64 (n6+1)),m10) (hk1 _ h) (gr [0,1,2,3,4,5] rfl (hB rfl rfl rfl (hB rfl rfl rfl (hB rfl rfl rfl (hM rfl rfl (hM rfl rfl (hM rfl rfl .nil)))))) rfl)
  replace h:=RG.f h hb8
  unfold M63_L1 at h
  refine rn 1 rfl ?_
  exact jX m7 h (gr [0,1,2,3,4,5] rfl (hB rfl rfl rfl (hB rfl rfl rfl (hB rfl rfl rfl (hM rfl rfl (hM rfl rfl (hM rfl rfl .nil)))))) rfl)
 intro m3 h
 refine rn 5 rfl ?_
 refine ln rfl rfl ?_
 refine rn 2 rfl ?_
 refine jK h (fun(p:(List ((List UInt8)×Bool)))=>(⟨[(1,(V.ptr 0 4 0 0)),(2,(V.ptr 1 3 0 0)),(3,(V.ptr 2 3 0 0))],[(0,(Ob.arr 27 4 [(encTGraph a1)])),(1,(Ob.arr 147 3 [[(V.con (.map none)),(V.con (.map none)),(V.con (.map none))]])),(2,(Ob.arr 147 3 [[(V.map 3),(V.map 4),(V.map 5)]])),(3,(Ob.map (m3.map encM9_250))),(4,(Ob.map (p.map encM9_4))),(5,(Ob.map (([]:List ((List UInt8)×Bool)).map encM9_4)))],6⟩:St)) (fun k25 p=>k25 p=some r) (fun k25 h=>?_) ?_
 ·refine rn 1 rfl ?_
  refine wl (A:=a1.Types) 44 rfl (fun hA34=>?_)
  refine lC (fun(p:Int×(List ((List UInt8)×Bool)))=>(⟨[(1,(V.ptr 0 4 0 0)),(2,(V.ptr 1 3 0 0)),(3,(V.ptr 2 3 0 0)),(44,(V.lst 2 (a1.Types.map encTType))),(45,(iV ((a1.Types.length:Nat):Int))),(46,(iV (p.1)))],[(0,(Ob.arr 27 4 [(encTGraph a1)])),(1,(Ob.arr 147 3 [[(V.con (.map none)),(V.con (.map none)),(V.con (.map none))]])),(2,(Ob.arr 147 3 [[(V.map 3),(V.map 4),(V.map 5)]])),(3,(Ob.map (m3.map encM9_250))),(4,(Ob.map ((p.2).map encM9_4))),(5,(Ob.map (([]:List ((List UInt8)×Bool)).map encM9_4)))],6⟩:St)) (fun n p=>RG a1.Types (fun tl nn=>M63_L3 F k25 tl p.2=some r) n p.1) (fun p h=>RG.zero h) (a1.Types.length+1) (0,([]:List ((List UInt8)×Bool))) (RG.start h) (gr [0,1,2,3,4,5] rfl (hB rfl rfl rfl (hB rfl rfl rfl (hB rfl rfl rfl (hM rfl rfl (hM rfl rfl (hM rfl rfl .nil)))))) rfl) (fun n p h=>?_)
  obtain⟨n29,m30⟩:=p
  refine rn 5 rfl ?_
  refine spL rfl (fun hb31=>?_) (fun hb31=>?_)
  ·obtain⟨x32,tl,hx33,h,hk3⟩:=RG.t hA34 h hb31
   unfold M63_L3 at h
   refine rn 5 rfl ?_
   refine ixh hx33 rfl rfl ?_
   refine rn 9 rfl ?_
   refine aops_mapUpdate (es:=m30.map encM9_4) ((mput m30 x32.Name true).map encM9_4) tMap63 tKey9 wants_none rfl rfl (.con rfl) ⟨_,rfl⟩ encM9_4_good rfl (encM9_4_puts m30 x32.Name true) ?_
   refine fo (rn 6 rfl ?_)
   exact jX ((w64 (n29+1)),(mput m30 x32.Name true)) (hk3 _ h) (gr [0,1,2,3,4,5] rfl (hB rfl rfl rfl (hB rfl rfl rfl (hB rfl rfl rfl (hM rfl rfl (hM rfl rfl (hM rfl rfl .nil)))))) rfl)
  replace h:=RG.f h hb31
  unfold M63_L3 at h
  refine rn 1 rfl ?_
  exact jX m30 h (gr [0,1,2,3,4,5] rfl (hB rfl rfl rfl (hB rfl rfl rfl (hB rfl rfl rfl (hM rfl rfl (hM rfl rfl (hM rfl rfl .nil)))))) rfl)
 intro m26 h
 refine rn 5 rfl ?_
 refine ln rfl rfl ?_
 refine rn 2 rfl ?_
 refine jK h (fun(p:(List ((List UInt8)×Bool)))=>(⟨[(2,(V.ptr 0 3 0 0)),(3,(V.ptr 1 3 0 0))],[(0,(Ob.arr 147 3 [[(V.con (.map none)),(V.con (.map none)),(V.con (.map none))]])),(1,(Ob.arr 147 3 [[(V.map 2),(V.map 3),(V.map 4)]])),(2,(Ob.map (m3.map encM9_250))),(3,(Ob.map (m26.map encM9_4))),(4,(Ob.map (p.map encM9_4)))],5⟩:St)) (fun k35 p=>k35 p=some r) (fun k35 h=>?_) ?_
 ·refine rn 1 rfl ?_
  refine wl (A:=a1.Funcs) 56 rfl (fun hA44=>?_)
  refine lC (fun(p:Int×(List ((List UInt8)×Bool)))=>(⟨[(2,(V.ptr 0 3 0 0)),(3,(V.ptr 1 3 0 0)),(56,(V.lst 4 (a1.Funcs.map encTFunc))),(57,(iV ((a1.Funcs.length:Nat):Int))),(58,(iV (p.1)))],[(0,(Ob.arr 147 3 [[(V.con (.map none)),(V.con (.map none)),(V.con (.map none))]])),(1,(Ob.arr 147 3 [[(V.map 2),(V.map 3),(V.map 4)]])),(2,(Ob.map (m3.map encM9_250))),(3,(Ob.map (m26.map encM9_4))),(4,(Ob.map ((p.2).map encM9_4)))],5⟩:St)) (fun n p=>RG a1.Funcs (fun tl nn=>M63_L4 F k35 tl p.2=some r) n p.1) (fun p h=>RG.zero h) (a1.Funcs.length+1) (0,([]:List ((List UInt8)×Bool))) (RG.start h) (gr [1,2,3,4,5] rfl (hB rfl rfl rfl (hB rfl rfl rfl (hM rfl rfl (hM rfl rfl (hM rfl rfl .nil))))) rfl) (fun n p h=>?_)
  obtain⟨n39,m40⟩:=p
  refine rn 5 rfl ?_
  refine spL rfl (fun hb41=>?_) (fun hb41=>?_)
  ·obtain⟨x42,tl,hx43,h,hk4⟩:=RG.t hA44 h hb41
   unfold M63_L4 at h
   refine rn 5 rfl ?_
   refine ixh hx43 rfl rfl ?_
   refine rn 9 rfl ?_
   refine aops_mapUpdate (es:=m40.map encM9_4) ((mput m40 x42.Name true).map encM9_4) tMap63 tKey9 wants_none rfl rfl (.con rfl) ⟨_,rfl⟩ encM9_4_good rfl (encM9_4_puts m40 x42.Name true) ?_
   refine fo (rn 6 rfl ?_)
   exact jX ((w64 (n39+1)),(mput m40 x42.Name true)) (hk4 _ h) (gr [0,1,2,3,4] rfl (hB rfl rfl rfl (hB rfl rfl rfl (hM rfl rfl (hM rfl rfl (hM rfl rfl .nil))))) rfl)
  replace h:=RG.f h hb41
  unfold M63_L4 at h
  refine rn 1 rfl ?_
  exact jX m40 h (gr [0,1,2,3,4] rfl (hB rfl rfl rfl (hB rfl rfl rfl (hM rfl rfl (hM rfl rfl (hM rfl rfl .nil))))) rfl)
 intro m36 h
 refine rn 5 rfl ?_
 refine awp_ghost (ghost_frzDMC 2 0 (m3.map encM9_63) (Ob.arr 147 3 [[(V.imap (m3.map encM9_63)),(V.map 3),(V.map 4)]]) rfl (by simp) (und_map encM9_250_und _) (ObSub.box (.cons Sub.frzM (.cons Sub.keepM (.cons Sub.keepM .nil))))) ?_
 refine awp_ghost (ghost_frzMC 3 0 (Ob.arr 147 3 [[(V.imap (m3.map encM9_63)),(V.imap (m26.map encM9_4)),(V.map 4)]]) rfl encM9_4_imm (ObSub.box (.cons Sub.keepM (.cons Sub.frzM (.cons Sub.keepM .nil))))) ?_
 refine awp_ghost (ghost_frzMC 4 0 (Ob.arr 147 3 [[(V.imap (m3.map encM9_63)),(V.imap (m26.map encM9_4)),(V.imap (m36.map encM9_4))]]) rfl encM9_4_imm (ObSub.box (.cons Sub.keepM (.cons Sub.keepM (.cons Sub.frzM .nil))))) ?_
 refine fa ?_
 exact rt h rfl
theorem W88(F:Nat)(a1:(List UInt8))(r:Bool)(h:M88 F a1=some r):Pure Tryz.prog 88 [(sV a1)] (bV r):=by
 refine pin (fun r=>(bV r)) r rfl Tryz.func88 rfl rfl rfl rfl rfl (fun w0 m0 hg=>?_)
 unfold M88 at h
 refine rn 9 rfl ?_
 refine jK h (fun _:Unit=>(⟨[(0,(sV a1))],[],0⟩:St)) (fun k2 (_:Unit)=>k2=some r) (fun k2 h=>?_) ?_
 ·refine rn 1 rfl ?_
  refine ck h (fun hA15 h=>?_)
  refine lC (fun(p:Int)=>(⟨[(0,(sV a1)),(3,(iV p))],[],0⟩:St)) (fun n p=>RC (a1.length:Int) (fun tl nn=>M88_L1 F a1 k2 tl nn=some r) n p) (fun p h=>RC.zero h) (Int.toNat (a1.length:Int)+1) 0 (RC.start h) (g0 rfl rfl) (fun n n4 h=>?_)
  refine rn 8 rfl ?_
  refine spL rfl (fun hb5=>?_) (fun hb5=>?_)
  ·obtain⟨tl,h,hk1⟩:=RC.t hA15 h hb5
   unfold M88_L1 at h
   refine rn 7 rfl ?_
   refine ixs h rfl rfl (fun c6 hx7 h=>?_)
   refine rn 2 rfl ?_
   refine spO 14 h rfl (fun hb8 h=>?_) (fun hb8 h=>?_)
   ·refine rn 17 rfl ?_
    exact rt h rfl
   refine rn 2 rfl ?_
   refine ixs h rfl rfl (fun c9 hx10 h=>?_)
   refine rn 3 rfl ?_
   refine spO 20 h rfl (fun hb11 h=>?_) (fun hb11 h=>?_)
   ·refine rn 11 rfl ?_
    exact rt h rfl
   refine rn 2 rfl ?_
   refine ixs h rfl rfl (fun c12 hx13 h=>?_)
   refine rn 3 rfl ?_
   refine spC h rfl (fun hb14 h=>?_) (fun hb14 h=>?_)
   ·refine rn 4 rfl ?_
    exact rt h rfl
   refine rn 7 rfl ?_
   exact jX (w64 (n4+1)) (hk1 _ h) (g0 rfl rfl)
  replace h:=RC.f h hb5
  unfold M88_L1 at h
  refine rn 1 rfl ?_
  exact jX () h (g0 rfl rfl)
 intro _ h
 refine rn 6 rfl ?_
 refine spO 29 h rfl (fun hb16 h=>?_) (fun hb16 h=>?_)
 ·refine rn 6 rfl ?_
  exact rt h rfl
 refine rn 6 rfl ?_
 exact rt h rfl
theorem W86(F:Nat)(a1:(List (List UInt8)))(a2:Int)(r:Int)(h:M86 F a1 a2=some r):Pure Tryz.prog 86 [(V.lst 1 (a1.map encS)),(iV a2)] (iV r):=by
 refine pin (fun r=>(iV r)) r rfl Tryz.func86 rfl rfl rfl rfl rfl (fun w0 m0 hg=>?_)
 unfold M86 at h
 refine rn 6 rfl ?_
 refine bs h (fun hb3 h=>?_) (fun hb3 h=>?_)
 ·obtain⟨x4,hx5,h⟩:=bind_some h
  obtain⟨x6,hx7,h⟩:=bind_some h
  refine dr mixed (vs 2 rfl (vb hb3 rfl (vs 2 rfl (iD hx5 rfl rfl rfl (vs 4 rfl (iD hx7 rfl rfl rfl (vs 3 rfl .nil))))))) (by kernel_rfl) ?_
  refine spC h rfl (fun hb8 h=>?_) (fun hb8 h=>?_)
  ·refine rn 4 rfl ?_
   exact rt h rfl
  refine rn 5 rfl ?_
  exact rt h rfl
 refine dr mixed (vs 2 rfl (vb hb3 rfl (vs 11 rfl .nil))) (by kernel_rfl) ?_
 refine rn 6 rfl ?_
 exact rt h rfl
theorem W83(F:Nat)(a1:Tprovenderref6_checker)(r:Int)(h:M83 F a1=some r):Pure Tryz.prog 83 [(V.agg (encTprovenderref6_checker a1))] (iV r):=by
 refine pin (fun r=>(iV r)) r rfl Tryz.func83 rfl rfl rfl rfl rfl (fun w0 m0 hg=>?_)
 unfold M83 at h
 refine rn 15 rfl ?_
 refine ln rfl rfl ?_
 refine rn 2 rfl ?_
 refine jK h (fun _:Unit=>(⟨[],[],0⟩:St)) (fun k2 (_:Unit)=>k2=some r) (fun k2 h=>?_) ?_
 ·refine rn 1 rfl ?_
  refine wl (A:=a1.g.Ifaces) 11 rfl (fun hA31=>?_)
  refine lC (fun(p:(List UInt8)×Int)=>(⟨[(3,(sV (p.1))),(11,(V.lst 2 (a1.g.Ifaces.map encTIface))),(12,(iV ((a1.g.Ifaces.length:Nat):Int))),(13,(iV (p.2)))],[],0⟩:St)) (fun n p=>RG a1.g.Ifaces (fun tl nn=>M83_L1 F k2 tl p.1=some r) n p.2) (fun p h=>RG.zero h) (a1.g.Ifaces.length+1) (([]:List UInt8),0) (RG.start h) (g0 rfl rfl) (fun n p h=>?_)
  obtain⟨s5,n6⟩:=p
  refine rn 5 rfl ?_
  refine spL rfl (fun hb7=>?_) (fun hb7=>?_)
  ·obtain⟨x10,tl,hx11,h,hk1⟩:=RG.t hA31 h hb7
   unfold M83_L1 at h
   refine rn 2 rfl ?_
   refine jK h (fun(p:(List UInt8))=>(⟨[(3,(sV p)),(11,(V.lst 2 (a1.g.Ifaces.map encTIface))),(12,(iV ((a1.g.Ifaces.length:Nat):Int))),(13,(iV n6))],[],0⟩:St)) (fun k8 p=>k8 p=some r) (fun k8 h=>?_) ?_
   ·refine rn 3 rfl ?_
    refine ixh hx11 rfl rfl ?_
    refine rn 10 rfl ?_
    refine cl h rfl rfl rfl (W88 _ _) rfl (fun y12 hx13 h=>?_)
    refine rn 3 rfl ?_
    refine spC h rfl (fun hb14 h=>?_) (fun hb14 h=>?_)
    ·refine rn 4 rfl ?_
     exact rt h rfl
    refine rn 8 rfl ?_
    refine spC h rfl (fun hb15 h=>?_) (fun hb15 h=>?_)
    ·refine rn 4 rfl ?_
     exact rt h rfl
    refine rn 4 rfl ?_
    refine ln rfl rfl ?_
    refine rn 3 rfl ?_
    refine spC h rfl (fun hb16 h=>?_) (fun hb16 h=>?_)
    ·refine rn 4 rfl ?_
     exact rt h rfl
    refine rn 4 rfl ?_
    refine ln rfl rfl ?_
    refine rn 3 rfl ?_
    refine spC h rfl (fun hb17 h=>?_) (fun hb17 h=>?_)
    ·refine rn 4 rfl ?_
     exact rt h rfl
    refine rn 12 rfl ?_
    refine ln rfl rfl ?_
    refine rn 2 rfl ?_
    refine jK h (fun _:Unit=>(⟨[(3,(sV x10.Name)),(11,(V.lst 2 (a1.g.Ifaces.map encTIface))),(12,(iV ((a1.g.Ifaces.length:Nat):Int))),(13,(iV n6))],[],0⟩:St)) (fun k18 (_:Unit)=>k18=some r) (fun k18 h=>?_) ?_
    ·refine rn 1 rfl ?_
     refine wl (A:=x10.Methods) 29 rfl (fun hA30=>?_)
     refine lC (fun(p:Int)=>(⟨[(3,(sV x10.Name)),(5,(V.ptr 0 2 0 0)),(11,(V.lst 2 (a1.g.Ifaces.map encTIface))),(12,(iV ((a1.g.Ifaces.length:Nat):Int))),(13,(iV n6)),(40,(V.lst 1 (x10.Methods.map encS))),(41,(iV ((x10.Methods.length:Nat):Int))),(42,(iV p))],[(0,(Ob.arr 80 2 [(encTIface x10)]))],1⟩:St)) (fun n p=>RG x10.Methods (fun tl nn=>M83_L2 F x10 k18 tl nn=some r) n p) (fun p h=>RG.zero h) (x10.Methods.length+1) 0 (RG.start h) (gr [0] rfl (hB rfl rfl rfl .nil) rfl) (fun n n20 h=>?_)
     refine rn 5 rfl ?_
     refine spL rfl (fun hb21=>?_) (fun hb21=>?_)
     ·obtain⟨x22,tl,hx23,h,hk2⟩:=RG.t hA30 h hb21
      unfold M83_L2 at h
      refine rn 6 rfl ?_
      refine ixh hx23 rfl rfl ?_
      refine rn 8 rfl ?_
      refine cl h rfl rfl rfl (W88 _ _) rfl (fun y24 hx25 h=>?_)
      refine rn 2 rfl ?_
      refine spC h rfl (fun hb26 h=>?_) (fun hb26 h=>?_)
      ·refine rn 4 rfl ?_
       exact rt h rfl
      refine rn 6 rfl ?_
      refine cl h rfl rfl rfl (W86 _ _ _) rfl (fun y27 hx28 h=>?_)
      refine rn 7 rfl ?_
      refine spC h rfl (fun hb29 h=>?_) (fun hb29 h=>?_)
      ·refine rn 5 rfl ?_
       exact rt h rfl
      refine rn 6 rfl ?_
      exact jX (w64 (n20+1)) (hk2 _ h) (gr [0] rfl (hB rfl rfl rfl .nil) rfl)
     replace h:=RG.f h hb21
     unfold M83_L2 at h
     refine rn 1 rfl ?_
     exact jX () h (g0 rfl rfl)
    intro _ h
    refine rn 1 rfl ?_
    exact jX x10.Name h (g0 rfl rfl)
   intro s9 h
   refine rn 4 rfl ?_
   exact jX (s9,(w64 (n6+1))) (hk1 _ h) (g0 rfl rfl)
  replace h:=RG.f h hb7
  unfold M83_L1 at h
  refine rn 1 rfl ?_
  exact jX () h (g0 rfl rfl)
 intro _ h
 refine rn 4 rfl ?_
 exact rt h rfl
theorem W84(F:Nat)(a1:Tprovenderref6_checker)(r:Int)(h:M84 F a1=some r):Pure Tryz.prog 84 [(V.agg (encTprovenderref6_checker a1))] (iV r):=by
 refine pin (fun r=>(iV r)) r rfl Tryz.func84 rfl rfl rfl rfl rfl (fun w0 m0 hg=>?_)
 unfold M84 at h
 refine rn 15 rfl ?_
 refine ln rfl rfl ?_
 refine rn 2 rfl ?_
 refine jK h (fun _:Unit=>(⟨[],[],0⟩:St)) (fun k2 (_:Unit)=>k2=some r) (fun k2 h=>?_) ?_
 ·refine rn 1 rfl ?_
  refine wl (A:=a1.g.Types) 11 rfl (fun hA33=>?_)
  refine lC (fun(p:(List UInt8)×Int)=>(⟨[(1,(V.ptr 0 8 0 0)),(3,(sV (p.1))),(11,(V.lst 2 (a1.g.Types.map encTType))),(12,(iV ((a1.g.Types.length:Nat):Int))),(13,(iV (p.2)))],[(0,(Ob.arr 150 8 [(encTprovenderref6_checker a1)]))],1⟩:St)) (fun n p=>RG a1.g.Types (fun tl nn=>M84_L1 F a1 k2 tl p.1=some r) n p.2) (fun p h=>RG.zero h) (a1.g.Types.length+1) (([]:List UInt8),0) (RG.start h) (gr [0] rfl (hB rfl rfl rfl .nil) rfl) (fun n p h=>?_)
  obtain⟨s5,n6⟩:=p
  refine rn 5 rfl ?_
  refine spL rfl (fun hb7=>?_) (fun hb7=>?_)
  ·obtain⟨x10,tl,hx11,h,hk1⟩:=RG.t hA33 h hb7
   unfold M84_L1 at h
   refine rn 2 rfl ?_
   refine jK h (fun(p:(List UInt8))=>(⟨[(1,(V.ptr 0 8 0 0)),(3,(sV p)),(11,(V.lst 2 (a1.g.Types.map encTType))),(12,(iV ((a1.g.Types.length:Nat):Int))),(13,(iV n6))],[(0,(Ob.arr 150 8 [(encTprovenderref6_checker a1)]))],1⟩:St)) (fun k8 p=>k8 p=some r) (fun k8 h=>?_) ?_
   ·refine rn 3 rfl ?_
    refine ixh hx11 rfl rfl ?_
    refine rn 10 rfl ?_
    refine cl h rfl rfl rfl (W88 _ _) rfl (fun y12 hx13 h=>?_)
    refine rn 3 rfl ?_
    refine spC h rfl (fun hb14 h=>?_) (fun hb14 h=>?_)
    ·refine rn 4 rfl ?_
     exact rt h rfl
    refine rn 8 rfl ?_
    refine spC h rfl (fun hb15 h=>?_) (fun hb15 h=>?_)
    ·refine rn 4 rfl ?_
     exact rt h rfl
    refine rn 4 rfl ?_
    refine ln rfl rfl ?_
    refine rn 3 rfl ?_
    refine spC h rfl (fun hb16 h=>?_) (fun hb16 h=>?_)
    ·refine rn 4 rfl ?_
     exact rt h rfl
    refine rn 16 rfl ?_
    refine ln rfl rfl ?_
    refine rn 2 rfl ?_
    refine jK h (fun _:Unit=>(⟨[(1,(V.ptr 0 8 0 0)),(3,(sV x10.Name)),(11,(V.lst 2 (a1.g.Types.map encTType))),(12,(iV ((a1.g.Types.length:Nat):Int))),(13,(iV n6))],[(0,(Ob.arr 150 8 [(encTprovenderref6_checker a1)]))],1⟩:St)) (fun k17 (_:Unit)=>k17=some r) (fun k17 h=>?_) ?_
    ·refine rn 1 rfl ?_
     refine wl (A:=x10.Methods) 29 rfl (fun hA32=>?_)
     refine lC (fun(p:(List UInt8)×Int)=>(⟨[(1,(V.ptr 0 8 0 0)),(3,(sV x10.Name)),(6,(sV (p.1))),(11,(V.lst 2 (a1.g.Types.map encTType))),(12,(iV ((a1.g.Types.length:Nat):Int))),(13,(iV n6)),(35,(V.lst 2 (x10.Methods.map encTMethod))),(36,(iV ((x10.Methods.length:Nat):Int))),(37,(iV (p.2)))],[(0,(Ob.arr 150 8 [(encTprovenderref6_checker a1)]))],1⟩:St)) (fun n p=>RG x10.Methods (fun tl nn=>M84_L2 F a1 k17 tl p.1=some r) n p.2) (fun p h=>RG.zero h) (x10.Methods.length+1) (([]:List UInt8),0) (RG.start h) (gr [0] rfl (hB rfl rfl rfl .nil) rfl) (fun n p h=>?_)
     obtain⟨s20,n21⟩:=p
     refine rn 5 rfl ?_
     refine spL rfl (fun hb22=>?_) (fun hb22=>?_)
     ·obtain⟨x23,tl,hx24,h,hk2⟩:=RG.t hA32 h hb22
      unfold M84_L2 at h
      refine rn 5 rfl ?_
      refine ixh hx24 rfl rfl ?_
      refine rn 10 rfl ?_
      refine cl h rfl rfl rfl (W88 _ _) rfl (fun y25 hx26 h=>?_)
      refine rn 3 rfl ?_
      refine jK h (fun _:Unit=>(⟨[(1,(V.ptr 0 8 0 0)),(3,(sV x10.Name)),(8,(V.ptr 1 2 0 0)),(11,(V.lst 2 (a1.g.Types.map encTType))),(12,(iV ((a1.g.Types.length:Nat):Int))),(13,(iV n6)),(35,(V.lst 2 (x10.Methods.map encTMethod))),(36,(iV ((x10.Methods.length:Nat):Int))),(37,(iV n21))],[(0,(Ob.arr 150 8 [(encTprovenderref6_checker a1)])),(1,(Ob.arr 144 2 [(encTMethod x23)]))],2⟩:St)) (fun k27 (_:Unit)=>k27=some r) (fun k27 h=>?_) ?_
      ·refine spC h rfl (fun hb28 h=>?_) (fun hb28 h=>?_)
       ·refine rn 4 rfl ?_
        exact rt h rfl
       refine rn 8 rfl ?_
       refine spC h rfl (fun hb29 h=>?_) (fun hb29 h=>?_)
       ·refine rn 4 rfl ?_
        exact rt h rfl
       refine rn 6 rfl ?_
       refine spO 55 h rfl (fun hb30 h=>?_) (fun hb30 h=>?_)
       ·refine rn 5 rfl ?_
        refine aops_lookup _ (bV false) (bV ((mget a1.n.funcs x23.Func).getD false)) tMap63 tKey9 tZo4 (irel_con _) (wants_some (c:=true) (b:=true) 55 rfl rfl rfl) rfl .imm (.con rfl) ⟨_,rfl⟩ encM9_4_good (encM9_4_look a1.n.funcs x23.Func) (getD_map (encM9_4_val) (mget a1.n.funcs x23.Func) false) rfl ?_
        refine fo (rn 4 rfl ?_)
        refine spC h rfl (fun hb31 h=>?_) (fun hb31 h=>?_)
        ·refine rn 4 rfl ?_
         exact rt h rfl
        refine rn 1 rfl ?_
        exact jX () h (gr [0,1] rfl (hB rfl rfl rfl (hB rfl rfl rfl .nil)) rfl)
       refine rn 12 rfl ?_
       exact jX () h (gr [0,1] rfl (hB rfl rfl rfl (hB rfl rfl rfl .nil)) rfl)
      intro _ h
      refine rn 11 rfl ?_
      exact jX (x23.Name,(w64 (n21+1))) (hk2 _ h) (gr [0] rfl (hB rfl rfl rfl .nil) rfl)
     replace h:=RG.f h hb22
     unfold M84_L2 at h
     refine rn 1 rfl ?_
     exact jX () h (gr [0] rfl (hB rfl rfl rfl .nil) rfl)
    intro _ h
    refine rn 1 rfl ?_
    exact jX x10.Name h (gr [0] rfl (hB rfl rfl rfl .nil) rfl)
   intro s9 h
   refine rn 4 rfl ?_
   exact jX (s9,(w64 (n6+1))) (hk1 _ h) (gr [0] rfl (hB rfl rfl rfl .nil) rfl)
  replace h:=RG.f h hb7
  unfold M84_L1 at h
  refine rn 1 rfl ?_
  exact jX () h (g0 rfl rfl)
 intro _ h
 refine rn 4 rfl ?_
 exact rt h rfl
theorem W126(F:Nat)(a1:Tprovenderref6_checker)(a2:TCall)(r:Int)(h:M126 F a1 a2=some r):Pure Tryz.prog 126 [(V.agg (encTprovenderref6_checker a1)),(V.agg (encTCall a2))] (iV r):=by
 refine pin (fun r=>(iV r)) r rfl Tryz.func126 rfl rfl rfl rfl rfl (fun w0 m0 hg=>?_)
 unfold M126 at h
 refine rn 18 rfl ?_
 refine jK h (fun _:Unit=>(⟨[(3,(V.ptr 0 4 0 0))],[(0,(Ob.arr 54 4 [(encTCall a2)]))],1⟩:St)) (fun k3 (_:Unit)=>k3=some r) (fun k3 h=>?_) ?_
 ·refine spC h rfl (fun hb4 h=>?_) (fun hb4 h=>?_)
  ·refine rn 7 rfl ?_
   refine spO 14 h rfl (fun hb5 h=>?_) (fun hb5 h=>?_)
   ·refine rn 5 rfl ?_
    refine aops_lookup _ (bV false) (bV ((mget a1.n.funcs a2.Target).getD false)) tMap63 tKey9 tZo4 (irel_con _) (wants_some (c:=true) (b:=true) 14 rfl rfl rfl) rfl .imm (.con rfl) ⟨_,rfl⟩ encM9_4_good (encM9_4_look a1.n.funcs a2.Target) (getD_map (encM9_4_val) (mget a1.n.funcs a2.Target) false) rfl ?_
    refine fo (rn 3 rfl ?_)
    refine spC h rfl (fun hb6 h=>?_) (fun hb6 h=>?_)
    ·refine rn 4 rfl ?_
     exact rt h rfl
    refine rn 7 rfl ?_
    refine spC h rfl (fun hb7 h=>?_) (fun hb7 h=>?_)
    ·refine rn 4 rfl ?_
     exact rt h rfl
    refine rn 1 rfl ?_
    exact jX () h (gr [1] rfl (hB rfl rfl rfl .nil) rfl)
   refine rn 17 rfl ?_
   refine spC h rfl (fun hb8 h=>?_) (fun hb8 h=>?_)
   ·refine rn 4 rfl ?_
    exact rt h rfl
   refine rn 1 rfl ?_
   exact jX () h (gr [1] rfl (hB rfl rfl rfl .nil) rfl)
  refine rn 5 rfl ?_
  refine spC h rfl (fun hb9 h=>?_) (fun hb9 h=>?_)
  ·refine rn 7 rfl ?_
   refine bs h (fun hb10 h=>?_) (fun hb10 h=>?_)
   ·refine aops_lookup_okB _ (V.con (.map none)) (V.imap (((mget a1.n.ifaces a2.Target).getD []).map encM9_4)) tMap145 tKey9 tZo63 (irel_con _) wants_none rfl .imm (.con rfl) ⟨_,rfl⟩ encM9_63_good (encM9_63_look a1.n.ifaces a2.Target) (getD_mapT (y:=[]) hb10) (isSomeT hb10) rfl ?_
    refine fo (rn 12 rfl ?_)
    refine spO 40 h rfl (fun hb11 h=>?_) (fun hb11 h=>?_)
    ·refine rn 6 rfl ?_
     refine aops_lookup _ (bV false) (bV ((mget ((mget a1.n.ifaces a2.Target).getD []) a2.Method).getD false)) tMap63 tKey9 tZo4 (irel_con _) (wants_some (c:=false) (b:=false) 43 rfl rfl rfl) rfl .imm (.con rfl) ⟨_,rfl⟩ encM9_4_good (encM9_4_look ((mget a1.n.ifaces a2.Target).getD []) a2.Method) (getD_map (encM9_4_val) (mget ((mget a1.n.ifaces a2.Target).getD []) a2.Method) false) rfl ?_
     refine fo (rn 4 rfl ?_)
     refine spC h rfl (fun hb12 h=>?_) (fun hb12 h=>?_)
     ·refine rn 4 rfl ?_
      exact rt h rfl
     refine rn 1 rfl ?_
     exact jX () h (gr [1] rfl (hB rfl rfl rfl .nil) rfl)
    refine rn 13 rfl ?_
    exact jX () h (gr [1] rfl (hB rfl rfl rfl .nil) rfl)
   refine aops_lookup_okB _ (V.con (.map none)) (V.con (.map none)) tMap145 tKey9 tZo63 (irel_con _) wants_none rfl .imm (.con rfl) ⟨_,rfl⟩ encM9_63_good (encM9_63_look a1.n.ifaces a2.Target) (getD_mapF hb10) (isSomeT hb10) rfl ?_
   refine fo (rn 12 rfl ?_)
   refine spO 40 h rfl (fun hb13 h=>?_) (fun hb13 h=>?_)
   ·refine rn 16 rfl ?_
    exact rt h rfl
   refine rn 13 rfl ?_
   exact jX () h (gr [1] rfl (hB rfl rfl rfl .nil) rfl)
  refine rn 4 rfl ?_
  exact rt h rfl
 intro _ h
 refine rn 8 rfl ?_
 refine spO 54 h rfl (fun hb14 h=>?_) (fun hb14 h=>?_)
 ·refine rn 2 rfl ?_
  refine cl h rfl rfl rfl (W88 _ _) rfl (fun y15 hx16 h=>?_)
  refine rn 3 rfl ?_
  refine spC h rfl (fun hb17 h=>?_) (fun hb17 h=>?_)
  ·refine rn 4 rfl ?_
   exact rt h rfl
  refine rn 5 rfl ?_
  exact rt h rfl
 refine rn 12 rfl ?_
 exact rt h rfl
theorem W85(F:Nat)(a1:Tprovenderref6_checker)(r:Int)(h:M85 F a1=some r):Pure Tryz.prog 85 [(V.agg (encTprovenderref6_checker a1))] (iV r):=by
 refine pin (fun r=>(iV r)) r rfl Tryz.func85 rfl rfl rfl rfl rfl (fun w0 m0 hg=>?_)
 unfold M85 at h
 refine rn 15 rfl ?_
 refine ln rfl rfl ?_
 refine rn 2 rfl ?_
 refine jK h (fun _:Unit=>(⟨[],[],0⟩:St)) (fun k2 (_:Unit)=>k2=some r) (fun k2 h=>?_) ?_
 ·refine rn 1 rfl ?_
  refine wl (A:=a1.g.Funcs) 14 rfl (fun hA46=>?_)
  refine lC (fun(p:(List UInt8)×Int)=>(⟨[(1,(V.ptr 0 8 0 0)),(3,(sV (p.1))),(14,(V.lst 4 (a1.g.Funcs.map encTFunc))),(15,(iV ((a1.g.Funcs.length:Nat):Int))),(16,(iV (p.2)))],[(0,(Ob.arr 150 8 [(encTprovenderref6_checker a1)]))],1⟩:St)) (fun n p=>RG a1.g.Funcs (fun tl nn=>M85_L1 F a1 k2 tl p.1=some r) n p.2) (fun p h=>RG.zero h) (a1.g.Funcs.length+1) (([]:List UInt8),0) (RG.start h) (gr [0] rfl (hB rfl rfl rfl .nil) rfl) (fun n p h=>?_)
  obtain⟨s5,n6⟩:=p
  refine rn 5 rfl ?_
  refine spL rfl (fun hb7=>?_) (fun hb7=>?_)
  ·obtain⟨x10,tl,hx11,h,hk1⟩:=RG.t hA46 h hb7
   unfold M85_L1 at h
   refine rn 2 rfl ?_
   refine jK h (fun(p:(List UInt8))=>(⟨[(1,(V.ptr 0 8 0 0)),(3,(sV p)),(14,(V.lst 4 (a1.g.Funcs.map encTFunc))),(15,(iV ((a1.g.Funcs.length:Nat):Int))),(16,(iV n6))],[(0,(Ob.arr 150 8 [(encTprovenderref6_checker a1)]))],1⟩:St)) (fun k8 p=>k8 p=some r) (fun k8 h=>?_) ?_
   ·refine rn 3 rfl ?_
    refine ixh hx11 rfl rfl ?_
    refine rn 10 rfl ?_
    refine cl h rfl rfl rfl (W88 _ _) rfl (fun y12 hx13 h=>?_)
    refine rn 3 rfl ?_
    refine spC h rfl (fun hb14 h=>?_) (fun hb14 h=>?_)
    ·refine rn 4 rfl ?_
     exact rt h rfl
    refine rn 8 rfl ?_
    refine spC h rfl (fun hb15 h=>?_) (fun hb15 h=>?_)
    ·refine rn 4 rfl ?_
     exact rt h rfl
    refine rn 4 rfl ?_
    refine cl h rfl rfl rfl (W88 _ _) rfl (fun y16 hx17 h=>?_)
    refine rn 3 rfl ?_
    refine spC h rfl (fun hb18 h=>?_) (fun hb18 h=>?_)
    ·refine rn 4 rfl ?_
     exact rt h rfl
    refine rn 4 rfl ?_
    refine ln rfl rfl ?_
    refine rn 3 rfl ?_
    refine spC h rfl (fun hb19 h=>?_) (fun hb19 h=>?_)
    ·refine rn 4 rfl ?_
     exact rt h rfl
    refine rn 13 rfl ?_
    refine ln rfl rfl ?_
    refine rn 2 rfl ?_
    refine jK h (fun _:Unit=>(⟨[(1,(V.ptr 0 8 0 0)),(3,(sV x10.Name)),(5,(V.ptr 1 4 0 0)),(14,(V.lst 4 (a1.g.Funcs.map encTFunc))),(15,(iV ((a1.g.Funcs.length:Nat):Int))),(16,(iV n6))],[(0,(Ob.arr 150 8 [(encTprovenderref6_checker a1)])),(1,(Ob.arr 52 4 [(encTFunc x10)]))],2⟩:St)) (fun k20 (_:Unit)=>k20=some r) (fun k20 h=>?_) ?_
    ·refine rn 1 rfl ?_
     refine wl (A:=x10.Calls) 37 rfl (fun hA29=>?_)
     refine lC (fun(p:Int)=>(⟨[(1,(V.ptr 0 8 0 0)),(3,(sV x10.Name)),(5,(V.ptr 1 4 0 0)),(14,(V.lst 4 (a1.g.Funcs.map encTFunc))),(15,(iV ((a1.g.Funcs.length:Nat):Int))),(16,(iV n6)),(43,(V.lst 4 (x10.Calls.map encTCall))),(44,(iV ((x10.Calls.length:Nat):Int))),(45,(iV p))],[(0,(Ob.arr 150 8 [(encTprovenderref6_checker a1)])),(1,(Ob.arr 52 4 [(encTFunc x10)]))],2⟩:St)) (fun n p=>RG x10.Calls (fun tl nn=>M85_L2 F a1 k20 tl=some r) n p) (fun p h=>RG.zero h) (x10.Calls.length+1) 0 (RG.start h) (gr [0,1] rfl (hB rfl rfl rfl (hB rfl rfl rfl .nil)) rfl) (fun n n22 h=>?_)
     refine rn 5 rfl ?_
     refine spL rfl (fun hb23=>?_) (fun hb23=>?_)
     ·obtain⟨x24,tl,hx25,h,hk2⟩:=RG.t hA29 h hb23
      unfold M85_L2 at h
      refine rn 5 rfl ?_
      refine ixh hx25 rfl rfl ?_
      refine rn 8 rfl ?_
      refine cl h rfl rfl rfl (W126 _ _ _) rfl (fun y26 hx27 h=>?_)
      refine rn 7 rfl ?_
      refine spC h rfl (fun hb28 h=>?_) (fun hb28 h=>?_)
      ·refine rn 5 rfl ?_
       exact rt h rfl
      refine rn 6 rfl ?_
      exact jX (w64 (n22+1)) (hk2 _ h) (gr [0,1] rfl (hB rfl rfl rfl (hB rfl rfl rfl .nil)) rfl)
     replace h:=RG.f h hb23
     unfold M85_L2 at h
     refine rn 1 rfl ?_
     exact jX () h (gr [0,1] rfl (hB rfl rfl rfl (hB rfl rfl rfl .nil)) rfl)
    intro _ h
    refine rn 4 rfl ?_
    refine ln rfl rfl ?_
    refine rn 2 rfl ?_
    refine jK h (fun _:Unit=>(⟨[(1,(V.ptr 0 8 0 0)),(3,(sV x10.Name)),(14,(V.lst 4 (a1.g.Funcs.map encTFunc))),(15,(iV ((a1.g.Funcs.length:Nat):Int))),(16,(iV n6))],[(0,(Ob.arr 150 8 [(encTprovenderref6_checker a1)]))],1⟩:St)) (fun k30 (_:Unit)=>k30=some r) (fun k30 h=>?_) ?_
    ·refine rn 1 rfl ?_
     refine wl (A:=x10.Makes) 57 rfl (fun hA45=>?_)
     refine lC (fun(p:Int)=>(⟨[(1,(V.ptr 0 8 0 0)),(3,(sV x10.Name)),(5,(V.ptr 1 4 0 0)),(14,(V.lst 4 (a1.g.Funcs.map encTFunc))),(15,(iV ((a1.g.Funcs.length:Nat):Int))),(16,(iV n6)),(57,(V.lst 1 (x10.Makes.map encS))),(58,(iV ((x10.Makes.length:Nat):Int))),(59,(iV p))],[(0,(Ob.arr 150 8 [(encTprovenderref6_checker a1)])),(1,(Ob.arr 52 4 [(encTFunc x10)]))],2⟩:St)) (fun n p=>RG x10.Makes (fun tl nn=>M85_L3 F a1 x10 k30 tl nn=some r) n p) (fun p h=>RG.zero h) (x10.Makes.length+1) 0 (RG.start h) (gr [0,1] rfl (hB rfl rfl rfl (hB rfl rfl rfl .nil)) rfl) (fun n n32 h=>?_)
     refine rn 5 rfl ?_
     refine spL rfl (fun hb33=>?_) (fun hb33=>?_)
     ·obtain⟨x35,tl,hx36,h,hk3⟩:=RG.t hA45 h hb33
      unfold M85_L3 at h
      refine rn 2 rfl ?_
      refine jK h (fun _:Unit=>(⟨[(1,(V.ptr 0 8 0 0)),(3,(sV x10.Name)),(5,(V.ptr 1 4 0 0)),(14,(V.lst 4 (a1.g.Funcs.map encTFunc))),(15,(iV ((a1.g.Funcs.length:Nat):Int))),(16,(iV n6)),(57,(V.lst 1 (x10.Makes.map encS))),(58,(iV ((x10.Makes.length:Nat):Int))),(59,(iV n32))],[(0,(Ob.arr 150 8 [(encTprovenderref6_checker a1)])),(1,(Ob.arr 52 4 [(encTFunc x10)]))],2⟩:St)) (fun k34 (_:Unit)=>k34=some r) (fun k34 h=>?_) ?_
      ·refine rn 4 rfl ?_
       refine ixh hx36 rfl rfl ?_
       refine rn 11 rfl ?_
       refine spO 67 h rfl (fun hb37 h=>?_) (fun hb37 h=>?_)
       ·refine rn 4 rfl ?_
        refine aops_lookup _ (bV false) (bV ((mget a1.n.types x35).getD false)) tMap63 tKey9 tZo4 (irel_con _) (wants_some (c:=true) (b:=true) 67 rfl rfl rfl) rfl .imm (.con rfl) ⟨_,rfl⟩ encM9_4_good (encM9_4_look a1.n.types x35) (getD_map (encM9_4_val) (mget a1.n.types x35) false) rfl ?_
        refine fo (rn 3 rfl ?_)
        refine spC h rfl (fun hb38 h=>?_) (fun hb38 h=>?_)
        ·refine rn 4 rfl ?_
         exact rt h rfl
        refine rn 6 rfl ?_
        refine cl h rfl rfl rfl (W86 _ _ _) rfl (fun y39 hx40 h=>?_)
        refine rn 7 rfl ?_
        refine spC h rfl (fun hb41 h=>?_) (fun hb41 h=>?_)
        ·refine rn 5 rfl ?_
         exact rt h rfl
        refine rn 2 rfl ?_
        exact jX () h (gr [0,1] rfl (hB rfl rfl rfl (hB rfl rfl rfl .nil)) rfl)
       refine rn 15 rfl ?_
       refine cl h rfl rfl rfl (W86 _ _ _) rfl (fun y42 hx43 h=>?_)
       refine rn 7 rfl ?_
       refine spC h rfl (fun hb44 h=>?_) (fun hb44 h=>?_)
       ·refine rn 5 rfl ?_
        exact rt h rfl
       refine rn 2 rfl ?_
       exact jX () h (gr [0,1] rfl (hB rfl rfl rfl (hB rfl rfl rfl .nil)) rfl)
      intro _ h
      refine rn 4 rfl ?_
      exact jX (w64 (n32+1)) (hk3 _ h) (gr [0,1] rfl (hB rfl rfl rfl (hB rfl rfl rfl .nil)) rfl)
     replace h:=RG.f h hb33
     unfold M85_L3 at h
     refine rn 1 rfl ?_
     exact jX () h (gr [0] rfl (hB rfl rfl rfl .nil) rfl)
    intro _ h
    refine rn 1 rfl ?_
    exact jX x10.Name h (gr [0] rfl (hB rfl rfl rfl .nil) rfl)
   intro s9 h
   refine rn 4 rfl ?_
   exact jX (s9,(w64 (n6+1))) (hk1 _ h) (gr [0] rfl (hB rfl rfl rfl .nil) rfl)
  replace h:=RG.f h hb7
  unfold M85_L1 at h
  refine rn 1 rfl ?_
  exact jX () h (g0 rfl rfl)
 intro _ h
 refine rn 4 rfl ?_
 exact rt h rfl
theorem W64(F:Nat)(a1:Tprovenderref6_checker)(r:Int)(h:M64 F a1=some r):Pure Tryz.prog 64 [(V.agg (encTprovenderref6_checker a1))] (iV r):=by
 refine pin (fun r=>(iV r)) r rfl Tryz.func64 rfl rfl rfl rfl rfl (fun w0 m0 hg=>?_)
 unfold M64 at h
 refine rn 11 rfl ?_
 refine ln rfl rfl ?_
 refine rn 2 rfl ?_
 refine spO 14 h rfl (fun hb2 h=>?_) (fun hb2 h=>?_)
 ·refine rn 19 rfl ?_
  exact rt h rfl
 refine rn 3 rfl ?_
 refine ln rfl rfl ?_
 refine rn 3 rfl ?_
 refine spO 21 h rfl (fun hb3 h=>?_) (fun hb3 h=>?_)
 ·refine rn 12 rfl ?_
  exact rt h rfl
 refine rn 3 rfl ?_
 refine ln rfl rfl ?_
 refine rn 3 rfl ?_
 refine spC h rfl (fun hb4 h=>?_) (fun hb4 h=>?_)
 ·refine rn 4 rfl ?_
  exact rt h rfl
 refine rn 5 rfl ?_
 refine cl h rfl rfl rfl (W83 _ _) rfl (fun y5 hx6 h=>?_)
 refine rn 7 rfl ?_
 refine spC h rfl (fun hb7 h=>?_) (fun hb7 h=>?_)
 ·refine rn 5 rfl ?_
  exact rt h rfl
 refine rn 5 rfl ?_
 refine cl h rfl rfl rfl (W84 _ _) rfl (fun y8 hx9 h=>?_)
 refine rn 7 rfl ?_
 refine spC h rfl (fun hb10 h=>?_) (fun hb10 h=>?_)
 ·refine rn 5 rfl ?_
  exact rt h rfl
 refine rn 5 rfl ?_
 refine cl h rfl rfl rfl (W85 _ _) rfl (fun y11 hx12 h=>?_)
 refine rn 7 rfl ?_
 refine spC h rfl (fun hb13 h=>?_) (fun hb13 h=>?_)
 ·refine rn 5 rfl ?_
  exact rt h rfl
 refine rn 7 rfl ?_
 refine ln rfl rfl ?_
 refine rn 2 rfl ?_
 refine jK h (fun _:Unit=>(⟨[],[],0⟩:St)) (fun k14 (_:Unit)=>k14=some r) (fun k14 h=>?_) ?_
 ·refine rn 1 rfl ?_
  refine wl (A:=a1.g.Entries) 45 rfl (fun hA29=>?_)
  refine lC (fun(p:Int)=>(⟨[(1,(V.ptr 0 8 0 0)),(45,(V.lst 1 (a1.g.Entries.map encS))),(46,(iV ((a1.g.Entries.length:Nat):Int))),(47,(iV p))],[(0,(Ob.arr 150 8 [(encTprovenderref6_checker a1)]))],1⟩:St)) (fun n p=>RG a1.g.Entries (fun tl nn=>M64_L1 F a1 k14 tl nn=some r) n p) (fun p h=>RG.zero h) (a1.g.Entries.length+1) 0 (RG.start h) (gr [0] rfl (hB rfl rfl rfl .nil) rfl) (fun n n16 h=>?_)
  refine rn 5 rfl ?_
  refine spL rfl (fun hb17=>?_) (fun hb17=>?_)
  ·obtain⟨x19,tl,hx20,h,hk1⟩:=RG.t hA29 h hb17
   unfold M64_L1 at h
   refine rn 2 rfl ?_
   refine jK h (fun _:Unit=>(⟨[(1,(V.ptr 0 8 0 0)),(45,(V.lst 1 (a1.g.Entries.map encS))),(46,(iV ((a1.g.Entries.length:Nat):Int))),(47,(iV n16))],[(0,(Ob.arr 150 8 [(encTprovenderref6_checker a1)]))],1⟩:St)) (fun k18 (_:Unit)=>k18=some r) (fun k18 h=>?_) ?_
   ·refine rn 4 rfl ?_
    refine ixh hx20 rfl rfl ?_
    refine rn 11 rfl ?_
    refine spO 55 h rfl (fun hb21 h=>?_) (fun hb21 h=>?_)
    ·refine rn 4 rfl ?_
     refine aops_lookup _ (bV false) (bV ((mget a1.n.funcs x19).getD false)) tMap63 tKey9 tZo4 (irel_con _) (wants_some (c:=true) (b:=true) 55 rfl rfl rfl) rfl .imm (.con rfl) ⟨_,rfl⟩ encM9_4_good (encM9_4_look a1.n.funcs x19) (getD_map (encM9_4_val) (mget a1.n.funcs x19) false) rfl ?_
     refine fo (rn 3 rfl ?_)
     refine spC h rfl (fun hb22 h=>?_) (fun hb22 h=>?_)
     ·refine rn 4 rfl ?_
      exact rt h rfl
     refine rn 7 rfl ?_
     refine cl h rfl rfl rfl (W86 _ _ _) rfl (fun y23 hx24 h=>?_)
     refine rn 7 rfl ?_
     refine spC h rfl (fun hb25 h=>?_) (fun hb25 h=>?_)
     ·refine rn 5 rfl ?_
      exact rt h rfl
     refine rn 2 rfl ?_
     exact jX () h (gr [0] rfl (hB rfl rfl rfl .nil) rfl)
    refine rn 16 rfl ?_
    refine cl h rfl rfl rfl (W86 _ _ _) rfl (fun y26 hx27 h=>?_)
    refine rn 7 rfl ?_
    refine spC h rfl (fun hb28 h=>?_) (fun hb28 h=>?_)
    ·refine rn 5 rfl ?_
     exact rt h rfl
    refine rn 2 rfl ?_
    exact jX () h (gr [0] rfl (hB rfl rfl rfl .nil) rfl)
   intro _ h
   refine rn 4 rfl ?_
   exact jX (w64 (n16+1)) (hk1 _ h) (gr [0] rfl (hB rfl rfl rfl .nil) rfl)
  replace h:=RG.f h hb17
  unfold M64_L1 at h
  refine rn 1 rfl ?_
  exact jX () h (g0 rfl rfl)
 intro _ h
 refine rn 4 rfl ?_
 exact rt h rfl
theorem W30(F:Nat)(a1:TGraph)(r:Int)(h:M30 F a1=some r):Pure Tryz.prog 30 [(V.agg (encTGraph a1))] (iV r):=by
 refine pin (fun r=>(iV r)) r rfl Tryz.func30 rfl rfl rfl rfl rfl (fun w0 m0 hg=>?_)
 unfold M30 at h
 obtain⟨y2,hx3,h⟩:=bind_some h
 obtain⟨y4,hx5,h⟩:=bind_some h
 refine rn 6 rfl ?_
 refine dr mixed (vs 2 rfl (cD rfl rfl rfl rfl (W63 _ _ _ hx3) rfl (vs 1 rfl (cD rfl rfl rfl rfl (W64 _ _ _ hx5) rfl (vs 1 rfl .nil))))) (by kernel_rfl) ?_
 exact rt h rfl
theorem W65(F:Nat)(a1:TGraph)(a2:(List UInt8))(r:(TFunc×Bool))(h:M65 F a1 a2=some r):Pure Tryz.prog 65 [(V.agg (encTGraph a1)),(sV a2)] (V.tup [(V.agg (encTFunc (r.1))),(bV (r.2))]):=by
 refine pin (fun r=>(V.tup [(V.agg (encTFunc (r.1))),(bV (r.2))])) r rfl Tryz.func65 rfl rfl rfl rfl rfl (fun w0 m0 hg=>?_)
 unfold M65 at h
 refine rn 11 rfl ?_
 refine ln rfl rfl ?_
 refine rn 2 rfl ?_
 refine jK h (fun _:Unit=>(⟨[(4,(V.ptr 0 4 0 0))],[(0,(Ob.arr 52 4 [[(sV ([]:List UInt8)),(sV ([]:List UInt8)),nV,nV]]))],1⟩:St)) (fun k3 (_:Unit)=>k3=some r) (fun k3 h=>?_) ?_
 ·refine rn 1 rfl ?_
  refine wl (A:=a1.Funcs) 9 rfl (fun hA10=>?_)
  refine lC (fun(p:Int)=>(⟨[(1,(sV a2)),(4,(V.ptr 0 4 0 0)),(9,(V.lst 4 (a1.Funcs.map encTFunc))),(10,(iV ((a1.Funcs.length:Nat):Int))),(11,(iV p))],[(0,(Ob.arr 52 4 [[(sV ([]:List UInt8)),(sV ([]:List UInt8)),nV,nV]]))],1⟩:St)) (fun n p=>RG a1.Funcs (fun tl nn=>M65_L1 F a2 k3 tl=some r) n p) (fun p h=>RG.zero h) (a1.Funcs.length+1) 0 (RG.start h) (gr [1] rfl (hB rfl rfl rfl .nil) rfl) (fun n n5 h=>?_)
  refine rn 5 rfl ?_
  refine spL rfl (fun hb6=>?_) (fun hb6=>?_)
  ·obtain⟨x7,tl,hx8,h,hk1⟩:=RG.t hA10 h hb6
   unfold M65_L1 at h
   refine rn 5 rfl ?_
   refine ixh hx8 rfl rfl ?_
   refine rn 11 rfl ?_
   refine spC h rfl (fun hb9 h=>?_) (fun hb9 h=>?_)
   ·refine rn 6 rfl ?_
    exact rt h rfl
   refine rn 6 rfl ?_
   exact jX (w64 (n5+1)) (hk1 _ h) (gr [0] rfl (hB rfl rfl rfl .nil) rfl)
  replace h:=RG.f h hb6
  unfold M65_L1 at h
  refine rn 1 rfl ?_
  exact jX () h (gr [0] rfl (hB rfl rfl rfl .nil) rfl)
 intro _ h
 refine rn 6 rfl ?_
 exact rt h rfl
theorem W31(F:Nat)(a1:TGraph)(a2:TSite)(r:(TCall×Int))(h:M31 F a1 a2=some r):Pure Tryz.prog 31 [(V.agg (encTGraph a1)),(V.agg (encTSite a2))] (V.tup [(V.agg (encTCall (r.1))),(iV (r.2))]):=by
 refine pin (fun r=>(V.tup [(V.agg (encTCall (r.1))),(iV (r.2))])) r rfl Tryz.func31 rfl rfl rfl rfl rfl (fun w0 m0 hg=>?_)
 unfold M31 at h
 refine rn 12 rfl ?_
 refine cl h rfl rfl rfl (W65 _ _ _) rfl (fun y3 hx4 h=>?_)
 refine rn 13 rfl ?_
 refine spC h rfl (fun hb5 h=>?_) (fun hb5 h=>?_)
 ·refine rn 6 rfl ?_
  exact rt h rfl
 refine rn 8 rfl ?_
 refine spO 21 h rfl (fun hb6 h=>?_) (fun hb6 h=>?_)
 ·refine rn 15 rfl ?_
  exact rt h rfl
 refine rn 4 rfl ?_
 refine ln rfl rfl ?_
 refine rn 3 rfl ?_
 refine spC h rfl (fun hb7 h=>?_) (fun hb7 h=>?_)
 ·refine rn 6 rfl ?_
  exact rt h rfl
 refine rn 7 rfl ?_
 refine ixl h rfl rfl (fun x8 hx9 h=>?_)
 refine rn 4 rfl ?_
 exact rt h rfl
theorem W32(F:Nat)(a1:TSite)(a2:TSite)(r:Bool)(h:M32 F a1 a2=some r):Pure Tryz.prog 32 [(V.agg (encTSite a1)),(V.agg (encTSite a2))] (bV r):=by
 refine pin (fun r=>(bV r)) r rfl Tryz.func32 rfl rfl rfl rfl rfl (fun w0 m0 hg=>?_)
 unfold M32 at h
 refine rn 14 rfl ?_
 refine spO 10 h rfl (fun hb3 h=>?_) (fun hb3 h=>?_)
 ·refine rn 15 rfl ?_
  exact rt h rfl
 refine rn 6 rfl ?_
 refine spO 16 h rfl (fun hb4 h=>?_) (fun hb4 h=>?_)
 ·refine rn 9 rfl ?_
  exact rt h rfl
 refine rn 9 rfl ?_
 exact rt h rfl
theorem W7(F:Nat)(a1:TGraph)(a2:(List TSite))(r:(TGraph×Int))(h:M7 F a1 a2=some r):Pure Tryz.prog 7 [(V.agg (encTGraph a1)),(V.lst 2 (a2.map encTSite))] (V.tup [(V.agg (encTGraph (r.1))),(iV (r.2))]):=by
 refine pin (fun r=>(V.tup [(V.agg (encTGraph (r.1))),(iV (r.2))])) r rfl Tryz.func7 rfl rfl rfl rfl rfl (fun w0 m0 hg=>?_)
 unfold M7 at h
 refine rn 10 rfl ?_
 refine cl h rfl rfl rfl (W30 _ _) rfl (fun y3 hx4 h=>?_)
 refine rn 7 rfl ?_
 refine spC h rfl (fun hb5 h=>?_) (fun hb5 h=>?_)
 ·refine rn 7 rfl ?_
  exact rt h rfl
 refine rn 10 rfl ?_
 refine ln rfl rfl ?_
 refine rn 2 rfl ?_
 refine jK h (fun(p:(List (TSite×Bool)))=>(⟨[(2,(V.ptr 0 4 0 0)),(4,(V.ptr 1 4 0 0)),(7,(V.map 2))],[(0,(Ob.arr 27 4 [(encTGraph a1)])),(1,(Ob.arr 27 4 [[nV,nV,nV,nV]])),(2,(Ob.map (p.map encM41_4)))],3⟩:St)) (fun k6 p=>k6 p=some r) (fun k6 h=>?_) ?_
 ·refine rn 1 rfl ?_
  refine wl (A:=a2) 1 rfl (fun hA26=>?_)
  refine lC (fun(p:Int×(List (TSite×Bool)))=>(⟨[(1,(V.lst 2 (a2.map encTSite))),(2,(V.ptr 0 4 0 0)),(4,(V.ptr 1 4 0 0)),(7,(V.map 2)),(25,(V.lst 2 (a2.map encTSite))),(26,(iV ((a2.length:Nat):Int))),(27,(iV (p.1)))],[(0,(Ob.arr 27 4 [(encTGraph a1)])),(1,(Ob.arr 27 4 [[nV,nV,nV,nV]])),(2,(Ob.map ((p.2).map encM41_4)))],3⟩:St)) (fun n p=>RG a2 (fun tl nn=>M7_L1 F a1 a2 k6 tl nn p.2=some r) n p.1) (fun p h=>RG.zero h) (a2.length+1) (0,([]:List (TSite×Bool))) (RG.start h) (gr [0,1,2] rfl (hB rfl rfl rfl (hB rfl rfl rfl (hM rfl rfl .nil))) rfl) (fun n p h=>?_)
  obtain⟨n10,m11⟩:=p
  refine rn 5 rfl ?_
  refine spL rfl (fun hb12=>?_) (fun hb12=>?_)
  ·obtain⟨x15,tl,hx16,h,hk1⟩:=RG.t hA26 h hb12
   unfold M7_L1 at h
   refine rn 2 rfl ?_
   refine jK h (fun(p:(List (TSite×Bool)))=>(⟨[(1,(V.lst 2 (a2.map encTSite))),(2,(V.ptr 0 4 0 0)),(4,(V.ptr 1 4 0 0)),(7,(V.map 2)),(25,(V.lst 2 (a2.map encTSite))),(26,(iV ((a2.length:Nat):Int))),(27,(iV n10))],[(0,(Ob.arr 27 4 [(encTGraph a1)])),(1,(Ob.arr 27 4 [[nV,nV,nV,nV]])),(2,(Ob.map (p.map encM41_4)))],3⟩:St)) (fun k13 p=>k13 p=some r) (fun k13 h=>?_) ?_
   ·refine rn 4 rfl ?_
    refine ixh hx16 rfl rfl ?_
    refine rn 10 rfl ?_
    refine cl h rfl rfl rfl (W31 _ _ _) rfl (fun y17 hx18 h=>?_)
    refine rn 12 rfl ?_
    refine spC h rfl (fun hb19 h=>?_) (fun hb19 h=>?_)
    ·refine rn 7 rfl ?_
     exact rt h rfl
    refine rn 3 rfl ?_
    refine bs h (fun hb20 h=>?_) (fun hb20 h=>?_)
    ·obtain⟨x21,hx22,h⟩:=bind_some h
     obtain⟨y23,hx24,h⟩:=bind_some h
     refine dr mixed (vs 2 rfl (vb hb20 rfl (vs 3 rfl (iD hx22 rfl rfl rfl (vs 2 rfl (cD rfl rfl rfl rfl (W32 _ _ _ _ hx24) rfl (vs 2 rfl .nil))))))) (by kernel_rfl) ?_
     refine spC h rfl (fun hb25 h=>?_) (fun hb25 h=>?_)
     ·refine rn 6 rfl ?_
      exact rt h rfl
     refine rn 4 rfl ?_
     refine aops_mapUpdate (es:=m11.map encM41_4) ((mput m11 x15 true).map encM41_4) tMap75 tKey41 wants_none rfl rfl (.agg (cv41 x15) rfl) ⟨_,rfl⟩ encM41_4_good rfl (encM41_4_puts m11 x15 true) ?_
     refine fo (rn 2 rfl ?_)
     exact jX (mput m11 x15 true) h (gr [0,1,2] rfl (hB rfl rfl rfl (hB rfl rfl rfl (hM rfl rfl .nil))) rfl)
    refine dr mixed (vs 2 rfl (vb hb20 rfl (vs 9 rfl .nil))) (by kernel_rfl) ?_
    refine rn 5 rfl ?_
    refine aops_mapUpdate (es:=m11.map encM41_4) ((mput m11 x15 true).map encM41_4) tMap75 tKey41 wants_none rfl rfl (.agg (cv41 x15) rfl) ⟨_,rfl⟩ encM41_4_good rfl (encM41_4_puts m11 x15 true) ?_
    refine fo (rn 2 rfl ?_)
    exact jX (mput m11 x15 true) h (gr [0,1,2] rfl (hB rfl rfl rfl (hB rfl rfl rfl (hM rfl rfl .nil))) rfl)
   intro m14 h
   refine rn 4 rfl ?_
   exact jX ((w64 (n10+1)),m14) (hk1 _ h) (gr [0,1,2] rfl (hB rfl rfl rfl (hB rfl rfl rfl (hM rfl rfl .nil))) rfl)
  replace h:=RG.f h hb12
  unfold M7_L1 at h
  refine rn 1 rfl ?_
  exact jX m11 h (gr [0,1,2] rfl (hB rfl rfl rfl (hB rfl rfl rfl (hM rfl rfl .nil))) rfl)
 intro m7 h
 refine rn 16 rfl ?_
 refine ln rfl rfl ?_
 refine rn 2 rfl ?_
 refine jK h (fun(p:(List TFunc))=>(⟨[(4,(V.ptr 0 4 0 0)),(12,(V.ptr 1 4 0 0))],[(0,(Ob.arr 27 4 [[nV,nV,nV,nV]])),(1,(Ob.arr 27 4 [[(V.lst 2 (a1.Ifaces.map encTIface)),(V.lst 2 (a1.Types.map encTType)),(V.own 2 p.length),(V.lst 1 (a1.Entries.map encS))]])),(2,(Ob.arr 52 4 (p.map encTFunc)))],3⟩:St)) (fun k27 p=>k27 p=some r) (fun k27 h=>?_) ?_
 ·refine rn 1 rfl ?_
  refine wl (A:=a1.Funcs) 61 rfl (fun hA53=>?_)
  refine lC (fun(p:Int×(List TFunc))=>(⟨[(4,(V.ptr 0 4 0 0)),(7,(V.map 1)),(12,(V.ptr 2 4 0 0)),(61,(V.lst 4 (a1.Funcs.map encTFunc))),(62,(iV ((a1.Funcs.length:Nat):Int))),(63,(iV (p.1)))],[(0,(Ob.arr 27 4 [[nV,nV,nV,nV]])),(1,(Ob.map (m7.map encM41_4))),(2,(Ob.arr 27 4 [[(V.lst 2 (a1.Ifaces.map encTIface)),(V.lst 2 (a1.Types.map encTType)),(V.own 3 (p.2).length),(V.lst 1 (a1.Entries.map encS))]])),(3,(Ob.arr 52 4 ((p.2).map encTFunc)))],4⟩:St)) (fun n p=>RG a1.Funcs (fun tl nn=>M7_L2 F m7 k27 tl p.2=some r) n p.1) (fun p h=>RG.zero h) (a1.Funcs.length+1) (0,([]:List TFunc)) (RG.start h) (Ghost.trans (ghost_nilC 3 52 4 (Ob.arr 27 4 [[(V.lst 2 (a1.Ifaces.map encTIface)),(V.lst 2 (a1.Types.map encTType)),(V.own 4 0),(V.lst 1 (a1.Entries.map encS))]]) (ObSub.box (.cons Sub.keepNil (.cons Sub.keepNil (.cons Sub.mkNil (.cons Sub.keepNil .nil)))))) (ghost_ren 4 (fun i=>([1,2,3,4]:List Nat).getD i 0) _ _ (by decide) (EnvSub.get (.cons (Sub.ptr rfl rfl) (.cons (Sub.map rfl rfl) (.cons (Sub.ptr rfl rfl) (.cons (Sub.imm (Imm.lst _ _)) (.cons (Sub.imm (Imm.con _)) (.cons (Sub.imm (Imm.con _)) .nil))))))) (HpSub.get (.cons rfl (ObSub.box (.cons (Sub.imm (Imm.con _)) (.cons (Sub.imm (Imm.con _)) (.cons (Sub.imm (Imm.con _)) (.cons (Sub.imm (Imm.con _)) .nil))))) (.cons rfl (ObSub.maps encM41_4_imm) (.cons rfl (ObSub.box (.cons (Sub.imm (Imm.lst _ _)) (.cons (Sub.imm (Imm.lst _ _)) (.cons (Sub.ownE rfl rfl (by simp)) (.cons (Sub.imm (Imm.lst _ _)) .nil))))) (.cons rfl (ObSub.rows (rows_imm imms_encTFunc)) .nil))))) rfl)) (fun n p h=>?_)
  obtain⟨n31,l32⟩:=p
  refine rn 5 rfl ?_
  refine spL rfl (fun hb33=>?_) (fun hb33=>?_)
  ·obtain⟨x36,tl,hx37,h,hk2⟩:=RG.t hA53 h hb33
   unfold M7_L2 at h
   refine rn 2 rfl ?_
   refine jK h (fun(p:(List TFunc))=>(⟨[(4,(V.ptr 0 4 0 0)),(7,(V.map 1)),(12,(V.ptr 2 4 0 0)),(61,(V.lst 4 (a1.Funcs.map encTFunc))),(62,(iV ((a1.Funcs.length:Nat):Int))),(63,(iV n31))],[(0,(Ob.arr 27 4 [[nV,nV,nV,nV]])),(1,(Ob.map (m7.map encM41_4))),(2,(Ob.arr 27 4 [[(V.lst 2 (a1.Ifaces.map encTIface)),(V.lst 2 (a1.Types.map encTType)),(V.own 3 p.length),(V.lst 1 (a1.Entries.map encS))]])),(3,(Ob.arr 52 4 (p.map encTFunc)))],4⟩:St)) (fun k34 p=>k34 p=some r) (fun k34 h=>?_) ?_
   ·refine rn 3 rfl ?_
    refine ixh hx37 rfl rfl ?_
    refine rn 13 rfl ?_
    refine ln rfl rfl ?_
    refine rn 2 rfl ?_
    refine jK h (fun(p:(List TCall))=>(⟨[(4,(V.ptr 0 4 0 0)),(7,(V.map 1)),(12,(V.ptr 2 4 0 0)),(14,(V.ptr 3 4 0 0)),(15,(V.own 4 p.length)),(61,(V.lst 4 (a1.Funcs.map encTFunc))),(62,(iV ((a1.Funcs.length:Nat):Int))),(63,(iV n31))],[(0,(Ob.arr 27 4 [[nV,nV,nV,nV]])),(1,(Ob.map (m7.map encM41_4))),(2,(Ob.arr 27 4 [[(V.lst 2 (a1.Ifaces.map encTIface)),(V.lst 2 (a1.Types.map encTType)),(V.own 5 l32.length),(V.lst 1 (a1.Entries.map encS))]])),(3,(Ob.arr 52 4 [(encTFunc x36)])),(4,(Ob.arr 54 4 (p.map encTCall))),(5,(Ob.arr 52 4 (l32.map encTFunc)))],6⟩:St)) (fun k38 p=>k38 p=some r) (fun k38 h=>?_) ?_
    ·refine rn 1 rfl ?_
     refine wl (A:=x36.Calls) 68 rfl (fun hA51=>?_)
     refine lC (fun(p:Int×(List TCall))=>(⟨[(4,(V.ptr 0 4 0 0)),(7,(V.map 1)),(12,(V.ptr 2 4 0 0)),(14,(V.ptr 3 4 0 0)),(15,(V.own 4 (p.2).length)),(61,(V.lst 4 (a1.Funcs.map encTFunc))),(62,(iV ((a1.Funcs.length:Nat):Int))),(63,(iV n31)),(68,(V.lst 4 (x36.Calls.map encTCall))),(69,(iV ((x36.Calls.length:Nat):Int))),(70,(iV (p.1)))],[(0,(Ob.arr 27 4 [[nV,nV,nV,nV]])),(1,(Ob.map (m7.map encM41_4))),(2,(Ob.arr 27 4 [[(V.lst 2 (a1.Ifaces.map encTIface)),(V.lst 2 (a1.Types.map encTType)),(V.own 5 l32.length),(V.lst 1 (a1.Entries.map encS))]])),(3,(Ob.arr 52 4 [(encTFunc x36)])),(4,(Ob.arr 54 4 ((p.2).map encTCall))),(5,(Ob.arr 52 4 (l32.map encTFunc)))],6⟩:St)) (fun n p=>RG x36.Calls (fun tl nn=>M7_L3 F m7 x36 k38 tl nn p.2=some r) n p.1) (fun p h=>RG.zero h) (x36.Calls.length+1) (0,([]:List TCall)) (RG.start h) (Ghost.trans (ghost_nilE 15 54 4 rfl) (ghost_ren 6 (fun i=>([0,1,2,4,5,3]:List Nat).getD i 0) _ _ (by decide) (EnvSub.get (.cons (Sub.ptr rfl rfl) (.cons (Sub.map rfl rfl) (.cons (Sub.ptr rfl rfl) (.cons (Sub.ptr rfl rfl) (.cons (Sub.ownE rfl rfl (by simp)) (.cons (Sub.imm (Imm.lst _ _)) (.cons (Sub.imm (Imm.con _)) (.cons (Sub.imm (Imm.con _)) (.cons (Sub.imm (Imm.lst _ _)) (.cons (Sub.imm (Imm.con _)) (.cons (Sub.imm (Imm.con _)) .nil)))))))))))) (HpSub.get (.cons rfl (ObSub.box (.cons (Sub.imm (Imm.con _)) (.cons (Sub.imm (Imm.con _)) (.cons (Sub.imm (Imm.con _)) (.cons (Sub.imm (Imm.con _)) .nil))))) (.cons rfl (ObSub.maps encM41_4_imm) (.cons rfl (ObSub.box (.cons (Sub.imm (Imm.lst _ _)) (.cons (Sub.imm (Imm.lst _ _)) (.cons (Sub.own rfl rfl) (.cons (Sub.imm (Imm.lst _ _)) .nil))))) (.cons rfl (ObSub.box (.cons (Sub.imm (Imm.con _)) (.cons (Sub.imm (Imm.con _)) (.cons (Sub.imm (Imm.lst _ _)) (.cons (Sub.imm (Imm.lst _ _)) .nil))))) (.cons rfl (ObSub.rows (rows_imm imms_encTCall)) (.cons rfl (ObSub.rows (rows_imm imms_encTFunc)) .nil))))))) rfl)) (fun n p h=>?_)
     obtain⟨n42,l43⟩:=p
     refine rn 5 rfl ?_
     refine spL rfl (fun hb44=>?_) (fun hb44=>?_)
     ·obtain⟨x45,tl,hx46,h,hk3⟩:=RG.t hA51 h hb44
      unfold M7_L3 at h
      refine rn 6 rfl ?_
      refine ixh hx46 rfl rfl ?_
      refine rn 12 rfl ?_
      refine aops_lookup _ (bV false) (bV ((mget m7 (TSite.mk x36.Name n42)).getD false)) tMap75 tKey41 tZo4 (irel_con _) wants_none rfl (.own rfl) (.agg (cv41 (TSite.mk x36.Name n42)) rfl) ⟨_,rfl⟩ encM41_4_good (encM41_4_look m7 (TSite.mk x36.Name n42)) (getD_map (encM41_4_val) (mget m7 (TSite.mk x36.Name n42)) false) rfl ?_
      refine fo (rn 2 rfl ?_)
      refine jK h (fun(p:(List TCall))=>(⟨[(4,(V.ptr 0 4 0 0)),(7,(V.map 1)),(12,(V.ptr 2 4 0 0)),(14,(V.ptr 3 4 0 0)),(15,(V.own 4 p.length)),(61,(V.lst 4 (a1.Funcs.map encTFunc))),(62,(iV ((a1.Funcs.length:Nat):Int))),(63,(iV n31)),(68,(V.lst 4 (x36.Calls.map encTCall))),(69,(iV ((x36.Calls.length:Nat):Int))),(70,(iV n42))],[(0,(Ob.arr 27 4 [[nV,nV,nV,nV]])),(1,(Ob.map (m7.map encM41_4))),(2,(Ob.arr 27 4 [[(V.lst 2 (a1.Ifaces.map encTIface)),(V.lst 2 (a1.Types.map encTType)),(V.own 5 l32.length),(V.lst 1 (a1.Entries.map encS))]])),(3,(Ob.arr 52 4 [(encTFunc x36)])),(4,(Ob.arr 54 4 (p.map encTCall))),(5,(Ob.arr 52 4 (l32.map encTFunc)))],6⟩:St)) (fun k47 p=>k47 p=some r) (fun k47 h=>?_) ?_
      ·refine spC h rfl (fun hb49 h=>?_) (fun hb49 h=>?_)
       ·refine rn 3 rfl ?_
        refine aops_buildSlice [(0,(V.agg (encTCall x45)))] [(encTCall x45)] tEl50 tZ54 rfl rfl rfl rfl wants_none (evp_cons rfl evp_nil) rfl rfl (by simp) rfl ?_
        refine fo ?_
        refine apO encTCall h rfl rfl rfl rfl rfl rfl rfl rfl (fun h=>?_)
        refine rn 2 rfl ?_
        exact jX (l43++([x45]:List TCall)) h (gr [0,1,2,3,8,5] rfl (hB rfl rfl rfl (hM rfl rfl (hB rfl rfl rfl (hB rfl rfl rfl (hR rfl rfl (hR rfl rfl .nil)))))) rfl)
       refine rn 1 rfl ?_
       exact jX l43 h (gr [0,1,2,3,4,5] rfl (hB rfl rfl rfl (hM rfl rfl (hB rfl rfl rfl (hB rfl rfl rfl (hR rfl rfl (hR rfl rfl .nil)))))) rfl)
      intro l48 h
      refine rn 5 rfl ?_
      exact jX ((w64 (n42+1)),l48) (hk3 _ h) (gr [0,1,2,3,4,5] rfl (hB rfl rfl rfl (hM rfl rfl (hB rfl rfl rfl (hB rfl rfl rfl (hR rfl rfl (hR rfl rfl .nil)))))) rfl)
     replace h:=RG.f h hb44
     unfold M7_L3 at h
     refine rn 1 rfl ?_
     exact jX l43 h (gr [0,1,2,3,4,5] rfl (hB rfl rfl rfl (hM rfl rfl (hB rfl rfl rfl (hB rfl rfl rfl (hR rfl rfl (hR rfl rfl .nil)))))) rfl)
    intro l39 h
    refine rn 10 rfl ?_
    refine aops_ghost (ghost_frzV 4 91 (V.agg [(sV x36.Name),(sV x36.Component),(V.lst 4 (l39.map encTCall)),(V.lst 1 (x36.Makes.map encS))]) rfl (rows_imm imms_encTCall) rfl (Sub.agg (.cons Sub.keep (.cons Sub.keep (.cons (Sub.frzAll (rows:=l39.map encTCall) (List.length_map ..).symm) (.cons Sub.keep .nil)))))) ?_
    refine aops_buildSlice [(0,(V.agg [(sV x36.Name),(sV x36.Component),(V.lst 4 (l39.map encTCall)),(V.lst 1 (x36.Makes.map encS))]))] [[(sV x36.Name),(sV x36.Component),(V.lst 4 (l39.map encTCall)),(V.lst 1 (x36.Makes.map encS))]] tEl24 tZ52 rfl rfl rfl rfl wants_none (evp_cons rfl evp_nil) rfl rfl (by simp) rfl ?_
    refine fo ?_
    refine apO encTFunc h rfl rfl rfl rfl rfl rfl rfl rfl (fun h=>?_)
    refine rn 4 rfl ?_
    exact jX (l32++([(TFunc.mk x36.Name x36.Component l39 x36.Makes)]:List TFunc)) h (gr [0,1,2,7] rfl (hB rfl rfl rfl (hM rfl rfl (hB rfl rfl rfl (hR rfl rfl .nil)))) rfl)
   intro l35 h
   refine rn 4 rfl ?_
   exact jX ((w64 (n31+1)),l35) (hk2 _ h) (gr [0,1,2,3] rfl (hB rfl rfl rfl (hM rfl rfl (hB rfl rfl rfl (hR rfl rfl .nil)))) rfl)
  replace h:=RG.f h hb33
  unfold M7_L2 at h
  refine rn 1 rfl ?_
  exact jX l32 h (gr [0,2,3] rfl (hB rfl rfl rfl (hB rfl rfl rfl (hR rfl rfl .nil))) rfl)
 intro l28 h
 refine rn 6 rfl ?_
 refine awp_ghost (ghost_frzC 2 0 (Ob.arr 27 4 [[(V.lst 2 (a1.Ifaces.map encTIface)),(V.lst 2 (a1.Types.map encTType)),(V.lst 4 (l28.map encTFunc)),(V.lst 1 (a1.Entries.map encS))]]) rfl (rows_imm imms_encTFunc) (ObSub.box (.cons Sub.keep (.cons Sub.keep (.cons (Sub.frzAll (rows:=l28.map encTFunc) (List.length_map ..).symm) (.cons Sub.keep .nil)))))) ?_
 refine fa ?_
 exact rt h rfl
theorem W9(F:Nat)(a1:TGraph)(a2:Int)(a3:(List (List UInt8)))(r:((List (List UInt8))×Int))(h:M9 F a1 a2 a3=some r):Pure Tryz.prog 9 [(V.agg (encTGraph a1)),(iV a2),(V.lst 1 (a3.map encS))] (V.tup [(V.lst 1 ((r.1).map encS)),(iV (r.2))]):=by
 refine pin (fun r=>(V.tup [(V.lst 1 ((r.1).map encS)),(iV (r.2))])) r rfl Tryz.func9 rfl rfl rfl rfl rfl (fun w0 m0 hg=>?_)
 unfold M9 at h
 refine rn 11 rfl ?_
 refine cl h rfl rfl rfl (W34 _ _ _ _) rfl (fun y4 hx5 h=>?_)
 refine rn 12 rfl ?_
 refine spC h rfl (fun hb6 h=>?_) (fun hb6 h=>?_)
 ·refine rn 6 rfl ?_
  exact rt h rfl
 obtain⟨x7,hx8,h⟩:=bind_some h
 refine rn 7 rfl ?_
 refine opC 8 hx8 rfl ?_
 refine rn 2 rfl ?_
 refine cl h rfl rfl rfl (W16 _ _ _) rfl (fun y9 hx10 h=>?_)
 obtain⟨x11,hx12,h⟩:=bind_some h
 refine opO 24 hx12 rfl ?_
 refine rn 3 rfl ?_
 refine ln rfl rfl ?_
 refine rn 2 rfl ?_
 refine jK h (fun(p:(List (List UInt8)))=>(⟨[(10,(V.own 0 p.length))],[(0,(Ob.arr 9 1 (p.map encS)))],1⟩:St)) (fun k13 p=>k13 p=some r) (fun k13 h=>?_) ?_
 ·refine rn 1 rfl ?_
  refine wl (A:=x11.funcs) 27 rfl (fun hA28=>?_)
  refine lC (fun(p:Int×(List (List UInt8)))=>(⟨[(3,(V.ptr 0 4 0 0)),(10,(V.own 1 (p.2).length)),(27,(V.lst 1 (x11.funcs.map encB))),(28,(iV ((x11.funcs.length:Nat):Int))),(29,(iV (p.1)))],[(0,(Ob.arr 27 4 [(encTGraph a1)])),(1,(Ob.arr 9 1 ((p.2).map encS)))],2⟩:St)) (fun n p=>RG x11.funcs (fun tl nn=>M9_L1 F a1 k13 tl nn p.2=some r) n p.1) (fun p h=>RG.zero h) (x11.funcs.length+1) (0,([]:List (List UInt8))) (RG.start h) (Ghost.trans (ghost_nilE 10 9 1 rfl) (ghost_ren 2 (fun i=>([0,1]:List Nat).getD i 0) _ _ (by decide) (EnvSub.get (.cons (Sub.ptr rfl rfl) (.cons (Sub.ownE rfl rfl (by simp)) (.cons (Sub.imm (Imm.lst _ _)) (.cons (Sub.imm (Imm.con _)) (.cons (Sub.imm (Imm.con _)) .nil)))))) (HpSub.get (.cons rfl (ObSub.box (.cons (Sub.imm (Imm.lst _ _)) (.cons (Sub.imm (Imm.lst _ _)) (.cons (Sub.imm (Imm.lst _ _)) (.cons (Sub.imm (Imm.lst _ _)) .nil))))) (.cons rfl (ObSub.rows (rows_imm imms_encS)) .nil))) rfl)) (fun n p h=>?_)
  obtain⟨n17,l18⟩:=p
  refine rn 5 rfl ?_
  refine spL rfl (fun hb19=>?_) (fun hb19=>?_)
  ·obtain⟨x20,tl,hx21,h,hk1⟩:=RG.t hA28 h hb19
   unfold M9_L1 at h
   refine rn 6 rfl ?_
   refine ixh hx21 rfl rfl ?_
   refine rn 8 rfl ?_
   refine jK h (fun(p:(List (List UInt8)))=>(⟨[(3,(V.ptr 0 4 0 0)),(10,(V.own 1 p.length)),(27,(V.lst 1 (x11.funcs.map encB))),(28,(iV ((x11.funcs.length:Nat):Int))),(29,(iV n17))],[(0,(Ob.arr 27 4 [(encTGraph a1)])),(1,(Ob.arr 9 1 (p.map encS)))],2⟩:St)) (fun k22 p=>k22 p=some r) (fun k22 h=>?_) ?_
   ·refine spC h rfl (fun hb24 h=>?_) (fun hb24 h=>?_)
    ·refine rn 5 rfl ?_
     refine ixl h rfl rfl (fun x25 hx26 h=>?_)
     refine rn 2 rfl ?_
     refine aops_buildSlice [(0,(sV x25.Name))] [[(sV x25.Name)]] tEl25 tZ9 rfl rfl rfl rfl wants_none (evp_cons rfl evp_nil) rfl rfl (by simp) rfl ?_
     refine fo ?_
     refine apO encS h rfl rfl rfl rfl rfl rfl rfl rfl (fun h=>?_)
     refine rn 2 rfl ?_
     exact jX (l18++([x25.Name]:List (List UInt8))) h (gr [0,3] rfl (hB rfl rfl rfl (hR rfl rfl .nil)) rfl)
    refine rn 1 rfl ?_
    exact jX l18 h (gr [0,1] rfl (hB rfl rfl rfl (hR rfl rfl .nil)) rfl)
   intro l23 h
   refine rn 5 rfl ?_
   exact jX ((w64 (n17+1)),l23) (hk1 _ h) (gr [0,1] rfl (hB rfl rfl rfl (hR rfl rfl .nil)) rfl)
  replace h:=RG.f h hb19
  unfold M9_L1 at h
  refine rn 1 rfl ?_
  exact jX l18 h (gr [1] rfl (hR rfl rfl .nil) rfl)
 intro l14 h
 refine rn 6 rfl ?_
 refine awp_ghost (ghost_frzEs 0 [6,10,45] rfl (rows_imm imms_encS) (List.forall_mem_cons.2 ⟨rfl,(List.forall_mem_cons.2 ⟨rfl,(List.forall_mem_cons.2 ⟨rfl,(fun _ hx=>nomatch hx)⟩)⟩)⟩) (List.length_map ..).symm) ?_
 refine fa ?_
 exact rt h rfl
theorem W33(F:Nat)(a1:(List (List UInt8)))(a2:(List (List UInt8)))(r:Bool)(h:M33 F a1 a2=some r):Pure Tryz.prog 33 [(V.lst 1 (a1.map encS)),(V.lst 1 (a2.map encS))] (bV r):=by
 refine pin (fun r=>(bV r)) r rfl Tryz.func33 rfl rfl rfl rfl rfl (fun w0 m0 hg=>?_)
 unfold M33 at h
 refine rn 8 rfl ?_
 refine ln rfl rfl ?_
 refine rn 1 rfl ?_
 refine ln rfl rfl ?_
 refine rn 2 rfl ?_
 refine spC h rfl (fun hb3 h=>?_) (fun hb3 h=>?_)
 ·refine rn 4 rfl ?_
  exact rt h rfl
 refine rn 5 rfl ?_
 refine ln rfl rfl ?_
 refine rn 2 rfl ?_
 refine jK h (fun _:Unit=>(⟨[],[],0⟩:St)) (fun k4 (_:Unit)=>k4=some r) (fun k4 h=>?_) ?_
 ·refine rn 1 rfl ?_
  refine wl (A:=a1) 0 rfl (fun hA13=>?_)
  refine lC (fun(p:Int)=>(⟨[(0,(V.lst 1 (a1.map encS))),(1,(V.lst 1 (a2.map encS))),(12,(iV ((a1.length:Nat):Int))),(13,(iV p))],[],0⟩:St)) (fun n p=>RG a1 (fun tl nn=>M33_L1 F a2 k4 tl nn=some r) n p) (fun p h=>RG.zero h) (a1.length+1) 0 (RG.start h) (g0 rfl rfl) (fun n n6 h=>?_)
  refine rn 5 rfl ?_
  refine spL rfl (fun hb7=>?_) (fun hb7=>?_)
  ·obtain⟨x8,tl,hx9,h,hk1⟩:=RG.t hA13 h hb7
   unfold M33_L1 at h
   obtain⟨x10,hx11,h⟩:=bind_some h
   refine rn 9 rfl ?_
   refine dr mixed (vs 2 rfl (iD hx9 rfl rfl rfl (vs 3 rfl (iD hx11 rfl rfl rfl (vs 2 rfl .nil))))) (by kernel_rfl) ?_
   refine spC h rfl (fun hb12 h=>?_) (fun hb12 h=>?_)
   ·refine rn 4 rfl ?_
    exact rt h rfl
   refine rn 6 rfl ?_
   exact jX (w64 (n6+1)) (hk1 _ h) (g0 rfl rfl)
  replace h:=RG.f h hb7
  unfold M33_L1 at h
  refine rn 1 rfl ?_
  exact jX () h (g0 rfl rfl)
 intro _ h
 refine rn 4 rfl ?_
 exact rt h rfl
set_option maxHeartbeats 4000000 in
theorem W8(F:Nat)(r:Bool)(h:M8 F  = some r):Pure Tryz.prog 8 [] (bV r):=by
 refine pin (fun r=>(bV r)) r rfl Tryz.func8 rfl rfl rfl rfl rfl (fun w0 m0 hg=>?_)
 unfold M8 at h
 refine rn 7 rfl ?_
 refine aops_buildSlice [(0,(V.agg [(iV 1),(sV ([98]:List UInt8)),(sV ([]:List UInt8)),(sV ([]:List UInt8))]))] [[(iV 1),(sV ([98]:List UInt8)),(sV ([]:List UInt8)),(sV ([]:List UInt8))]] tEl50 tZ54 rfl rfl rfl rfl wants_none (evp_cons rfl evp_nil) rfl rfl (by simp) rfl ?_
 refine fo (rn 2 rfl ?_)
 refine aops_ghost (ghost_frzV 0 6 (V.agg [(sV ([97]:List UInt8)),(sV ([120]:List UInt8)),(V.lst 4 (([(TCall.mk 1 ([98]:List UInt8) ([]:List UInt8) ([]:List UInt8))]:List TCall).map encTCall)),nV]) rfl (imms_rows (.cons (.cons (Imm.con _) (.cons (Imm.con _) (.cons (Imm.con _) (.cons (Imm.con _) .nil)))) .nil)) rfl (Sub.agg (.cons Sub.keep (.cons Sub.keep (.cons (Sub.frzAll (rows:=([(TCall.mk 1 ([98]:List UInt8) ([]:List UInt8) ([]:List UInt8))]:List TCall).map encTCall) rfl) (.cons Sub.keep .nil)))))) ?_
 refine aops_ghost (ghost_tell 6 (V.agg [(sV ([97]:List UInt8)),(sV ([120]:List UInt8)),(V.lst 4 (([(TCall.mk 1 ([98]:List UInt8) ([]:List UInt8) ([]:List UInt8))]:List TCall).map encTCall)),(V.lst 1 (([]:List (List UInt8)).map encS))]) rfl (Sub.agg (.cons Sub.keepI (.cons Sub.keepI (.cons Sub.keepI (.cons (Sub.nil _) .nil)))))) ?_
 refine aops_ghost (ghost_tell 7 (V.agg [(sV ([98]:List UInt8)),(sV ([121]:List UInt8)),(V.lst 4 (([]:List TCall).map encTCall)),(V.lst 1 (([]:List (List UInt8)).map encS))]) rfl (Sub.agg (.cons Sub.keepI (.cons Sub.keepI (.cons (Sub.nil _) (.cons (Sub.nil _) .nil)))))) ?_
 refine aops_buildSlice [(0,(V.agg [(sV ([97]:List UInt8)),(sV ([120]:List UInt8)),(V.lst 4 (([(TCall.mk 1 ([98]:List UInt8) ([]:List UInt8) ([]:List UInt8))]:List TCall).map encTCall)),(V.lst 1 (([]:List (List UInt8)).map encS))])),(1,(V.agg [(sV ([98]:List UInt8)),(sV ([121]:List UInt8)),(V.lst 4 (([]:List TCall).map encTCall)),(V.lst 1 (([]:List (List UInt8)).map encS))]))] [[(sV ([97]:List UInt8)),(sV ([120]:List UInt8)),(V.lst 4 (([(TCall.mk 1 ([98]:List UInt8) ([]:List UInt8) ([]:List UInt8))]:List TCall).map encTCall)),(V.lst 1 (([]:List (List UInt8)).map encS))],[(sV ([98]:List UInt8)),(sV ([121]:List UInt8)),(V.lst 4 (([]:List TCall).map encTCall)),(V.lst 1 (([]:List (List UInt8)).map encS))]] tEl24 tZ52 rfl rfl rfl rfl wants_none (evp_cons rfl (evp_cons rfl evp_nil)) rfl rfl (by simp) rfl ?_
 refine aops_buildSlice [(0,(sV ([97]:List UInt8)))] [[(sV ([97]:List UInt8))]] tEl25 tZ9 rfl rfl rfl rfl wants_none (evp_cons rfl evp_nil) rfl rfl (by simp) rfl ?_
 refine bk h (fun y1 hx2 h=>?_)
 refine fo (rn 7 rfl ?_)
 refine aops_ghost (ghost_frzV 1 12 (V.agg [nV,nV,(V.lst 4 (([(TFunc.mk ([97]:List UInt8) ([120]:List UInt8) ([(TCall.mk 1 ([98]:List UInt8) ([]:List UInt8) ([]:List UInt8))]:List TCall) ([]:List (List UInt8))),(TFunc.mk ([98]:List UInt8) ([121]:List UInt8) ([]:List TCall) ([]:List (List UInt8)))]:List TFunc).map encTFunc)),(V.own 2 1)]) rfl (imms_rows (.cons (.cons (Imm.con _) (.cons (Imm.con _) (.cons (Imm.lst _ _) (.cons (Imm.lst _ _) .nil)))) (.cons (.cons (Imm.con _) (.cons (Imm.con _) (.cons (Imm.lst _ _) (.cons (Imm.lst _ _) .nil)))) .nil))) rfl (Sub.agg (.cons Sub.keep (.cons Sub.keep (.cons (Sub.frzAll (rows:=([(TFunc.mk ([97]:List UInt8) ([120]:List UInt8) ([(TCall.mk 1 ([98]:List UInt8) ([]:List UInt8) ([]:List UInt8))]:List TCall) ([]:List (List UInt8))),(TFunc.mk ([98]:List UInt8) ([121]:List UInt8) ([]:List TCall) ([]:List (List UInt8)))]:List TFunc).map encTFunc) rfl) (.cons Sub.keep .nil)))))) ?_
 refine aops_ghost (ghost_frzV 2 12 (V.agg [nV,nV,(V.lst 4 (([(TFunc.mk ([97]:List UInt8) ([120]:List UInt8) ([(TCall.mk 1 ([98]:List UInt8) ([]:List UInt8) ([]:List UInt8))]:List TCall) ([]:List (List UInt8))),(TFunc.mk ([98]:List UInt8) ([121]:List UInt8) ([]:List TCall) ([]:List (List UInt8)))]:List TFunc).map encTFunc)),(V.lst 1 (([([97]:List UInt8)]:List (List UInt8)).map encS))]) rfl (imms_rows (.cons (.cons (Imm.con _) .nil) .nil)) rfl (Sub.agg (.cons Sub.keep (.cons Sub.keep (.cons Sub.keep (.cons (Sub.frzAll (rows:=([([97]:List UInt8)]:List (List UInt8)).map encS) rfl) .nil)))))) ?_
 refine aops_ghost (ghost_tell 12 (V.agg [(V.lst 2 (([]:List TIface).map encTIface)),(V.lst 2 (([]:List TType).map encTType)),(V.lst 4 (([(TFunc.mk ([97]:List UInt8) ([120]:List UInt8) ([(TCall.mk 1 ([98]:List UInt8) ([]:List UInt8) ([]:List UInt8))]:List TCall) ([]:List (List UInt8))),(TFunc.mk ([98]:List UInt8) ([121]:List UInt8) ([]:List TCall) ([]:List (List UInt8)))]:List TFunc).map encTFunc)),(V.lst 1 (([([97]:List UInt8)]:List (List UInt8)).map encS))]) rfl (Sub.agg (.cons (Sub.nil _) (.cons (Sub.nil _) (.cons Sub.keepI (.cons Sub.keepI .nil)))))) ?_
 refine aops_call (V.tup [(V.lst 1 ((y1.1).map encS)),(iV (y1.2))]) [(V.agg [(V.lst 2 (([]:List TIface).map encTIface)),(V.lst 2 (([]:List TType).map encTType)),(V.lst 4 (([(TFunc.mk ([97]:List UInt8) ([120]:List UInt8) ([(TCall.mk 1 ([98]:List UInt8) ([]:List UInt8) ([]:List UInt8))]:List TCall) ([]:List (List UInt8))),(TFunc.mk ([98]:List UInt8) ([121]:List UInt8) ([]:List TCall) ([]:List (List UInt8)))]:List TFunc).map encTFunc)),(V.lst 1 (([([97]:List UInt8)]:List (List UInt8)).map encS))]),(iV 1),nV] fOk9 wants_none (evm_cons rfl (evm_cons rfl (evm_cons rfl evm_nil))) (.cons (Imm.agg (.cons (Imm.lst _ _) (.cons (Imm.lst _ _) (.cons (Imm.lst _ _) (.cons (Imm.lst _ _) .nil))))) (.cons (Imm.con _) (.cons (Imm.con _) .nil))) (pure_nilAt 2 rfl rfl (W9 F (TGraph.mk ([]:List TIface) ([]:List TType) ([(TFunc.mk ([97]:List UInt8) ([120]:List UInt8) ([(TCall.mk 1 ([98]:List UInt8) ([]:List UInt8) ([]:List UInt8))]:List TCall) ([]:List (List UInt8))),(TFunc.mk ([98]:List UInt8) ([121]:List UInt8) ([]:List TCall) ([]:List (List UInt8)))]:List TFunc) ([([97]:List UInt8)]:List (List UInt8))) 1 ([]:(List (List UInt8))) y1 hx2)) rfl ?_
 refine fo (rn 11 rfl ?_)
 refine spO 18 h rfl (fun hb3 h=>?_) (fun hb3 h=>?_)
 ·refine rn 1 rfl ?_
  refine aops_buildSlice [(0,(sV ([97]:List UInt8))),(1,(sV ([98]:List UInt8)))] [[(sV ([97]:List UInt8))],[(sV ([98]:List UInt8))]] tEl25 tZ9 rfl rfl rfl rfl (wants_some (c:=true) (b:=true) 18 rfl rfl rfl) (evp_cons rfl (evp_cons rfl evp_nil)) rfl rfl (by simp) rfl ?_
  refine bk h (fun y4 hx5 h=>?_)
  refine aops_lend_call (bV y4) [(V.lst 1 ((y1.1).map encS)),(V.lst 1 (([([97]:List UInt8),([98]:List UInt8)]:List (List UInt8)).map encS))] fOk33 (ghost_frzE 4 20 rfl (imms_rows (.cons (.cons (Imm.con _) .nil) (.cons (.cons (Imm.con _) .nil) .nil))) rfl rfl) (Flat.con _) (wants_some (c:=true) (b:=true) 18 rfl rfl rfl) (evm_cons rfl (evm_cons rfl evm_nil)) (.cons (Imm.lst _ _) (.cons (Imm.lst _ _) .nil)) (W33 F (y1.1) ([([97]:List UInt8),([98]:List UInt8)]:List (List UInt8)) y4 hx5) rfl ?_
  refine fo (rn 3 rfl ?_)
  exact rt h rfl
 refine rn 6 rfl ?_
 exact rt h rfl
theorem W3(F:Nat)(a1:TGraph)(a2:(List (List UInt8)))(a3:(List UInt8))(a4:(List TSite))(r:Bool)(h:M3 F a1 a2 a3 a4=some r):Pure Tryz.prog 3 [(V.agg (encTGraph a1)),(V.lst 1 (a2.map encS)),(sV a3),(V.lst 2 (a4.map encTSite))] (bV r):=by
 refine pin (fun r=>(bV r)) r rfl Tryz.func3 rfl rfl rfl rfl rfl (fun w0 m0 hg=>?_)
 unfold M3 at h
 refine rn 10 rfl ?_
 refine cl h rfl rfl rfl (W5 _ _ _ _) rfl (fun y5 hx6 h=>?_)
 refine rn 12 rfl ?_
 refine cl h rfl rfl rfl (W6 _ _ _) rfl (fun y7 hx8 h=>?_)
 refine rn 13 rfl ?_
 refine spO 34 h rfl (fun hb9 h=>?_) (fun hb9 h=>?_)
 ·refine rn 19 rfl ?_
  refine cl h rfl rfl rfl (W7 _ _ _) rfl (fun y10 hx11 h=>?_)
  refine rn 13 rfl ?_
  refine spO 57 h rfl (fun hb12 h=>?_) (fun hb12 h=>?_)
  ·refine cl h rfl rfl rfl (W8 _) rfl (fun y13 hx14 h=>?_)
   refine rn 3 rfl ?_
   exact rt h rfl
  refine rn 4 rfl ?_
  exact rt h rfl
 refine rn 4 rfl ?_
 refine spO 38 h rfl (fun hb15 h=>?_) (fun hb15 h=>?_)
 ·refine rn 15 rfl ?_
  refine cl h rfl rfl rfl (W7 _ _ _) rfl (fun y16 hx17 h=>?_)
  refine rn 13 rfl ?_
  refine spO 57 h rfl (fun hb18 h=>?_) (fun hb18 h=>?_)
  ·refine cl h rfl rfl rfl (W8 _) rfl (fun y19 hx20 h=>?_)
   refine rn 3 rfl ?_
   exact rt h rfl
  refine rn 4 rfl ?_
  exact rt h rfl
 refine rn 2 rfl ?_
 refine spO 40 h rfl (fun hb21 h=>?_) (fun hb21 h=>?_)
 ·refine rn 1 rfl ?_
  refine ln rfl rfl ?_
  refine rn 1 rfl ?_
  refine ln rfl rfl ?_
  refine rn 4 rfl ?_
  refine spC h rfl (fun hb22 h=>?_) (fun hb22 h=>?_)
  ·refine rn 4 rfl ?_
   refine cl h rfl rfl rfl (W7 _ _ _) rfl (fun y23 hx24 h=>?_)
   refine rn 13 rfl ?_
   refine spO 57 h rfl (fun hb25 h=>?_) (fun hb25 h=>?_)
   ·refine cl h rfl rfl rfl (W8 _) rfl (fun y26 hx27 h=>?_)
    refine rn 3 rfl ?_
    exact rt h rfl
   refine rn 4 rfl ?_
   exact rt h rfl
  refine rn 5 rfl ?_
  refine cl h rfl rfl rfl (W9 _ _ _ _) rfl (fun y28 hx29 h=>?_)
  refine rn 11 rfl ?_
  refine spO 68 h rfl (fun hb30 h=>?_) (fun hb30 h=>?_)
  ·refine rn 2 rfl ?_
   refine cl h rfl rfl rfl (W10 _ _ _) rfl (fun y31 hx32 h=>?_)
   refine rn 2 rfl ?_
   refine spO 73 h rfl (fun hb33 h=>?_) (fun hb33 h=>?_)
   ·refine cl h rfl rfl rfl (W8 _) rfl (fun y34 hx35 h=>?_)
    refine rn 3 rfl ?_
    exact rt h rfl
   refine rn 4 rfl ?_
   exact rt h rfl
  refine rn 9 rfl ?_
  exact rt h rfl
 refine rn 14 rfl ?_
 refine cl h rfl rfl rfl (W9 _ _ _ _) rfl (fun y36 hx37 h=>?_)
 refine rn 11 rfl ?_
 refine spO 68 h rfl (fun hb38 h=>?_) (fun hb38 h=>?_)
 ·refine rn 2 rfl ?_
  refine cl h rfl rfl rfl (W10 _ _ _) rfl (fun y39 hx40 h=>?_)
  refine rn 2 rfl ?_
  refine spO 73 h rfl (fun hb41 h=>?_) (fun hb41 h=>?_)
  ·refine cl h rfl rfl rfl (W8 _) rfl (fun y42 hx43 h=>?_)
   refine rn 3 rfl ?_
   exact rt h rfl
  refine rn 4 rfl ?_
  exact rt h rfl
 refine rn 9 rfl ?_
 exact rt h rfl
end Go.Proofs.YtcihpgamojpcnaaGreat
