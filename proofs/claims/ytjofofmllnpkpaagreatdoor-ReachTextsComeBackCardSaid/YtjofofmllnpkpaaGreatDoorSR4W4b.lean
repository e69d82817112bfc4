/- Part of the proof: R4W4b. -/
import Derived.Test.YtjofofmllnpkpaaGreatDoorSPvQ
import Derived.Test.YtjofofmllnpkpaaGreatDoorSEI
import Derived.Test.YtjofofmllnpkpaaGreatDoorSR4W4a
import Derived.KernelRfl
namespace Go.Proofs.YtjofofmllnpkpaaGreatDoor
open Go Go.Pv
set_option linter.unusedVariables false
set_option maxRecDepth 100000
variable{mx:Int}
theorem W110_B(R110:Int->Int->Int->(List TMethod)->Option (List TMethod))(hR110:∀(a1:Int) (a2:Int) (a3:Int) (a4:List TMethod) (r:(List TMethod)),R110 a1 a2 a3 a4=some r->MutG (gl mx) Tryz.prog 110 [(V.own 0 a4.length),(iV a1),(iV a2),(iV a3),(V.fn (.func 41) [] [])] 1 [(0,(Ob.arr 64 2 (a4.map encTMethod)))] (resV []) 1 [(0,(Ob.arr 64 2 (r.map encTMethod)))])(F:Nat)(a1:Int)(a2:Int)(a3:Int)(a4:List TMethod)(r:(List TMethod))(h:M110_B R110 F a1 a2 a3 a4=some r):MutG (gl mx) Tryz.prog 110 [(V.own 0 a4.length),(iV a1),(iV a2),(iV a3),(V.fn (.func 41) [] [])] 1 [(0,(Ob.arr 64 2 (a4.map encTMethod)))] (resV []) 1 [(0,(Ob.arr 64 2 (r.map encTMethod)))]:=by
 refine mut_enter Tryz.func110 rfl rfl (l:=[]) rfl rfl [(0,(V.own 0 a4.length)),(1,(iV a1)),(2,(iV a2)),(3,(iV a3)),(4,(V.fn (.func 41) [] []))] rfl (fun w0 m0 β0 hg=>en ?_)
 unfold M110_B at h
 refine rn 8 rfl ?_
 refine spC h rfl (fun hb134 h=>?_) (fun hb134 h=>?_)
 ·refine rn 11 rfl ?_
  refine jK h (fun(p:Int)=>(⟨[(0,(V.own 0 a4.length)),(1,(iV a1)),(10,(iV p))],[(0,(Ob.arr 64 2 (a4.map encTMethod)))],1⟩:St)) (fun k135 p=>k135 p=some r) (fun k135 h=>?_) ?_
  ·refine rn 1 rfl ?_
   refine lC (fun(p:Int×Int)=>(⟨[(0,(V.own 0 a4.length)),(1,(iV a1)),(4,(V.fn (.func 41) [] [])),(10,(iV (p.1))),(11,(iV (p.2)))],[(0,(Ob.arr 64 2 (a4.map encTMethod)))],1⟩:St)) (fun n p=>M110_L1 F a1 a4 k135 n p.1 p.2=some r) (fun p h=>by simp[M110_L1] at h) F (a2,a3) h (gr [0] rfl (hR rfl rfl .nil) rfl) (fun n p h=>?_)
   obtain⟨n139,n140⟩:=p
   unfold M110_L1 at h
   refine rn 7 rfl ?_
   refine spC h rfl (fun hb141 h=>?_) (fun hb141 h=>?_)
   ·obtain⟨x142,hx143,h⟩:=bind_some h
    obtain⟨x144,hx145,h⟩:=bind_some h
    obtain⟨y146,hx147,h⟩:=bind_some h
    refine rn 13 rfl ?_
    refine dr mixed (vs 3 rfl (oD (a:=a4) hx143 rfl rfl rfl rfl (lD hx143 rfl rfl rfl rfl rfl (vs 2 rfl (oD (a:=a4) hx145 rfl rfl rfl rfl (lD hx145 rfl rfl rfl rfl rfl (cD rfl rfl rfl rfl (W41 _ _ _ _ hx147) rfl (vs 1 rfl .nil)))))))) (by kernel_rfl) ?_
    refine jK h (fun(p:Int×Int)=>(⟨[(0,(V.own 0 a4.length)),(1,(iV a1)),(4,(V.fn (.func 41) [] [])),(10,(iV (p.1))),(11,(iV (p.2)))],[(0,(Ob.arr 64 2 (a4.map encTMethod)))],1⟩:St)) (fun k148 p=>k148 p.1 p.2=some r) (fun k148 h=>?_) ?_
    ·refine spC h rfl (fun hb151 h=>?_) (fun hb151 h=>?_)
     ·refine rn 5 rfl ?_
      exact jX ((w64 ((w64 (Int.fdiv (IntKind.wrap .u64 (w64 (n139+n140))) (2 ^ (min (Int.toNat 1) (IntKind.bits .u64)))))+1)),n140) h (gr [0] rfl (hR rfl rfl .nil) rfl)
     refine rn 4 rfl ?_
     exact jX (n139,(w64 (Int.fdiv (IntKind.wrap .u64 (w64 (n139+n140))) (2 ^ (min (Int.toNat 1) (IntKind.bits .u64)))))) h (gr [0] rfl (hR rfl rfl .nil) rfl)
    rintro⟨n149,n150⟩ h
    refine rn 1 rfl ?_
    exact jX (n149,n150) h (gr [0] rfl (hR rfl rfl .nil) rfl)
   refine rn 1 rfl ?_
   exact jX n139 h (gr [0] rfl (hR rfl rfl .nil) rfl)
  intro n136 h
  refine rn 6 rfl ?_
  refine jK h (fun(p:(List TMethod))=>(⟨[],[(0,(Ob.arr 64 2 (p.map encTMethod)))],1⟩:St)) (fun k152 p=>k152 p=some r) (fun k152 h=>?_) ?_
  ·refine rn 1 rfl ?_
   refine lC (fun(p:Int×(List TMethod))=>(⟨[(0,(V.own 0 (p.2).length)),(10,(iV n136)),(13,(iV (p.1)))],[(0,(Ob.arr 64 2 ((p.2).map encTMethod)))],1⟩:St)) (fun n p=>M110_L2 F n136 k152 n p.1 p.2=some r) (fun p h=>by simp[M110_L2] at h) F (a1,a4) h (gr [0] rfl (hR rfl rfl .nil) rfl) (fun n p h=>?_)
   obtain⟨n156,l157⟩:=p
   unfold M110_L2 at h
   refine rn 8 rfl ?_
   refine spC h rfl (fun hb158 h=>?_) (fun hb158 h=>?_)
   ·obtain⟨x159,hx160,h⟩:=bind_some h
    obtain⟨x161,hx162,h⟩:=bind_some h
    obtain⟨x163,hx164,h⟩:=bind_some h
    obtain⟨x165,hx166,h⟩:=bind_some h
    refine rn 3 rfl ?_
    refine dr mixed (vs 8 rfl (oD (a:=l157) hx160 rfl rfl rfl rfl (lD hx160 rfl rfl rfl rfl rfl (vs 2 rfl (oD (a:=l157) hx162 rfl rfl rfl rfl (lD hx162 rfl rfl rfl rfl rfl (oD (a:=l157) hx164 rfl rfl rfl rfl (xD (OD.mk [(75,(V.ptr 0 2 n156.toNat 0)),(70,(V.agg (encTMethod x159)))] [(0,(Ob.arr 64 2 (l157.map encTMethod)))] [] [(0,(Ob.arr 64 2 ((l157.set n156.toNat x159).map encTMethod)))]) ⟨⟨rfl,rfl,trivial⟩,⟨rfl,trivial⟩⟩ (by exact fun S hn h hh=>aops_store (encTMethod x159) ((l157.set n156.toNat x159).map encTMethod) tS64 wants_none h.1 h.2.1 rfl rfl hh.1 (idx_map encTMethod hx164) rfl (map_set encTMethod l157 _ x159) (aops_nil ⟨rfl,rfl⟩)) rfl (xD (OD.mk [(63,(V.own 0 l157.length)),(65,(iV (w64 (n156+1))))] [] [(76,(V.ptr 0 2 (w64 (n156+1)).toNat 0))] []) ⟨⟨rfl,rfl,trivial⟩,trivial⟩ (by exact fun S hn h hh=>aops_index_own tSl59 wants_none h.1 h.2.1 (idx_some hx166).1 (by simpa using idx_lt hx166) rfl (aops_nil ⟨rfl,rfl⟩)) rfl (xD (OD.mk [(76,(V.ptr 0 2 (w64 (n156+1)).toNat 0)),(74,(V.agg (encTMethod x161)))] [(0,(Ob.arr 64 2 ((l157.set n156.toNat x159).map encTMethod)))] [] [(0,(Ob.arr 64 2 (((l157.set n156.toNat x159).set (w64 (n156+1)).toNat x161).map encTMethod)))]) ⟨⟨rfl,rfl,trivial⟩,⟨rfl,trivial⟩⟩ (by exact fun S hn h hh=>aops_store (encTMethod x161) (((l157.set n156.toNat x159).set (w64 (n156+1)).toNat x161).map encTMethod) tS64 wants_none h.1 h.2.1 rfl rfl hh.1 (idx_map encTMethod hx166) rfl (map_set encTMethod (l157.set n156.toNat x159) _ x161) (aops_nil ⟨rfl,rfl⟩)) rfl .nil)))))))))) (by kernel_rfl) ?_
    refine rn 6 rfl ?_
    exact jX ((w64 (n156+1)),((l157.set n156.toNat x159).set (w64 (n156+1)).toNat x161)) h (ghost_ren 1 (fun i=>([0]:List Nat).getD i 0) _ _ (by decide) (EnvSub.get (.cons (Sub.ownE rfl rfl (by simp)) (.cons (Sub.imm (Imm.con _)) (.cons (Sub.imm (Imm.con _)) .nil)))) (HpSub.get (.cons rfl (ObSub.rows (rows_imm imms_encTMethod)) .nil)) rfl)
   refine rn 1 rfl ?_
   exact jX l157 h (gr [0] rfl (hR rfl rfl .nil) rfl)
  intro l153 h
  replace h:=Option.some.inj h
  subst h
  exact wR ⟨.inl rfl,[],(gr [0] rfl (hR rfl rfl .nil) rfl),.nil⟩
 refine rn 9 rfl ?_
 refine spC h rfl (fun hb167 h=>?_) (fun hb167 h=>?_)
 ·refine rn 11 rfl ?_
  refine jK h (fun(p:Int)=>(⟨[(0,(V.own 0 a4.length)),(2,(iV a2)),(14,(iV p))],[(0,(Ob.arr 64 2 (a4.map encTMethod)))],1⟩:St)) (fun k168 p=>k168 p=some r) (fun k168 h=>?_) ?_
  ·refine rn 1 rfl ?_
   refine lC (fun(p:Int×Int)=>(⟨[(0,(V.own 0 a4.length)),(2,(iV a2)),(4,(V.fn (.func 41) [] [])),(14,(iV (p.1))),(15,(iV (p.2)))],[(0,(Ob.arr 64 2 (a4.map encTMethod)))],1⟩:St)) (fun n p=>M110_L3 F a2 a4 k168 n p.1 p.2=some r) (fun p h=>by simp[M110_L3] at h) F (a1,a2) h (gr [0] rfl (hR rfl rfl .nil) rfl) (fun n p h=>?_)
   obtain⟨n172,n173⟩:=p
   unfold M110_L3 at h
   refine rn 7 rfl ?_
   refine spC h rfl (fun hb174 h=>?_) (fun hb174 h=>?_)
   ·obtain⟨x175,hx176,h⟩:=bind_some h
    obtain⟨x177,hx178,h⟩:=bind_some h
    obtain⟨y179,hx180,h⟩:=bind_some h
    refine rn 13 rfl ?_
    refine dr mixed (vs 3 rfl (oD (a:=a4) hx176 rfl rfl rfl rfl (lD hx176 rfl rfl rfl rfl rfl (vs 2 rfl (oD (a:=a4) hx178 rfl rfl rfl rfl (lD hx178 rfl rfl rfl rfl rfl (cD rfl rfl rfl rfl (W41 _ _ _ _ hx180) rfl (vs 2 rfl .nil)))))))) (by kernel_rfl) ?_
    refine jK h (fun(p:Int×Int)=>(⟨[(0,(V.own 0 a4.length)),(2,(iV a2)),(4,(V.fn (.func 41) [] [])),(14,(iV (p.1))),(15,(iV (p.2)))],[(0,(Ob.arr 64 2 (a4.map encTMethod)))],1⟩:St)) (fun k181 p=>k181 p.1 p.2=some r) (fun k181 h=>?_) ?_
    ·refine spC h rfl (fun hb184 h=>?_) (fun hb184 h=>?_)
     ·refine rn 5 rfl ?_
      exact jX ((w64 ((w64 (Int.fdiv (IntKind.wrap .u64 (w64 (n172+n173))) (2 ^ (min (Int.toNat 1) (IntKind.bits .u64)))))+1)),n173) h (gr [0] rfl (hR rfl rfl .nil) rfl)
     refine rn 4 rfl ?_
     exact jX (n172,(w64 (Int.fdiv (IntKind.wrap .u64 (w64 (n172+n173))) (2 ^ (min (Int.toNat 1) (IntKind.bits .u64)))))) h (gr [0] rfl (hR rfl rfl .nil) rfl)
    rintro⟨n182,n183⟩ h
    refine rn 1 rfl ?_
    exact jX (n182,n183) h (gr [0] rfl (hR rfl rfl .nil) rfl)
   refine rn 1 rfl ?_
   exact jX n172 h (gr [0] rfl (hR rfl rfl .nil) rfl)
  intro n169 h
  refine rn 6 rfl ?_
  refine jK h (fun(p:(List TMethod))=>(⟨[],[(0,(Ob.arr 64 2 (p.map encTMethod)))],1⟩:St)) (fun k185 p=>k185 p=some r) (fun k185 h=>?_) ?_
  ·refine rn 1 rfl ?_
   refine lC (fun(p:Int×(List TMethod))=>(⟨[(0,(V.own 0 (p.2).length)),(14,(iV n169)),(17,(iV (p.1)))],[(0,(Ob.arr 64 2 ((p.2).map encTMethod)))],1⟩:St)) (fun n p=>M110_L4 F n169 k185 n p.1 p.2=some r) (fun p h=>by simp[M110_L4] at h) F (a2,a4) h (gr [0] rfl (hR rfl rfl .nil) rfl) (fun n p h=>?_)
   obtain⟨n189,l190⟩:=p
   unfold M110_L4 at h
   refine rn 7 rfl ?_
   refine spC h rfl (fun hb191 h=>?_) (fun hb191 h=>?_)
   ·obtain⟨x192,hx193,h⟩:=bind_some h
    obtain⟨x194,hx195,h⟩:=bind_some h
    obtain⟨x196,hx197,h⟩:=bind_some h
    obtain⟨x198,hx199,h⟩:=bind_some h
    refine rn 3 rfl ?_
    refine dr mixed (vs 8 rfl (oD (a:=l190) hx193 rfl rfl rfl rfl (lD hx193 rfl rfl rfl rfl rfl (vs 2 rfl (oD (a:=l190) hx195 rfl rfl rfl rfl (lD hx195 rfl rfl rfl rfl rfl (oD (a:=l190) hx197 rfl rfl rfl rfl (xD (OD.mk [(127,(V.ptr 0 2 n189.toNat 0)),(122,(V.agg (encTMethod x192)))] [(0,(Ob.arr 64 2 (l190.map encTMethod)))] [] [(0,(Ob.arr 64 2 ((l190.set n189.toNat x192).map encTMethod)))]) ⟨⟨rfl,rfl,trivial⟩,⟨rfl,trivial⟩⟩ (by exact fun S hn h hh=>aops_store (encTMethod x192) ((l190.set n189.toNat x192).map encTMethod) tS64 wants_none h.1 h.2.1 rfl rfl hh.1 (idx_map encTMethod hx197) rfl (map_set encTMethod l190 _ x192) (aops_nil ⟨rfl,rfl⟩)) rfl (xD (OD.mk [(115,(V.own 0 l190.length)),(117,(iV (w64 (n189 - 1))))] [] [(128,(V.ptr 0 2 (w64 (n189 - 1)).toNat 0))] []) ⟨⟨rfl,rfl,trivial⟩,trivial⟩ (by exact fun S hn h hh=>aops_index_own tSl59 wants_none h.1 h.2.1 (idx_some hx199).1 (by simpa using idx_lt hx199) rfl (aops_nil ⟨rfl,rfl⟩)) rfl (xD (OD.mk [(128,(V.ptr 0 2 (w64 (n189 - 1)).toNat 0)),(126,(V.agg (encTMethod x194)))] [(0,(Ob.arr 64 2 ((l190.set n189.toNat x192).map encTMethod)))] [] [(0,(Ob.arr 64 2 (((l190.set n189.toNat x192).set (w64 (n189 - 1)).toNat x194).map encTMethod)))]) ⟨⟨rfl,rfl,trivial⟩,⟨rfl,trivial⟩⟩ (by exact fun S hn h hh=>aops_store (encTMethod x194) (((l190.set n189.toNat x192).set (w64 (n189 - 1)).toNat x194).map encTMethod) tS64 wants_none h.1 h.2.1 rfl rfl hh.1 (idx_map encTMethod hx199) rfl (map_set encTMethod (l190.set n189.toNat x192) _ x194) (aops_nil ⟨rfl,rfl⟩)) rfl .nil)))))))))) (by kernel_rfl) ?_
    refine rn 6 rfl ?_
    exact jX ((w64 (n189 - 1)),((l190.set n189.toNat x192).set (w64 (n189 - 1)).toNat x194)) h (ghost_ren 1 (fun i=>([0]:List Nat).getD i 0) _ _ (by decide) (EnvSub.get (.cons (Sub.ownE rfl rfl (by simp)) (.cons (Sub.imm (Imm.con _)) (.cons (Sub.imm (Imm.con _)) .nil)))) (HpSub.get (.cons rfl (ObSub.rows (rows_imm imms_encTMethod)) .nil)) rfl)
   refine rn 1 rfl ?_
   exact jX l190 h (gr [0] rfl (hR rfl rfl .nil) rfl)
  intro l186 h
  replace h:=Option.some.inj h
  subst h
  exact wR ⟨.inl rfl,[],(gr [0] rfl (hR rfl rfl .nil) rfl),.nil⟩
 refine rn 30 rfl ?_
 refine jK h (fun(p:Int×Int)=>(⟨[(0,(V.own 0 a4.length)),(1,(iV a1)),(2,(iV a2)),(3,(iV a3)),(4,(V.fn (.func 41) [] [])),(18,(iV (w64 (Int.fdiv (IntKind.wrap .u64 (w64 (a1+a3))) (2 ^ (min (Int.toNat 1) (IntKind.bits .u64))))))),(19,(iV (w64 ((w64 (Int.fdiv (IntKind.wrap .u64 (w64 (a1+a3))) (2 ^ (min (Int.toNat 1) (IntKind.bits .u64)))))+a2)))),(20,(iV (p.1))),(21,(iV (p.2)))],[(0,(Ob.arr 64 2 (a4.map encTMethod)))],1⟩:St)) (fun k200 p=>k200 p.1 p.2=some r) (fun k200 h=>?_) ?_
 ·refine spC h rfl (fun hb203 h=>?_) (fun hb203 h=>?_)
  ·refine rn 11 rfl ?_
   exact jX ((w64 ((w64 ((w64 (Int.fdiv (IntKind.wrap .u64 (w64 (a1+a3))) (2 ^ (min (Int.toNat 1) (IntKind.bits .u64)))))+a2)) - a3)),(w64 (Int.fdiv (IntKind.wrap .u64 (w64 (a1+a3))) (2 ^ (min (Int.toNat 1) (IntKind.bits .u64)))))) h (gr [0] rfl (hR rfl rfl .nil) rfl)
  refine rn 9 rfl ?_
  exact jX (a1,a2) h (gr [0] rfl (hR rfl rfl .nil) rfl)
 rintro⟨n201,n202⟩ h
 refine rn 7 rfl ?_
 refine jK h (fun(p:Int)=>(⟨[(0,(V.own 0 a4.length)),(1,(iV a1)),(2,(iV a2)),(3,(iV a3)),(4,(V.fn (.func 41) [] [])),(18,(iV (w64 (Int.fdiv (IntKind.wrap .u64 (w64 (a1+a3))) (2 ^ (min (Int.toNat 1) (IntKind.bits .u64))))))),(19,(iV (w64 ((w64 (Int.fdiv (IntKind.wrap .u64 (w64 (a1+a3))) (2 ^ (min (Int.toNat 1) (IntKind.bits .u64)))))+a2)))),(20,(iV p))],[(0,(Ob.arr 64 2 (a4.map encTMethod)))],1⟩:St)) (fun k204 p=>k204 p=some r) (fun k204 h=>?_) ?_
 ·refine rn 1 rfl ?_
  refine lC (fun(p:Int×Int)=>(⟨[(0,(V.own 0 a4.length)),(1,(iV a1)),(2,(iV a2)),(3,(iV a3)),(4,(V.fn (.func 41) [] [])),(18,(iV (w64 (Int.fdiv (IntKind.wrap .u64 (w64 (a1+a3))) (2 ^ (min (Int.toNat 1) (IntKind.bits .u64))))))),(19,(iV (w64 ((w64 (Int.fdiv (IntKind.wrap .u64 (w64 (a1+a3))) (2 ^ (min (Int.toNat 1) (IntKind.bits .u64)))))+a2)))),(20,(iV (p.1))),(21,(iV (p.2))),(22,(iV (w64 ((w64 ((w64 (Int.fdiv (IntKind.wrap .u64 (w64 (a1+a3))) (2 ^ (min (Int.toNat 1) (IntKind.bits .u64)))))+a2)) - 1))))],[(0,(Ob.arr 64 2 (a4.map encTMethod)))],1⟩:St)) (fun n p=>M110_L5 F a1 a2 a3 a4 k204 n p.1 p.2=some r) (fun p h=>by simp[M110_L5] at h) F (n201,n202) h (gr [0] rfl (hR rfl rfl .nil) rfl) (fun n p h=>?_)
  obtain⟨n208,n209⟩:=p
  unfold M110_L5 at h
  refine rn 7 rfl ?_
  refine spC h rfl (fun hb210 h=>?_) (fun hb210 h=>?_)
  ·obtain⟨x211,hx212,h⟩:=bind_some h
   obtain⟨x213,hx214,h⟩:=bind_some h
   obtain⟨y215,hx216,h⟩:=bind_some h
   refine rn 13 rfl ?_
   refine dr mixed (vs 5 rfl (oD (a:=a4) hx212 rfl rfl rfl rfl (lD hx212 rfl rfl rfl rfl rfl (vs 2 rfl (oD (a:=a4) hx214 rfl rfl rfl rfl (lD hx214 rfl rfl rfl rfl rfl (cD rfl rfl rfl rfl (W41 _ _ _ _ hx216) rfl (vs 2 rfl .nil)))))))) (by kernel_rfl) ?_
   refine jK h (fun(p:Int×Int)=>(⟨[(0,(V.own 0 a4.length)),(1,(iV a1)),(2,(iV a2)),(3,(iV a3)),(4,(V.fn (.func 41) [] [])),(18,(iV (w64 (Int.fdiv (IntKind.wrap .u64 (w64 (a1+a3))) (2 ^ (min (Int.toNat 1) (IntKind.bits .u64))))))),(19,(iV (w64 ((w64 (Int.fdiv (IntKind.wrap .u64 (w64 (a1+a3))) (2 ^ (min (Int.toNat 1) (IntKind.bits .u64)))))+a2)))),(20,(iV (p.1))),(21,(iV (p.2))),(22,(iV (w64 ((w64 ((w64 (Int.fdiv (IntKind.wrap .u64 (w64 (a1+a3))) (2 ^ (min (Int.toNat 1) (IntKind.bits .u64)))))+a2)) - 1))))],[(0,(Ob.arr 64 2 (a4.map encTMethod)))],1⟩:St)) (fun k217 p=>k217 p.1 p.2=some r) (fun k217 h=>?_) ?_
   ·refine spC h rfl (fun hb220 h=>?_) (fun hb220 h=>?_)
    ·refine rn 5 rfl ?_
     exact jX ((w64 ((w64 (Int.fdiv (IntKind.wrap .u64 (w64 (n208+n209))) (2 ^ (min (Int.toNat 1) (IntKind.bits .u64)))))+1)),n209) h (gr [0] rfl (hR rfl rfl .nil) rfl)
    refine rn 4 rfl ?_
    exact jX (n208,(w64 (Int.fdiv (IntKind.wrap .u64 (w64 (n208+n209))) (2 ^ (min (Int.toNat 1) (IntKind.bits .u64)))))) h (gr [0] rfl (hR rfl rfl .nil) rfl)
   rintro⟨n218,n219⟩ h
   refine rn 1 rfl ?_
   exact jX (n218,n219) h (gr [0] rfl (hR rfl rfl .nil) rfl)
  refine rn 1 rfl ?_
  exact jX n208 h (gr [0] rfl (hR rfl rfl .nil) rfl)
 intro n205 h
 refine rn 14 rfl ?_
 refine spO 181 h rfl (fun hb221 h=>?_) (fun hb221 h=>?_)
 ·refine rn 5 rfl ?_
  refine jK h (fun(p:(List TMethod))=>(⟨[(0,(V.own 0 p.length)),(1,(iV a1)),(3,(iV a3)),(4,(V.fn (.func 41) [] [])),(18,(iV (w64 (Int.fdiv (IntKind.wrap .u64 (w64 (a1+a3))) (2 ^ (min (Int.toNat 1) (IntKind.bits .u64))))))),(20,(iV n205)),(24,(iV (w64 ((w64 ((w64 (Int.fdiv (IntKind.wrap .u64 (w64 (a1+a3))) (2 ^ (min (Int.toNat 1) (IntKind.bits .u64)))))+a2)) - n205))))],[(0,(Ob.arr 64 2 (p.map encTMethod)))],1⟩:St)) (fun k222 p=>k222 p=some r) (fun k222 h=>?_) ?_
  ·refine spC h rfl (fun hb224 h=>?_) (fun hb224 h=>?_)
   ·obtain⟨y225,hx226,h⟩:=bind_some h
    refine rn 6 rfl ?_
    refine ck h (fun hc227 h=>?_)
    refine aops_mcallS (V.tup []) [(V.own 0 a4.length),(iV n205),(iV a2),(iV (w64 ((w64 ((w64 (Int.fdiv (IntKind.wrap .u64 (w64 (a1+a3))) (2 ^ (min (Int.toNat 1) (IntKind.bits .u64)))))+a2)) - n205))),(V.fn (.func 41) [] [])] (fun i=>([0]:List Nat).getD i 0) (fun i=>([0]:List Nat).getD i 0) 1 1 [(0,(Ob.arr 64 2 (y225.map encTMethod)))] fOk139 wants_none rfl (evm_cons rfl (evm_cons rfl (evm_cons rfl (evm_cons rfl (evm_cons rfl evm_nil))))) (.cons (Sub.own rfl rfl) (.cons (Sub.imm (Imm.con _)) (.cons (Sub.imm (Imm.con _)) (.cons (Sub.imm (Imm.con _)) (.cons (Sub.imm (Imm.fn .nil .nil)) .nil))))) (.cons rfl (ObSub.rows (rows_imm imms_encTMethod)) .nil) (W139 F n205 a2 (w64 ((w64 ((w64 (Int.fdiv (IntKind.wrap .u64 (w64 (a1+a3))) (2 ^ (min (Int.toNat 1) (IntKind.bits .u64)))))+a2)) - n205)) a4 y225 hx226) rfl rfl rfl rfl (Sub.immT (Imm.tup .nil)) (.cons rfl (ObSub.rowsT (rows_imm imms_encTMethod)) .nil) _ rfl ?_
    refine aops_ghost (ghost_tell 0 (V.own 0 y225.length) rfl (Sub.ownI hc227)) ?_
    refine aops_ghost (ghost_tell 186 (V.own 0 y225.length) rfl (Sub.ownI hc227)) ?_
    refine fo (rn 1 rfl ?_)
    exact jX y225 h (gr [0] rfl (hR rfl rfl .nil) rfl)
   refine rn 1 rfl ?_
   exact jX a4 h (gr [0] rfl (hR rfl rfl .nil) rfl)
  intro l223 h
  refine rn 7 rfl ?_
  refine spO 195 h rfl (fun hb228 h=>?_) (fun hb228 h=>?_)
  ·refine rn 5 rfl ?_
   refine jK h (fun(p:(List TMethod))=>(⟨[(0,(V.own 0 p.length)),(3,(iV a3)),(4,(V.fn (.func 41) [] [])),(18,(iV (w64 (Int.fdiv (IntKind.wrap .u64 (w64 (a1+a3))) (2 ^ (min (Int.toNat 1) (IntKind.bits .u64))))))),(24,(iV (w64 ((w64 ((w64 (Int.fdiv (IntKind.wrap .u64 (w64 (a1+a3))) (2 ^ (min (Int.toNat 1) (IntKind.bits .u64)))))+a2)) - n205))))],[(0,(Ob.arr 64 2 (p.map encTMethod)))],1⟩:St)) (fun k229 p=>k229 p=some r) (fun k229 h=>?_) ?_
   ·refine spC h rfl (fun hb231 h=>?_) (fun hb231 h=>?_)
    ·obtain⟨y232,hx233,h⟩:=bind_some h
     refine rn 6 rfl ?_
     refine ck h (fun hc234 h=>?_)
     refine aops_mcallS (V.tup []) [(V.own 0 l223.length),(iV a1),(iV n205),(iV (w64 (Int.fdiv (IntKind.wrap .u64 (w64 (a1+a3))) (2 ^ (min (Int.toNat 1) (IntKind.bits .u64)))))),(V.fn (.func 41) [] [])] (fun i=>([0]:List Nat).getD i 0) (fun i=>([0]:List Nat).getD i 0) 1 1 [(0,(Ob.arr 64 2 (y232.map encTMethod)))] fOk110 wants_none rfl (evm_cons rfl (evm_cons rfl (evm_cons rfl (evm_cons rfl (evm_cons rfl evm_nil))))) (.cons (Sub.own rfl rfl) (.cons (Sub.imm (Imm.con _)) (.cons (Sub.imm (Imm.con _)) (.cons (Sub.imm (Imm.con _)) (.cons (Sub.imm (Imm.fn .nil .nil)) .nil))))) (.cons rfl (ObSub.rows (rows_imm imms_encTMethod)) .nil) (hR110 a1 n205 (w64 (Int.fdiv (IntKind.wrap .u64 (w64 (a1+a3))) (2 ^ (min (Int.toNat 1) (IntKind.bits .u64))))) l223 _ hx233) rfl rfl rfl rfl (Sub.immT (Imm.tup .nil)) (.cons rfl (ObSub.rowsT (rows_imm imms_encTMethod)) .nil) _ rfl ?_
     refine aops_ghost (ghost_tell 0 (V.own 0 y232.length) rfl (Sub.ownI hc234)) ?_
     refine aops_ghost (ghost_tell 200 (V.own 0 y232.length) rfl (Sub.ownI hc234)) ?_
     refine fo (rn 1 rfl ?_)
     exact jX y232 h (gr [0] rfl (hR rfl rfl .nil) rfl)
    refine rn 1 rfl ?_
    exact jX l223 h (gr [0] rfl (hR rfl rfl .nil) rfl)
   intro l230 h
   refine rn 6 rfl ?_
   refine spO 209 h rfl (fun hb235 h=>?_) (fun hb235 h=>?_)
   ·refine rn 5 rfl ?_
    refine spC h rfl (fun hb236 h=>?_) (fun hb236 h=>?_)
    ·obtain⟨y237,hx238,h⟩:=bind_some h
     refine rn 6 rfl ?_
     refine ck h (fun hc239 h=>?_)
     refine aops_mcallS (V.tup []) [(V.own 0 l230.length),(iV (w64 (Int.fdiv (IntKind.wrap .u64 (w64 (a1+a3))) (2 ^ (min (Int.toNat 1) (IntKind.bits .u64)))))),(iV (w64 ((w64 ((w64 (Int.fdiv (IntKind.wrap .u64 (w64 (a1+a3))) (2 ^ (min (Int.toNat 1) (IntKind.bits .u64)))))+a2)) - n205))),(iV a3),(V.fn (.func 41) [] [])] (fun i=>([0]:List Nat).getD i 0) (fun i=>([0]:List Nat).getD i 0) 1 1 [(0,(Ob.arr 64 2 (y237.map encTMethod)))] fOk110 wants_none rfl (evm_cons rfl (evm_cons rfl (evm_cons rfl (evm_cons rfl (evm_cons rfl evm_nil))))) (.cons (Sub.own rfl rfl) (.cons (Sub.imm (Imm.con _)) (.cons (Sub.imm (Imm.con _)) (.cons (Sub.imm (Imm.con _)) (.cons (Sub.imm (Imm.fn .nil .nil)) .nil))))) (.cons rfl (ObSub.rows (rows_imm imms_encTMethod)) .nil) (hR110 (w64 (Int.fdiv (IntKind.wrap .u64 (w64 (a1+a3))) (2 ^ (min (Int.toNat 1) (IntKind.bits .u64))))) (w64 ((w64 ((w64 (Int.fdiv (IntKind.wrap .u64 (w64 (a1+a3))) (2 ^ (min (Int.toNat 1) (IntKind.bits .u64)))))+a2)) - n205)) a3 l230 _ hx238) rfl rfl rfl rfl (Sub.immT (Imm.tup .nil)) (.cons rfl (ObSub.rowsT (rows_imm imms_encTMethod)) .nil) _ rfl ?_
     refine aops_ghost (ghost_tell 0 (V.own 0 y237.length) rfl (Sub.ownI hc239)) ?_
     refine aops_ghost (ghost_tell 214 (V.own 0 y237.length) rfl (Sub.ownI hc239)) ?_
     refine fo (rn 1 rfl ?_)
     replace h:=Option.some.inj h
     subst h
     exact wE ⟨.inr rfl,[],(gr [0] rfl (hR rfl rfl .nil) rfl),.nil⟩
    refine rn 1 rfl ?_
    replace h:=Option.some.inj h
    subst h
    exact wE ⟨.inr rfl,[],(gr [0] rfl (hR rfl rfl .nil) rfl),.nil⟩
   refine rn 7 rfl ?_
   replace h:=Option.some.inj h
   subst h
   exact wE ⟨.inr rfl,[],(gr [0] rfl (hR rfl rfl .nil) rfl),.nil⟩
  refine rn 13 rfl ?_
  refine spO 209 h rfl (fun hb240 h=>?_) (fun hb240 h=>?_)
  ·refine rn 5 rfl ?_
   refine spC h rfl (fun hb241 h=>?_) (fun hb241 h=>?_)
   ·obtain⟨y242,hx243,h⟩:=bind_some h
    refine rn 6 rfl ?_
    refine ck h (fun hc244 h=>?_)
    refine aops_mcallS (V.tup []) [(V.own 0 l223.length),(iV (w64 (Int.fdiv (IntKind.wrap .u64 (w64 (a1+a3))) (2 ^ (min (Int.toNat 1) (IntKind.bits .u64)))))),(iV (w64 ((w64 ((w64 (Int.fdiv (IntKind.wrap .u64 (w64 (a1+a3))) (2 ^ (min (Int.toNat 1) (IntKind.bits .u64)))))+a2)) - n205))),(iV a3),(V.fn (.func 41) [] [])] (fun i=>([0]:List Nat).getD i 0) (fun i=>([0]:List Nat).getD i 0) 1 1 [(0,(Ob.arr 64 2 (y242.map encTMethod)))] fOk110 wants_none rfl (evm_cons rfl (evm_cons rfl (evm_cons rfl (evm_cons rfl (evm_cons rfl evm_nil))))) (.cons (Sub.own rfl rfl) (.cons (Sub.imm (Imm.con _)) (.cons (Sub.imm (Imm.con _)) (.cons (Sub.imm (Imm.con _)) (.cons (Sub.imm (Imm.fn .nil .nil)) .nil))))) (.cons rfl (ObSub.rows (rows_imm imms_encTMethod)) .nil) (hR110 (w64 (Int.fdiv (IntKind.wrap .u64 (w64 (a1+a3))) (2 ^ (min (Int.toNat 1) (IntKind.bits .u64))))) (w64 ((w64 ((w64 (Int.fdiv (IntKind.wrap .u64 (w64 (a1+a3))) (2 ^ (min (Int.toNat 1) (IntKind.bits .u64)))))+a2)) - n205)) a3 l223 _ hx243) rfl rfl rfl rfl (Sub.immT (Imm.tup .nil)) (.cons rfl (ObSub.rowsT (rows_imm imms_encTMethod)) .nil) _ rfl ?_
    refine aops_ghost (ghost_tell 0 (V.own 0 y242.length) rfl (Sub.ownI hc244)) ?_
    refine aops_ghost (ghost_tell 214 (V.own 0 y242.length) rfl (Sub.ownI hc244)) ?_
    refine fo (rn 1 rfl ?_)
    replace h:=Option.some.inj h
    subst h
    exact wE ⟨.inr rfl,[],(gr [0] rfl (hR rfl rfl .nil) rfl),.nil⟩
   refine rn 1 rfl ?_
   replace h:=Option.some.inj h
   subst h
   exact wE ⟨.inr rfl,[],(gr [0] rfl (hR rfl rfl .nil) rfl),.nil⟩
  refine rn 7 rfl ?_
  replace h:=Option.some.inj h
  subst h
  exact wE ⟨.inr rfl,[],(gr [0] rfl (hR rfl rfl .nil) rfl),.nil⟩
 refine rn 14 rfl ?_
 refine spO 195 h rfl (fun hb245 h=>?_) (fun hb245 h=>?_)
 ·refine rn 5 rfl ?_
  refine jK h (fun(p:(List TMethod))=>(⟨[(0,(V.own 0 p.length)),(3,(iV a3)),(4,(V.fn (.func 41) [] [])),(18,(iV (w64 (Int.fdiv (IntKind.wrap .u64 (w64 (a1+a3))) (2 ^ (min (Int.toNat 1) (IntKind.bits .u64))))))),(24,(iV (w64 ((w64 ((w64 (Int.fdiv (IntKind.wrap .u64 (w64 (a1+a3))) (2 ^ (min (Int.toNat 1) (IntKind.bits .u64)))))+a2)) - n205))))],[(0,(Ob.arr 64 2 (p.map encTMethod)))],1⟩:St)) (fun k246 p=>k246 p=some r) (fun k246 h=>?_) ?_
  ·refine spC h rfl (fun hb248 h=>?_) (fun hb248 h=>?_)
   ·obtain⟨y249,hx250,h⟩:=bind_some h
    refine rn 6 rfl ?_
    refine ck h (fun hc251 h=>?_)
    refine aops_mcallS (V.tup []) [(V.own 0 a4.length),(iV a1),(iV n205),(iV (w64 (Int.fdiv (IntKind.wrap .u64 (w64 (a1+a3))) (2 ^ (min (Int.toNat 1) (IntKind.bits .u64)))))),(V.fn (.func 41) [] [])] (fun i=>([0]:List Nat).getD i 0) (fun i=>([0]:List Nat).getD i 0) 1 1 [(0,(Ob.arr 64 2 (y249.map encTMethod)))] fOk110 wants_none rfl (evm_cons rfl (evm_cons rfl (evm_cons rfl (evm_cons rfl (evm_cons rfl evm_nil))))) (.cons (Sub.own rfl rfl) (.cons (Sub.imm (Imm.con _)) (.cons (Sub.imm (Imm.con _)) (.cons (Sub.imm (Imm.con _)) (.cons (Sub.imm (Imm.fn .nil .nil)) .nil))))) (.cons rfl (ObSub.rows (rows_imm imms_encTMethod)) .nil) (hR110 a1 n205 (w64 (Int.fdiv (IntKind.wrap .u64 (w64 (a1+a3))) (2 ^ (min (Int.toNat 1) (IntKind.bits .u64))))) a4 _ hx250) rfl rfl rfl rfl (Sub.immT (Imm.tup .nil)) (.cons rfl (ObSub.rowsT (rows_imm imms_encTMethod)) .nil) _ rfl ?_
    refine aops_ghost (ghost_tell 0 (V.own 0 y249.length) rfl (Sub.ownI hc251)) ?_
    refine aops_ghost (ghost_tell 200 (V.own 0 y249.length) rfl (Sub.ownI hc251)) ?_
    refine fo (rn 1 rfl ?_)
    exact jX y249 h (gr [0] rfl (hR rfl rfl .nil) rfl)
   refine rn 1 rfl ?_
   exact jX a4 h (gr [0] rfl (hR rfl rfl .nil) rfl)
  intro l247 h
  refine rn 6 rfl ?_
  refine spO 209 h rfl (fun hb252 h=>?_) (fun hb252 h=>?_)
  ·refine rn 5 rfl ?_
   refine spC h rfl (fun hb253 h=>?_) (fun hb253 h=>?_)
   ·obtain⟨y254,hx255,h⟩:=bind_some h
    refine rn 6 rfl ?_
    refine ck h (fun hc256 h=>?_)
    refine aops_mcallS (V.tup []) [(V.own 0 l247.length),(iV (w64 (Int.fdiv (IntKind.wrap .u64 (w64 (a1+a3))) (2 ^ (min (Int.toNat 1) (IntKind.bits .u64)))))),(iV (w64 ((w64 ((w64 (Int.fdiv (IntKind.wrap .u64 (w64 (a1+a3))) (2 ^ (min (Int.toNat 1) (IntKind.bits .u64)))))+a2)) - n205))),(iV a3),(V.fn (.func 41) [] [])] (fun i=>([0]:List Nat).getD i 0) (fun i=>([0]:List Nat).getD i 0) 1 1 [(0,(Ob.arr 64 2 (y254.map encTMethod)))] fOk110 wants_none rfl (evm_cons rfl (evm_cons rfl (evm_cons rfl (evm_cons rfl (evm_cons rfl evm_nil))))) (.cons (Sub.own rfl rfl) (.cons (Sub.imm (Imm.con _)) (.cons (Sub.imm (Imm.con _)) (.cons (Sub.imm (Imm.con _)) (.cons (Sub.imm (Imm.fn .nil .nil)) .nil))))) (.cons rfl (ObSub.rows (rows_imm imms_encTMethod)) .nil) (hR110 (w64 (Int.fdiv (IntKind.wrap .u64 (w64 (a1+a3))) (2 ^ (min (Int.toNat 1) (IntKind.bits .u64))))) (w64 ((w64 ((w64 (Int.fdiv (IntKind.wrap .u64 (w64 (a1+a3))) (2 ^ (min (Int.toNat 1) (IntKind.bits .u64)))))+a2)) - n205)) a3 l247 _ hx255) rfl rfl rfl rfl (Sub.immT (Imm.tup .nil)) (.cons rfl (ObSub.rowsT (rows_imm imms_encTMethod)) .nil) _ rfl ?_
    refine aops_ghost (ghost_tell 0 (V.own 0 y254.length) rfl (Sub.ownI hc256)) ?_
    refine aops_ghost (ghost_tell 214 (V.own 0 y254.length) rfl (Sub.ownI hc256)) ?_
    refine fo (rn 1 rfl ?_)
    replace h:=Option.some.inj h
    subst h
    exact wE ⟨.inr rfl,[],(gr [0] rfl (hR rfl rfl .nil) rfl),.nil⟩
   refine rn 1 rfl ?_
   replace h:=Option.some.inj h
   subst h
   exact wE ⟨.inr rfl,[],(gr [0] rfl (hR rfl rfl .nil) rfl),.nil⟩
  refine rn 7 rfl ?_
  replace h:=Option.some.inj h
  subst h
  exact wE ⟨.inr rfl,[],(gr [0] rfl (hR rfl rfl .nil) rfl),.nil⟩
 refine rn 13 rfl ?_
 refine spO 209 h rfl (fun hb257 h=>?_) (fun hb257 h=>?_)
 ·refine rn 5 rfl ?_
  refine spC h rfl (fun hb258 h=>?_) (fun hb258 h=>?_)
  ·obtain⟨y259,hx260,h⟩:=bind_some h
   refine rn 6 rfl ?_
   refine ck h (fun hc261 h=>?_)
   refine aops_mcallS (V.tup []) [(V.own 0 a4.length),(iV (w64 (Int.fdiv (IntKind.wrap .u64 (w64 (a1+a3))) (2 ^ (min (Int.toNat 1) (IntKind.bits .u64)))))),(iV (w64 ((w64 ((w64 (Int.fdiv (IntKind.wrap .u64 (w64 (a1+a3))) (2 ^ (min (Int.toNat 1) (IntKind.bits .u64)))))+a2)) - n205))),(iV a3),(V.fn (.func 41) [] [])] (fun i=>([0]:List Nat).getD i 0) (fun i=>([0]:List Nat).getD i 0) 1 1 [(0,(Ob.arr 64 2 (y259.map encTMethod)))] fOk110 wants_none rfl (evm_cons rfl (evm_cons rfl (evm_cons rfl (evm_cons rfl (evm_cons rfl evm_nil))))) (.cons (Sub.own rfl rfl) (.cons (Sub.imm (Imm.con _)) (.cons (Sub.imm (Imm.con _)) (.cons (Sub.imm (Imm.con _)) (.cons (Sub.imm (Imm.fn .nil .nil)) .nil))))) (.cons rfl (ObSub.rows (rows_imm imms_encTMethod)) .nil) (hR110 (w64 (Int.fdiv (IntKind.wrap .u64 (w64 (a1+a3))) (2 ^ (min (Int.toNat 1) (IntKind.bits .u64))))) (w64 ((w64 ((w64 (Int.fdiv (IntKind.wrap .u64 (w64 (a1+a3))) (2 ^ (min (Int.toNat 1) (IntKind.bits .u64)))))+a2)) - n205)) a3 a4 _ hx260) rfl rfl rfl rfl (Sub.immT (Imm.tup .nil)) (.cons rfl (ObSub.rowsT (rows_imm imms_encTMethod)) .nil) _ rfl ?_
   refine aops_ghost (ghost_tell 0 (V.own 0 y259.length) rfl (Sub.ownI hc261)) ?_
   refine aops_ghost (ghost_tell 214 (V.own 0 y259.length) rfl (Sub.ownI hc261)) ?_
   refine fo (rn 1 rfl ?_)
   replace h:=Option.some.inj h
   subst h
   exact wE ⟨.inr rfl,[],(gr [0] rfl (hR rfl rfl .nil) rfl),.nil⟩
  refine rn 1 rfl ?_
  replace h:=Option.some.inj h
  subst h
  exact wE ⟨.inr rfl,[],(gr [0] rfl (hR rfl rfl .nil) rfl),.nil⟩
 refine rn 7 rfl ?_
 replace h:=Option.some.inj h
 subst h
 exact wE ⟨.inr rfl,[],(gr [0] rfl (hR rfl rfl .nil) rfl),.nil⟩
theorem W110:∀(F:Nat) (a1:Int) (a2:Int) (a3:Int) (a4:List TMethod) (r:(List TMethod)) (h:M110 F a1 a2 a3 a4=some r),MutG (gl mx) Tryz.prog 110 [(V.own 0 a4.length),(iV a1),(iV a2),(iV a3),(V.fn (.func 41) [] [])] 1 [(0,(Ob.arr 64 2 (a4.map encTMethod)))] (resV []) 1 [(0,(Ob.arr 64 2 (r.map encTMethod)))]:=by
 intro F
 induction F with
 |zero=>intros;simp[M110] at *
 |succ F ih=>exact fun a1 a2 a3 a4 r h=>W110_B (M110 F) ih F a1 a2 a3 a4 r h
theorem W76(F:Nat)(a1:Int)(a2:List TMethod)(r:(List TMethod))(h:M76 F a1 a2=some r):MutG (gl mx) Tryz.prog 76 [(V.own 0 a2.length),(iV a1),(V.fn (.func 41) [] [])] 1 [(0,(Ob.arr 64 2 (a2.map encTMethod)))] (resV []) 1 [(0,(Ob.arr 64 2 (r.map encTMethod)))]:=by
 refine mut_enter Tryz.func76 rfl rfl (l:=[]) rfl rfl [(0,(V.own 0 a2.length)),(1,(iV a1)),(2,(V.fn (.func 41) [] []))] rfl (fun w0 m0 β0 hg=>en ?_)
 unfold M76 at h
 refine rn 11 rfl ?_
 refine jK h (fun(p:Int×(List TMethod))=>(⟨[(0,(V.own 0 (p.2).length)),(1,(iV a1)),(2,(V.fn (.func 41) [] [])),(6,(iV 20)),(7,(iV (p.1)))],[(0,(Ob.arr 64 2 ((p.2).map encTMethod)))],1⟩:St)) (fun k46 p=>k46 p.1 p.2=some r) (fun k46 h=>?_) ?_
 ·refine rn 1 rfl ?_
  refine lC (fun(p:Int×Int×(List TMethod))=>(⟨[(0,(V.own 0 (p.2.2).length)),(1,(iV a1)),(2,(V.fn (.func 41) [] [])),(6,(iV 20)),(7,(iV (p.1))),(8,(iV (p.2.1)))],[(0,(Ob.arr 64 2 ((p.2.2).map encTMethod)))],1⟩:St)) (fun n p=>M76_L1 F a1 k46 n p.1 p.2.1 p.2.2=some r) (fun p h=>by simp[M76_L1] at h) F (0,20,a2) h (gr [0] rfl (hR rfl rfl .nil) rfl) (fun n p h=>?_)
  obtain⟨n52,n53,l54⟩:=p
  unfold M76_L1 at h
  refine rn 7 rfl ?_
  refine spC h rfl (fun hb55 h=>?_) (fun hb55 h=>?_)
  ·obtain⟨y56,hx57,h⟩:=bind_some h
   refine rn 8 rfl ?_
   refine ck h (fun hc58 h=>?_)
   refine aops_mcallS (V.tup []) [(V.own 0 l54.length),(iV n52),(iV n53),(V.fn (.func 41) [] [])] (fun i=>([0]:List Nat).getD i 0) (fun i=>([0]:List Nat).getD i 0) 1 1 [(0,(Ob.arr 64 2 (y56.map encTMethod)))] fOk109 wants_none rfl (evm_cons rfl (evm_cons rfl (evm_cons rfl (evm_cons rfl evm_nil)))) (.cons (Sub.own rfl rfl) (.cons (Sub.imm (Imm.con _)) (.cons (Sub.imm (Imm.con _)) (.cons (Sub.imm (Imm.fn .nil .nil)) .nil)))) (.cons rfl (ObSub.rows (rows_imm imms_encTMethod)) .nil) (W109 F n52 n53 l54 y56 hx57) rfl rfl rfl rfl (Sub.immT (Imm.tup .nil)) (.cons rfl (ObSub.rowsT (rows_imm imms_encTMethod)) .nil) _ rfl ?_
   refine aops_ghost (ghost_tell 0 (V.own 0 y56.length) rfl (Sub.ownI hc58)) ?_
   refine aops_ghost (ghost_tell 14 (V.own 0 y56.length) rfl (Sub.ownI hc58)) ?_
   refine fo (rn 13 rfl ?_)
   exact jX (n53,(w64 (n53+20)),y56) h (gr [0] rfl (hR rfl rfl .nil) rfl)
  refine rn 1 rfl ?_
  exact jX (n52,l54) h (gr [0] rfl (hR rfl rfl .nil) rfl)
 rintro⟨n47,l48⟩ h
 obtain⟨y59,hx60,h⟩:=bind_some h
 refine rn 6 rfl ?_
 refine ck h (fun hc61 h=>?_)
 refine aops_mcallS (V.tup []) [(V.own 0 l48.length),(iV n47),(iV a1),(V.fn (.func 41) [] [])] (fun i=>([0]:List Nat).getD i 0) (fun i=>([0]:List Nat).getD i 0) 1 1 [(0,(Ob.arr 64 2 (y59.map encTMethod)))] fOk109 wants_none rfl (evm_cons rfl (evm_cons rfl (evm_cons rfl (evm_cons rfl evm_nil)))) (.cons (Sub.own rfl rfl) (.cons (Sub.imm (Imm.con _)) (.cons (Sub.imm (Imm.con _)) (.cons (Sub.imm (Imm.fn .nil .nil)) .nil)))) (.cons rfl (ObSub.rows (rows_imm imms_encTMethod)) .nil) (W109 F n47 a1 l48 y59 hx60) rfl rfl rfl rfl (Sub.immT (Imm.tup .nil)) (.cons rfl (ObSub.rowsT (rows_imm imms_encTMethod)) .nil) _ rfl ?_
 refine aops_ghost (ghost_tell 0 (V.own 0 y59.length) rfl (Sub.ownI hc61)) ?_
 refine aops_ghost (ghost_tell 23 (V.own 0 y59.length) rfl (Sub.ownI hc61)) ?_
 refine fo (rn 2 rfl ?_)
 refine lC (fun(p:Int×(List TMethod))=>(⟨[(0,(V.own 0 (p.2).length)),(1,(iV a1)),(2,(V.fn (.func 41) [] [])),(6,(iV (p.1)))],[(0,(Ob.arr 64 2 ((p.2).map encTMethod)))],1⟩:St)) (fun n p=>M76_L2 F a1 n p.1 p.2=some r) (fun p h=>by simp[M76_L2] at h) F (20,y59) h (gr [0] rfl (hR rfl rfl .nil) rfl) (fun n p h=>?_)
 obtain⟨n64,l65⟩:=p
 unfold M76_L2 at h
 refine rn 7 rfl ?_
 refine spC h rfl (fun hb66 h=>?_) (fun hb66 h=>?_)
 ·refine rn 1 rfl ?_
  refine jK h (fun(p:(List TMethod))=>(⟨[(0,(V.own 0 p.length)),(1,(iV a1)),(2,(V.fn (.func 41) [] [])),(6,(iV (w64 (n64*2))))],[(0,(Ob.arr 64 2 (p.map encTMethod)))],1⟩:St)) (fun k67 p=>k67 p=some r) (fun k67 h=>?_) ?_
  ·refine rn 9 rfl ?_
   refine jK h (fun(p:Int×(List TMethod))=>(⟨[(0,(V.own 0 (p.2).length)),(1,(iV a1)),(2,(V.fn (.func 41) [] [])),(6,(iV n64)),(7,(iV (p.1)))],[(0,(Ob.arr 64 2 ((p.2).map encTMethod)))],1⟩:St)) (fun k69 p=>k69 p.1 p.2=some r) (fun k69 h=>?_) ?_
   ·refine rn 1 rfl ?_
    refine lC (fun(p:Int×Int×(List TMethod))=>(⟨[(0,(V.own 0 (p.2.2).length)),(1,(iV a1)),(2,(V.fn (.func 41) [] [])),(6,(iV n64)),(7,(iV (p.1))),(8,(iV (p.2.1)))],[(0,(Ob.arr 64 2 ((p.2.2).map encTMethod)))],1⟩:St)) (fun n p=>M76_L3 F a1 n64 k69 n p.1 p.2.1 p.2.2=some r) (fun p h=>by simp[M76_L3] at h) F (0,(w64 (2*n64)),l65) h (gr [0] rfl (hR rfl rfl .nil) rfl) (fun n p h=>?_)
    obtain⟨n75,n76,l77⟩:=p
    unfold M76_L3 at h
    refine rn 7 rfl ?_
    refine spC h rfl (fun hb78 h=>?_) (fun hb78 h=>?_)
    ·obtain⟨y79,hx80,h⟩:=bind_some h
     refine rn 11 rfl ?_
     refine ck h (fun hc81 h=>?_)
     refine aops_mcallS (V.tup []) [(V.own 0 l77.length),(iV n75),(iV (w64 (n75+n64))),(iV n76),(V.fn (.func 41) [] [])] (fun i=>([0]:List Nat).getD i 0) (fun i=>([0]:List Nat).getD i 0) 1 1 [(0,(Ob.arr 64 2 (y79.map encTMethod)))] fOk110 wants_none rfl (evm_cons rfl (evm_cons rfl (evm_cons rfl (evm_cons rfl (evm_cons rfl evm_nil))))) (.cons (Sub.own rfl rfl) (.cons (Sub.imm (Imm.con _)) (.cons (Sub.imm (Imm.con _)) (.cons (Sub.imm (Imm.con _)) (.cons (Sub.imm (Imm.fn .nil .nil)) .nil))))) (.cons rfl (ObSub.rows (rows_imm imms_encTMethod)) .nil) (W110 F n75 (w64 (n75+n64)) n76 l77 y79 hx80) rfl rfl rfl rfl (Sub.immT (Imm.tup .nil)) (.cons rfl (ObSub.rowsT (rows_imm imms_encTMethod)) .nil) _ rfl ?_
     refine aops_ghost (ghost_tell 0 (V.own 0 y79.length) rfl (Sub.ownI hc81)) ?_
     refine aops_ghost (ghost_tell 36 (V.own 0 y79.length) rfl (Sub.ownI hc81)) ?_
     refine fo (rn 14 rfl ?_)
     exact jX (n76,(w64 (n76+(w64 (2*n64)))),y79) h (gr [0] rfl (hR rfl rfl .nil) rfl)
    refine rn 1 rfl ?_
    exact jX (n75,l77) h (gr [0] rfl (hR rfl rfl .nil) rfl)
   rintro⟨n70,l71⟩ h
   refine rn 14 rfl ?_
   refine jK h (fun(p:(List TMethod))=>(⟨[(0,(V.own 0 p.length)),(1,(iV a1)),(2,(V.fn (.func 41) [] [])),(6,(iV n64))],[(0,(Ob.arr 64 2 (p.map encTMethod)))],1⟩:St)) (fun k82 p=>k82 p=some r) (fun k82 h=>?_) ?_
   ·refine spC h rfl (fun hb84 h=>?_) (fun hb84 h=>?_)
    ·obtain⟨y85,hx86,h⟩:=bind_some h
     refine rn 6 rfl ?_
     refine ck h (fun hc87 h=>?_)
     refine aops_mcallS (V.tup []) [(V.own 0 l71.length),(iV n70),(iV (w64 (n70+n64))),(iV a1),(V.fn (.func 41) [] [])] (fun i=>([0]:List Nat).getD i 0) (fun i=>([0]:List Nat).getD i 0) 1 1 [(0,(Ob.arr 64 2 (y85.map encTMethod)))] fOk110 wants_none rfl (evm_cons rfl (evm_cons rfl (evm_cons rfl (evm_cons rfl (evm_cons rfl evm_nil))))) (.cons (Sub.own rfl rfl) (.cons (Sub.imm (Imm.con _)) (.cons (Sub.imm (Imm.con _)) (.cons (Sub.imm (Imm.con _)) (.cons (Sub.imm (Imm.fn .nil .nil)) .nil))))) (.cons rfl (ObSub.rows (rows_imm imms_encTMethod)) .nil) (W110 F n70 (w64 (n70+n64)) a1 l71 y85 hx86) rfl rfl rfl rfl (Sub.immT (Imm.tup .nil)) (.cons rfl (ObSub.rowsT (rows_imm imms_encTMethod)) .nil) _ rfl ?_
     refine aops_ghost (ghost_tell 0 (V.own 0 y85.length) rfl (Sub.ownI hc87)) ?_
     refine aops_ghost (ghost_tell 55 (V.own 0 y85.length) rfl (Sub.ownI hc87)) ?_
     refine fo (rn 1 rfl ?_)
     exact jX y85 h (gr [0] rfl (hR rfl rfl .nil) rfl)
    refine rn 1 rfl ?_
    exact jX l71 h (gr [0] rfl (hR rfl rfl .nil) rfl)
   intro l83 h
   refine rn 6 rfl ?_
   exact jX l83 h (gr [0] rfl (hR rfl rfl .nil) rfl)
  intro l68 h
  exact jX ((w64 (n64*2)),l68) h (gr [0] rfl (hR rfl rfl .nil) rfl)
 refine rn 1 rfl ?_
 replace h:=Option.some.inj h
 subst h
 exact wE ⟨.inr rfl,[],(gr [0] rfl (hR rfl rfl .nil) rfl),.nil⟩
theorem W40(F:Nat)(a1:List TMethod)(r:(List TMethod))(h:M40 F a1=some r):MutG (gl mx) Tryz.prog 40 [(V.own 0 a1.length),(V.fn (.func 41) [] [])] 1 [(0,(Ob.arr 64 2 (a1.map encTMethod)))] (resV []) 1 [(0,(Ob.arr 64 2 (r.map encTMethod)))]:=by
 refine mut_enter Tryz.func40 rfl rfl (l:=[]) rfl rfl [(0,(V.own 0 a1.length)),(1,(V.fn (.func 41) [] []))] rfl (fun w0 m0 β0 hg=>en ?_)
 unfold M40 at h
 obtain⟨y6,hx7,h⟩:=bind_some h
 refine rn 5 rfl ?_
 refine ck h (fun hc8 h=>?_)
 refine aops_mcallS (V.tup []) [(V.own 0 a1.length),(iV ((a1.length:Nat):Int)),(V.fn (.func 41) [] [])] (fun i=>([0]:List Nat).getD i 0) (fun i=>([0]:List Nat).getD i 0) 1 1 [(0,(Ob.arr 64 2 (y6.map encTMethod)))] fOk76 wants_none rfl (evm_cons rfl (evm_cons rfl (evm_cons rfl evm_nil))) (.cons (Sub.own rfl rfl) (.cons (Sub.imm (Imm.con _)) (.cons (Sub.imm (Imm.fn .nil .nil)) .nil))) (.cons rfl (ObSub.rows (rows_imm imms_encTMethod)) .nil) (W76 F ((a1.length:Nat):Int) a1 y6 hx7) rfl rfl rfl rfl (Sub.immT (Imm.tup .nil)) (.cons rfl (ObSub.rowsT (rows_imm imms_encTMethod)) .nil) _ rfl ?_
 refine aops_ghost (ghost_tell 0 (V.own 0 y6.length) rfl (Sub.ownI hc8)) ?_
 refine aops_ghost (ghost_tell 4 (V.own 0 y6.length) rfl (Sub.ownI hc8)) ?_
 refine aops_ghost (ghost_tell 5 (V.own 0 y6.length) rfl (Sub.ownI hc8)) ?_
 refine fo (rn 1 rfl ?_)
 replace h:=Option.some.inj h
 subst h
 exact wE ⟨.inr rfl,[],(gr [0] rfl (hR rfl rfl .nil) rfl),.nil⟩
theorem W44(F:Nat)(a1:TMethod)(r:(List UInt8))(h:M44 F a1=some r):PureG (gl mx) Tryz.prog 44 [(V.agg (encTMethod a1))] (sV r):=by
 refine pin (fun r=>(sV r)) r rfl Tryz.func44 rfl rfl rfl rfl rfl (fun w0 m0 hg=>?_)
 unfold M44 at h
 refine rn 11 rfl ?_
 exact rt h rfl
theorem W43(F:Nat)(a1:(List TMethod))(r:Bool)(h:M43 F a1=some r):PureG (gl mx) Tryz.prog 43 [(V.lst 2 (a1.map encTMethod)),(V.fn (.func 44) [] [])] (bV r):=by
 refine pin (fun r=>(bV r)) r rfl Tryz.func43 rfl rfl rfl rfl rfl (fun w0 m0 hg=>?_)
 unfold M43 at h
 refine rn 9 rfl ?_
 refine jK h (fun _:Unit=>(⟨[],[],0⟩:St)) (fun k2 (_:Unit)=>k2=some r) (fun k2 h=>?_) ?_
 ·refine rn 1 rfl ?_
  refine lC (fun(p:Int)=>(⟨[(0,(V.lst 2 (a1.map encTMethod))),(1,(V.fn (.func 44) [] [])),(5,(iV p))],[],0⟩:St)) (fun n p=>M43_L1 F a1 k2 n p=some r) (fun p h=>by simp[M43_L1] at h) F 1 h (g0 rfl rfl) (fun n n4 h=>?_)
  unfold M43_L1 at h
  refine rn 5 rfl ?_
  refine ln rfl rfl ?_
  refine rn 2 rfl ?_
  refine spC h rfl (fun hb5 h=>?_) (fun hb5 h=>?_)
  ·obtain⟨x6,hx7,h⟩:=bind_some h
   obtain⟨y8,hx9,h⟩:=bind_some h
   obtain⟨x10,hx11,h⟩:=bind_some h
   obtain⟨y12,hx13,h⟩:=bind_some h
   refine rn 4 rfl ?_
   refine dr mixed (vs 3 rfl (iD hx7 rfl rfl rfl (vs 1 rfl (cD rfl rfl rfl rfl (W44 _ _ _ hx9) rfl (vs 4 rfl (iD hx11 rfl rfl rfl (vs 1 rfl (cD rfl rfl rfl rfl (W44 _ _ _ hx13) rfl (vs 1 rfl .nil))))))))) (by kernel_rfl) ?_
   refine spC h rfl (fun hb14 h=>?_) (fun hb14 h=>?_)
   ·refine rn 4 rfl ?_
    exact rt h rfl
   refine rn 7 rfl ?_
   exact jX (w64 (n4+1)) h (g0 rfl rfl)
  refine rn 1 rfl ?_
  exact jX () h (g0 rfl rfl)
 intro _ h
 refine rn 4 rfl ?_
 exact rt h rfl
theorem W45(F:Nat)(a1:List (List UInt8))(r:List (List UInt8))(h:M45 F a1=some r):MutG (gl mx) Tryz.prog 45 [(V.own 0 a1.length)] 1 [(0,(Ob.arr 9 1 (a1.map encS)))] (resV []) 1 [(0,(Ob.arr 9 1 (r.map encS)))]:=by
 unfold M45 at h
 by_cases hc:a1.length<4611686018427387904
 ·rw[if_pos hc] at h
  replace h:=Option.some.inj h
  subst h
  exact(mut_sortStr a1 rfl (fun b off cap a w hH hb hc=>Go.Proofs.Tryz.slices_Sort_string b off cap a w hH hb hc) (fun p w=>Go.Proofs.Tryz.slices_Sort_string_none p 0 w) hc).heap hget_one
 ·rw[if_neg hc] at h;simp at h
theorem W47(F:Nat)(a1:(List UInt8))(r:(List UInt8))(h:M47 F a1=some r):PureG (gl mx) Tryz.prog 47 [(sV a1)] (sV r):=by
 refine pin (fun r=>(sV r)) r rfl Tryz.func47 rfl rfl rfl rfl rfl (fun w0 m0 hg=>?_)
 unfold M47 at h
 refine rn 9 rfl ?_
 exact rt h rfl
theorem W46(F:Nat)(a1:(List (List UInt8)))(r:Bool)(h:M46 F a1=some r):PureG (gl mx) Tryz.prog 46 [(V.lst 1 (a1.map encS)),(V.fn (.func 47) [] [])] (bV r):=by
 refine pin (fun r=>(bV r)) r rfl Tryz.func46 rfl rfl rfl rfl rfl (fun w0 m0 hg=>?_)
 unfold M46 at h
 refine rn 9 rfl ?_
 refine jK h (fun _:Unit=>(⟨[],[],0⟩:St)) (fun k2 (_:Unit)=>k2=some r) (fun k2 h=>?_) ?_
 ·refine rn 1 rfl ?_
  refine lC (fun(p:Int)=>(⟨[(0,(V.lst 1 (a1.map encS))),(1,(V.fn (.func 47) [] [])),(5,(iV p))],[],0⟩:St)) (fun n p=>M46_L1 F a1 k2 n p=some r) (fun p h=>by simp[M46_L1] at h) F 1 h (g0 rfl rfl) (fun n n4 h=>?_)
  unfold M46_L1 at h
  refine rn 5 rfl ?_
  refine ln rfl rfl ?_
  refine rn 2 rfl ?_
  refine spC h rfl (fun hb5 h=>?_) (fun hb5 h=>?_)
  ·obtain⟨x6,hx7,h⟩:=bind_some h
   obtain⟨y8,hx9,h⟩:=bind_some h
   obtain⟨x10,hx11,h⟩:=bind_some h
   obtain⟨y12,hx13,h⟩:=bind_some h
   refine rn 4 rfl ?_
   refine dr mixed (vs 3 rfl (iD hx7 rfl rfl rfl (vs 1 rfl (cD rfl rfl rfl rfl (W47 _ _ _ hx9) rfl (vs 4 rfl (iD hx11 rfl rfl rfl (vs 1 rfl (cD rfl rfl rfl rfl (W47 _ _ _ hx13) rfl (vs 1 rfl .nil))))))))) (by kernel_rfl) ?_
   refine spC h rfl (fun hb14 h=>?_) (fun hb14 h=>?_)
   ·refine rn 4 rfl ?_
    exact rt h rfl
   refine rn 7 rfl ?_
   exact jX (w64 (n4+1)) h (g0 rfl rfl)
  refine rn 1 rfl ?_
  exact jX () h (g0 rfl rfl)
 intro _ h
 refine rn 4 rfl ?_
 exact rt h rfl
theorem W82(F:Nat)(a1:(List (List UInt8)))(r:(List (List UInt8)))(h:M82 F a1=some r):PureG (gl mx) Tryz.prog 82 [(V.lst 1 (a1.map encS))] (V.lst 1 (r.map encS)):=by
 refine pin (fun r=>(V.lst 1 (r.map encS))) r rfl Tryz.func82 rfl rfl rfl rfl rfl (fun w0 m0 hg=>?_)
 unfold M82 at h
 refine rn 8 rfl ?_
 refine aops_isNil (n:=a1.length) false tIsSl25 wants_none rfl rfl (congrArg some (List.length_map ..)) rfl (fun b2 hn3=>?_)
 replace h:=nilq_elim h hn3
 refine fo (rn 1 rfl ?_)
 refine spC h rfl (fun hb4 h=>?_) (fun hb4 h=>?_)
 ·refine rn 4 rfl ?_
  exact rt h rfl
 refine rn 3 rfl ?_
 refine aops_emptySlice tEl25 wants_none rfl ?_
 refine fo (rn 1 rfl ?_)
 refine apL encS h rfl rfl rfl (by simp) rfl (fun h=>?_)
 refine rn 2 rfl ?_
 refine awp_ghost (ghost_frzEs 1 [2,7] rfl (rows_imm imms_encS) (List.forall_mem_cons.2 ⟨rfl,(List.forall_mem_cons.2 ⟨rfl,(fun _ hx=>nomatch hx)⟩)⟩) (List.length_map ..).symm) ?_
 refine fa ?_
 exact rt h rfl
theorem W50(F:Nat)(a1:TIface)(r:TIface)(h:M50 F a1=some r):PureG (gl mx) Tryz.prog 50 [(V.agg (encTIface a1))] (V.agg (encTIface r)):=by
 refine pin (fun r=>(V.agg (encTIface r))) r rfl Tryz.func50 rfl rfl rfl rfl rfl (fun w0 m0 hg=>?_)
 unfold M50 at h
 refine rn 9 rfl ?_
 refine cl h rfl rfl rfl (W82 _ _) rfl (fun y2 hx3 h=>?_)
 refine rn 8 rfl ?_
 exact rt h rfl
theorem W49(F:Nat)(a1:TIface)(r:(List UInt8))(h:M49 F a1=some r):PureG (gl mx) Tryz.prog 49 [(V.agg (encTIface a1))] (sV r):=by
 refine pin (fun r=>(sV r)) r rfl Tryz.func49 rfl rfl rfl rfl rfl (fun w0 m0 hg=>?_)
 unfold M49 at h
 refine rn 11 rfl ?_
 exact rt h rfl
theorem W81(F:Nat)(a1:TIface)(a2:TIface)(r:Int)(h:M81 F a1 a2=some r):PureG (gl mx) Tryz.prog 81 [(V.agg (encTIface a1)),(V.agg (encTIface a2)),(V.iptr [(V.fn (.func 49) [] [])] 0)] (iV r):=by
 refine pin (fun r=>(iV r)) r rfl Tryz.func81 rfl rfl rfl rfl rfl (fun w0 m0 hg=>?_)
 unfold M81 at h
 obtain⟨y3,hx4,h⟩:=bind_some h
 obtain⟨y5,hx6,h⟩:=bind_some h
 obtain⟨y7,hx8,h⟩:=bind_some h
 refine rn 7 rfl ?_
 refine dr mixed (vs 2 rfl (cD rfl rfl rfl rfl (W49 _ _ _ hx4) rfl (vs 2 rfl (cD rfl rfl rfl rfl (W49 _ _ _ hx6) rfl (cD rfl rfl rfl rfl (W42 _ _ _ _ hx8) rfl (vs 1 rfl .nil)))))) (by kernel_rfl) ?_
 exact rt h rfl
theorem W80(F:Nat)(a1:List TIface)(r:List TIface)(h:M80 F a1=some r):MutG (gl mx) Tryz.prog 80 [(V.own 0 a1.length),(V.fn (.func 81) [] [(V.iptr [(V.fn (.func 49) [] [])] 0)])] 1 [(0,(Ob.arr 56 2 (a1.map encTIface)))] (resV []) 1 [(0,(Ob.arr 56 2 (r.map encTIface)))]:=by
 unfold M80 at h
 exact(mut_sortQ (g:=81) encTIface (fun _=>rfl) (fun x=>(imms_encTIface _)) [(V.iptr [(V.fn (.func 49) [] [])] 0)] (.cons (Imm.iptr _ _) .nil) (fun x3 y4=>M81 F x3 y4) a1 r rfl h (fun x3 y4 c hc=>W81 F x3 y4 c hc)
  (fun encR h1 h2 cf h3 cb blk off cap d w h4 h5 h6 h7=>Go.Proofs.Tryz.slices_SortFunc_eq_f80 2 Go.Proofs.Tryz.isAgg56 Go.Proofs.Tryz.sizeOf56 encR h1 h2 cf h3 81 cb blk off cap d w (Go.Proofs.enters_of Go.Proofs.Tryz.func81 (by kernel_rfl) rfl) h4 h5 h6 h7)
  (fun p cap fv w=>Go.Proofs.Tryz.slices_SortFunc_none_f80 (α:=Nat) p cap fv w)).heap hget_one
theorem W48(F:Nat)(a1:(List TIface))(r:(List TIface))(h:M48 F a1=some r):PureG (gl mx) Tryz.prog 48 [(V.lst 2 (a1.map encTIface)),(V.fn (.func 49) [] []),(V.fn (.func 50) [] [])] (V.lst 2 (r.map encTIface)):=by
 refine pin (fun r=>(V.lst 2 (r.map encTIface))) r rfl Tryz.func48 rfl rfl rfl rfl rfl (fun w0 m0 hg=>?_)
 unfold M48 at h
 refine rn 13 rfl ?_
 refine ln rfl rfl ?_
 refine rn 2 rfl ?_
 refine jK h (fun(p:(List TIface))=>(⟨[(4,(V.ptr 0 1 0 0)),(7,(V.own 1 p.length))],[(0,(Ob.arr 103 1 [[(V.fn (.func 49) [] [])]])),(1,(Ob.arr 56 2 (p.map encTIface)))],2⟩:St)) (fun k2 p=>k2 p=some r) (fun k2 h=>?_) ?_
 ·refine rn 1 rfl ?_
  refine wl (A:=a1) 0 rfl (fun hA14=>?_)
  refine lC (fun(p:Int×(List TIface))=>(⟨[(2,(V.fn (.func 50) [] [])),(4,(V.ptr 0 1 0 0)),(7,(V.own 1 (p.2).length)),(10,(V.lst 2 (a1.map encTIface))),(11,(iV ((a1.length:Nat):Int))),(12,(iV (p.1)))],[(0,(Ob.arr 103 1 [[(V.fn (.func 49) [] [])]])),(1,(Ob.arr 56 2 ((p.2).map encTIface)))],2⟩:St)) (fun n p=>RG a1 (fun tl nn=>M48_L1 F k2 tl p.2=some r) n p.1) (fun p h=>RG.zero h) (a1.length+1) (0,([]:List TIface)) (RG.start h) (Ghost.trans (ghost_nilE 7 56 2 rfl) (ghost_ren 2 (fun i=>([0,1]:List Nat).getD i 0) _ _ (by decide) (EnvSub.get (.cons (Sub.imm (Imm.fn .nil .nil)) (.cons (Sub.ptr rfl rfl) (.cons (Sub.ownE rfl rfl (by simp)) (.cons (Sub.imm (Imm.lst _ _)) (.cons (Sub.imm (Imm.con _)) (.cons (Sub.imm (Imm.con _)) .nil))))))) (HpSub.get (.cons rfl (ObSub.box (.cons (Sub.imm (Imm.fn .nil .nil)) .nil)) (.cons rfl (ObSub.rows (rows_imm imms_encTIface)) .nil))) rfl)) (fun n p h=>?_)
  obtain⟨n6,l7⟩:=p
  refine rn 5 rfl ?_
  refine spL rfl (fun hb8=>?_) (fun hb8=>?_)
  ·obtain⟨x9,tl,hx10,h,hk1⟩:=RG.t hA14 h hb8
   unfold M48_L1 at h
   refine rn 5 rfl ?_
   refine ixh hx10 rfl rfl ?_
   refine rn 8 rfl ?_
   refine cl h rfl rfl rfl (W50 _ _) rfl (fun y11 hx12 h=>?_)
   refine aops_buildSlice [(0,(V.agg (encTIface y11)))] [(encTIface y11)] tEl22 tZ56 rfl rfl rfl rfl wants_none (evp_cons rfl evp_nil) rfl rfl (by simp) rfl ?_
   refine fo ?_
   refine apO encTIface h rfl rfl rfl rfl rfl rfl rfl rfl (fun h=>?_)
   refine rn 7 rfl ?_
   exact jX ((w64 (n6+1)),(l7++([y11]:List TIface))) (hk1 _ h) (gr [0,4] rfl (hB rfl rfl rfl (hR rfl rfl .nil)) rfl)
  replace h:=RG.f h hb8
  unfold M48_L1 at h
  refine rn 1 rfl ?_
  exact jX l7 h (gr [0,1] rfl (hB rfl rfl rfl (hR rfl rfl .nil)) rfl)
 intro l3 h
 obtain⟨y15,hx16,h⟩:=bind_some h
 refine rn 4 rfl ?_
 refine ck h (fun hc17 h=>?_)
 refine aops_ghost (ghost_frzV 0 24 (V.fn (.func 81) [] [(V.iptr [(V.fn (.func 49) [] [])] 0)]) rfl (imms_rows (.cons (.cons (Imm.fn .nil .nil) .nil) .nil)) rfl (Sub.fnc (.cons (Sub.frzptr rfl) .nil))) ?_
 refine aops_mcallS (V.tup []) [(V.own 1 l3.length),(V.fn (.func 81) [] [(V.iptr [(V.fn (.func 49) [] [])] 0)])] (fun i=>([1]:List Nat).getD i 0) (fun i=>([1]:List Nat).getD i 0) 2 2 [(1,(Ob.arr 56 2 (y15.map encTIface)))] fOk80 wants_none rfl (evm_cons rfl (evm_cons rfl evm_nil)) (.cons (Sub.own rfl rfl) (.cons (Sub.imm (Imm.fn .nil (.cons (Imm.iptr _ _) .nil))) .nil)) (.cons rfl (ObSub.rows (rows_imm imms_encTIface)) .nil) (W80 F l3 y15 hx16) rfl rfl rfl rfl (Sub.immT (Imm.tup .nil)) (.cons rfl (ObSub.rowsT (rows_imm imms_encTIface)) .nil) _ rfl ?_
 refine aops_ghost (ghost_tell 7 (V.own 1 y15.length) rfl (Sub.ownI hc17)) ?_
 refine aops_ghost (ghost_tell 23 (V.own 1 y15.length) rfl (Sub.ownI hc17)) ?_
 refine fo (rn 6 rfl ?_)
 refine awp_ghost (ghost_frzEs 1 [6,7,23,26] rfl (rows_imm imms_encTIface) (List.forall_mem_cons.2 ⟨rfl,(List.forall_mem_cons.2 ⟨rfl,(List.forall_mem_cons.2 ⟨rfl,(List.forall_mem_cons.2 ⟨rfl,(fun _ hx=>nomatch hx)⟩)⟩)⟩)⟩) (List.length_map ..).symm) ?_
 refine fa ?_
 exact rt h rfl
theorem W85(F:Nat)(a1:(List TMethod))(r:(List TMethod))(h:M85 F a1=some r):PureG (gl mx) Tryz.prog 85 [(V.lst 2 (a1.map encTMethod))] (V.lst 2 (r.map encTMethod)):=by
 refine pin (fun r=>(V.lst 2 (r.map encTMethod))) r rfl Tryz.func85 rfl rfl rfl rfl rfl (fun w0 m0 hg=>?_)
 unfold M85 at h
 refine rn 8 rfl ?_
 refine aops_isNil (n:=a1.length) false tIsSl59 wants_none rfl rfl (congrArg some (List.length_map ..)) rfl (fun b2 hn3=>?_)
 replace h:=nilq_elim h hn3
 refine fo (rn 1 rfl ?_)
 refine spC h rfl (fun hb4 h=>?_) (fun hb4 h=>?_)
 ·refine rn 4 rfl ?_
  exact rt h rfl
 refine rn 3 rfl ?_
 refine aops_emptySlice tEl59 wants_none rfl ?_
 refine fo (rn 1 rfl ?_)
 refine apL encTMethod h rfl rfl rfl (by simp) rfl (fun h=>?_)
 refine rn 2 rfl ?_
 refine awp_ghost (ghost_frzEs 1 [2,7] rfl (rows_imm imms_encTMethod) (List.forall_mem_cons.2 ⟨rfl,(List.forall_mem_cons.2 ⟨rfl,(fun _ hx=>nomatch hx)⟩)⟩) (List.length_map ..).symm) ?_
 refine fa ?_
 exact rt h rfl
theorem W53(F:Nat)(a1:TType)(r:TType)(h:M53 F a1=some r):PureG (gl mx) Tryz.prog 53 [(V.agg (encTType a1))] (V.agg (encTType r)):=by
 refine pin (fun r=>(V.agg (encTType r))) r rfl Tryz.func53 rfl rfl rfl rfl rfl (fun w0 m0 hg=>?_)
 unfold M53 at h
 refine rn 9 rfl ?_
 refine cl h rfl rfl rfl (W85 _ _) rfl (fun y2 hx3 h=>?_)
 refine rn 8 rfl ?_
 exact rt h rfl
theorem W52(F:Nat)(a1:TType)(r:(List UInt8))(h:M52 F a1=some r):PureG (gl mx) Tryz.prog 52 [(V.agg (encTType a1))] (sV r):=by
 refine pin (fun r=>(sV r)) r rfl Tryz.func52 rfl rfl rfl rfl rfl (fun w0 m0 hg=>?_)
 unfold M52 at h
 refine rn 11 rfl ?_
 exact rt h rfl
theorem W84(F:Nat)(a1:TType)(a2:TType)(r:Int)(h:M84 F a1 a2=some r):PureG (gl mx) Tryz.prog 84 [(V.agg (encTType a1)),(V.agg (encTType a2)),(V.iptr [(V.fn (.func 52) [] [])] 0)] (iV r):=by
 refine pin (fun r=>(iV r)) r rfl Tryz.func84 rfl rfl rfl rfl rfl (fun w0 m0 hg=>?_)
 unfold M84 at h
 obtain⟨y3,hx4,h⟩:=bind_some h
 obtain⟨y5,hx6,h⟩:=bind_some h
 obtain⟨y7,hx8,h⟩:=bind_some h
 refine rn 7 rfl ?_
 refine dr mixed (vs 2 rfl (cD rfl rfl rfl rfl (W52 _ _ _ hx4) rfl (vs 2 rfl (cD rfl rfl rfl rfl (W52 _ _ _ hx6) rfl (cD rfl rfl rfl rfl (W42 _ _ _ _ hx8) rfl (vs 1 rfl .nil)))))) (by kernel_rfl) ?_
 exact rt h rfl
theorem W83(F:Nat)(a1:List TType)(r:List TType)(h:M83 F a1=some r):MutG (gl mx) Tryz.prog 83 [(V.own 0 a1.length),(V.fn (.func 84) [] [(V.iptr [(V.fn (.func 52) [] [])] 0)])] 1 [(0,(Ob.arr 61 2 (a1.map encTType)))] (resV []) 1 [(0,(Ob.arr 61 2 (r.map encTType)))]:=by
 unfold M83 at h
 exact(mut_sortQ (g:=84) encTType (fun _=>rfl) (fun x=>(imms_encTType _)) [(V.iptr [(V.fn (.func 52) [] [])] 0)] (.cons (Imm.iptr _ _) .nil) (fun x3 y4=>M84 F x3 y4) a1 r rfl h (fun x3 y4 c hc=>W84 F x3 y4 c hc)
  (fun encR h1 h2 cf h3 cb blk off cap d w h4 h5 h6 h7=>Go.Proofs.Tryz.slices_SortFunc_eq_f83 2 Go.Proofs.Tryz.isAgg61 Go.Proofs.Tryz.sizeOf61 encR h1 h2 cf h3 84 cb blk off cap d w (Go.Proofs.enters_of Go.Proofs.Tryz.func84 (by kernel_rfl) rfl) h4 h5 h6 h7)
  (fun p cap fv w=>Go.Proofs.Tryz.slices_SortFunc_none_f83 (α:=Nat) p cap fv w)).heap hget_one
theorem W51(F:Nat)(a1:(List TType))(r:(List TType))(h:M51 F a1=some r):PureG (gl mx) Tryz.prog 51 [(V.lst 2 (a1.map encTType)),(V.fn (.func 52) [] []),(V.fn (.func 53) [] [])] (V.lst 2 (r.map encTType)):=by
 refine pin (fun r=>(V.lst 2 (r.map encTType))) r rfl Tryz.func51 rfl rfl rfl rfl rfl (fun w0 m0 hg=>?_)
 unfold M51 at h
 refine rn 13 rfl ?_
 refine ln rfl rfl ?_
 refine rn 2 rfl ?_
 refine jK h (fun(p:(List TType))=>(⟨[(4,(V.ptr 0 1 0 0)),(7,(V.own 1 p.length))],[(0,(Ob.arr 106 1 [[(V.fn (.func 52) [] [])]])),(1,(Ob.arr 61 2 (p.map encTType)))],2⟩:St)) (fun k2 p=>k2 p=some r) (fun k2 h=>?_) ?_
 ·refine rn 1 rfl ?_
  refine wl (A:=a1) 0 rfl (fun hA14=>?_)
  refine lC (fun(p:Int×(List TType))=>(⟨[(2,(V.fn (.func 53) [] [])),(4,(V.ptr 0 1 0 0)),(7,(V.own 1 (p.2).length)),(10,(V.lst 2 (a1.map encTType))),(11,(iV ((a1.length:Nat):Int))),(12,(iV (p.1)))],[(0,(Ob.arr 106 1 [[(V.fn (.func 52) [] [])]])),(1,(Ob.arr 61 2 ((p.2).map encTType)))],2⟩:St)) (fun n p=>RG a1 (fun tl nn=>M51_L1 F k2 tl p.2=some r) n p.1) (fun p h=>RG.zero h) (a1.length+1) (0,([]:List TType)) (RG.start h) (Ghost.trans (ghost_nilE 7 61 2 rfl) (ghost_ren 2 (fun i=>([0,1]:List Nat).getD i 0) _ _ (by decide) (EnvSub.get (.cons (Sub.imm (Imm.fn .nil .nil)) (.cons (Sub.ptr rfl rfl) (.cons (Sub.ownE rfl rfl (by simp)) (.cons (Sub.imm (Imm.lst _ _)) (.cons (Sub.imm (Imm.con _)) (.cons (Sub.imm (Imm.con _)) .nil))))))) (HpSub.get (.cons rfl (ObSub.box (.cons (Sub.imm (Imm.fn .nil .nil)) .nil)) (.cons rfl (ObSub.rows (rows_imm imms_encTType)) .nil))) rfl)) (fun n p h=>?_)
  obtain⟨n6,l7⟩:=p
  refine rn 5 rfl ?_
  refine spL rfl (fun hb8=>?_) (fun hb8=>?_)
  ·obtain⟨x9,tl,hx10,h,hk1⟩:=RG.t hA14 h hb8
   unfold M51_L1 at h
   refine rn 5 rfl ?_
   refine ixh hx10 rfl rfl ?_
   refine rn 8 rfl ?_
   refine cl h rfl rfl rfl (W53 _ _) rfl (fun y11 hx12 h=>?_)
   refine aops_buildSlice [(0,(V.agg (encTType y11)))] [(encTType y11)] tEl23 tZ61 rfl rfl rfl rfl wants_none (evp_cons rfl evp_nil) rfl rfl (by simp) rfl ?_
   refine fo ?_
   refine apO encTType h rfl rfl rfl rfl rfl rfl rfl rfl (fun h=>?_)
   refine rn 7 rfl ?_
   exact jX ((w64 (n6+1)),(l7++([y11]:List TType))) (hk1 _ h) (gr [0,4] rfl (hB rfl rfl rfl (hR rfl rfl .nil)) rfl)
  replace h:=RG.f h hb8
  unfold M51_L1 at h
  refine rn 1 rfl ?_
  exact jX l7 h (gr [0,1] rfl (hB rfl rfl rfl (hR rfl rfl .nil)) rfl)
 intro l3 h
 obtain⟨y15,hx16,h⟩:=bind_some h
 refine rn 4 rfl ?_
 refine ck h (fun hc17 h=>?_)
 refine aops_ghost (ghost_frzV 0 24 (V.fn (.func 84) [] [(V.iptr [(V.fn (.func 52) [] [])] 0)]) rfl (imms_rows (.cons (.cons (Imm.fn .nil .nil) .nil) .nil)) rfl (Sub.fnc (.cons (Sub.frzptr rfl) .nil))) ?_
 refine aops_mcallS (V.tup []) [(V.own 1 l3.length),(V.fn (.func 84) [] [(V.iptr [(V.fn (.func 52) [] [])] 0)])] (fun i=>([1]:List Nat).getD i 0) (fun i=>([1]:List Nat).getD i 0) 2 2 [(1,(Ob.arr 61 2 (y15.map encTType)))] fOk83 wants_none rfl (evm_cons rfl (evm_cons rfl evm_nil)) (.cons (Sub.own rfl rfl) (.cons (Sub.imm (Imm.fn .nil (.cons (Imm.iptr _ _) .nil))) .nil)) (.cons rfl (ObSub.rows (rows_imm imms_encTType)) .nil) (W83 F l3 y15 hx16) rfl rfl rfl rfl (Sub.immT (Imm.tup .nil)) (.cons rfl (ObSub.rowsT (rows_imm imms_encTType)) .nil) _ rfl ?_
 refine aops_ghost (ghost_tell 7 (V.own 1 y15.length) rfl (Sub.ownI hc17)) ?_
 refine aops_ghost (ghost_tell 23 (V.own 1 y15.length) rfl (Sub.ownI hc17)) ?_
 refine fo (rn 6 rfl ?_)
 refine awp_ghost (ghost_frzEs 1 [6,7,23,26] rfl (rows_imm imms_encTType) (List.forall_mem_cons.2 ⟨rfl,(List.forall_mem_cons.2 ⟨rfl,(List.forall_mem_cons.2 ⟨rfl,(List.forall_mem_cons.2 ⟨rfl,(fun _ hx=>nomatch hx)⟩)⟩)⟩)⟩) (List.length_map ..).symm) ?_
 refine fa ?_
 exact rt h rfl
theorem W88(F:Nat)(a1:(List TCall))(r:(List TCall))(h:M88 F a1=some r):PureG (gl mx) Tryz.prog 88 [(V.lst 4 (a1.map encTCall))] (V.lst 4 (r.map encTCall)):=by
 refine pin (fun r=>(V.lst 4 (r.map encTCall))) r rfl Tryz.func88 rfl rfl rfl rfl rfl (fun w0 m0 hg=>?_)
 unfold M88 at h
 refine rn 8 rfl ?_
 refine aops_isNil (n:=a1.length) false tIsSl69 wants_none rfl rfl (congrArg some (List.length_map ..)) rfl (fun b2 hn3=>?_)
 replace h:=nilq_elim h hn3
 refine fo (rn 1 rfl ?_)
 refine spC h rfl (fun hb4 h=>?_) (fun hb4 h=>?_)
 ·refine rn 4 rfl ?_
  exact rt h rfl
 refine rn 3 rfl ?_
 refine aops_emptySlice tEl69 wants_none rfl ?_
 refine fo (rn 1 rfl ?_)
 refine apL encTCall h rfl rfl rfl (by simp) rfl (fun h=>?_)
 refine rn 2 rfl ?_
 refine awp_ghost (ghost_frzEs 1 [2,7] rfl (rows_imm imms_encTCall) (List.forall_mem_cons.2 ⟨rfl,(List.forall_mem_cons.2 ⟨rfl,(fun _ hx=>nomatch hx)⟩)⟩) (List.length_map ..).symm) ?_
 refine fa ?_
 exact rt h rfl
theorem W56(F:Nat)(a1:TFunc)(r:TFunc)(h:M56 F a1=some r):PureG (gl mx) Tryz.prog 56 [(V.agg (encTFunc a1))] (V.agg (encTFunc r)):=by
 refine pin (fun r=>(V.agg (encTFunc r))) r rfl Tryz.func56 rfl rfl rfl rfl rfl (fun w0 m0 hg=>?_)
 unfold M56 at h
 obtain⟨y2,hx3,h⟩:=bind_some h
 obtain⟨y4,hx5,h⟩:=bind_some h
 refine rn 6 rfl ?_
 refine dr mixed (vs 2 rfl (cD rfl rfl rfl rfl (W88 _ _ _ hx3) rfl (vs 2 rfl (cD rfl rfl rfl rfl (W82 _ _ _ hx5) rfl (vs 4 rfl .nil))))) (by kernel_rfl) ?_
 refine rn 5 rfl ?_
 exact rt h rfl
theorem W55(F:Nat)(a1:TFunc)(r:(List UInt8))(h:M55 F a1=some r):PureG (gl mx) Tryz.prog 55 [(V.agg (encTFunc a1))] (sV r):=by
 refine pin (fun r=>(sV r)) r rfl Tryz.func55 rfl rfl rfl rfl rfl (fun w0 m0 hg=>?_)
 unfold M55 at h
 refine rn 11 rfl ?_
 exact rt h rfl
theorem W87(F:Nat)(a1:TFunc)(a2:TFunc)(r:Int)(h:M87 F a1 a2=some r):PureG (gl mx) Tryz.prog 87 [(V.agg (encTFunc a1)),(V.agg (encTFunc a2)),(V.iptr [(V.fn (.func 55) [] [])] 0)] (iV r):=by
 refine pin (fun r=>(iV r)) r rfl Tryz.func87 rfl rfl rfl rfl rfl (fun w0 m0 hg=>?_)
 unfold M87 at h
 obtain⟨y3,hx4,h⟩:=bind_some h
 obtain⟨y5,hx6,h⟩:=bind_some h
 obtain⟨y7,hx8,h⟩:=bind_some h
 refine rn 7 rfl ?_
 refine dr mixed (vs 2 rfl (cD rfl rfl rfl rfl (W55 _ _ _ hx4) rfl (vs 2 rfl (cD rfl rfl rfl rfl (W55 _ _ _ hx6) rfl (cD rfl rfl rfl rfl (W42 _ _ _ _ hx8) rfl (vs 1 rfl .nil)))))) (by kernel_rfl) ?_
 exact rt h rfl
theorem W86(F:Nat)(a1:List TFunc)(r:List TFunc)(h:M86 F a1=some r):MutG (gl mx) Tryz.prog 86 [(V.own 0 a1.length),(V.fn (.func 87) [] [(V.iptr [(V.fn (.func 55) [] [])] 0)])] 1 [(0,(Ob.arr 71 4 (a1.map encTFunc)))] (resV []) 1 [(0,(Ob.arr 71 4 (r.map encTFunc)))]:=by
 unfold M86 at h
 exact(mut_sortQ (g:=87) encTFunc (fun _=>rfl) (fun x=>(imms_encTFunc _)) [(V.iptr [(V.fn (.func 55) [] [])] 0)] (.cons (Imm.iptr _ _) .nil) (fun x3 y4=>M87 F x3 y4) a1 r rfl h (fun x3 y4 c hc=>W87 F x3 y4 c hc)
  (fun encR h1 h2 cf h3 cb blk off cap d w h4 h5 h6 h7=>Go.Proofs.Tryz.slices_SortFunc_eq_f86 4 Go.Proofs.Tryz.isAgg71 Go.Proofs.Tryz.sizeOf71 encR h1 h2 cf h3 87 cb blk off cap d w (Go.Proofs.enters_of Go.Proofs.Tryz.func87 (by kernel_rfl) rfl) h4 h5 h6 h7)
  (fun p cap fv w=>Go.Proofs.Tryz.slices_SortFunc_none_f86 (α:=Nat) p cap fv w)).heap hget_one
theorem W54(F:Nat)(a1:(List TFunc))(r:(List TFunc))(h:M54 F a1=some r):PureG (gl mx) Tryz.prog 54 [(V.lst 4 (a1.map encTFunc)),(V.fn (.func 55) [] []),(V.fn (.func 56) [] [])] (V.lst 4 (r.map encTFunc)):=by
 refine pin (fun r=>(V.lst 4 (r.map encTFunc))) r rfl Tryz.func54 rfl rfl rfl rfl rfl (fun w0 m0 hg=>?_)
 unfold M54 at h
 refine rn 13 rfl ?_
 refine ln rfl rfl ?_
 refine rn 2 rfl ?_
 refine jK h (fun(p:(List TFunc))=>(⟨[(4,(V.ptr 0 1 0 0)),(7,(V.own 1 p.length))],[(0,(Ob.arr 109 1 [[(V.fn (.func 55) [] [])]])),(1,(Ob.arr 71 4 (p.map encTFunc)))],2⟩:St)) (fun k2 p=>k2 p=some r) (fun k2 h=>?_) ?_
 ·refine rn 1 rfl ?_
  refine wl (A:=a1) 0 rfl (fun hA14=>?_)
  refine lC (fun(p:Int×(List TFunc))=>(⟨[(2,(V.fn (.func 56) [] [])),(4,(V.ptr 0 1 0 0)),(7,(V.own 1 (p.2).length)),(10,(V.lst 4 (a1.map encTFunc))),(11,(iV ((a1.length:Nat):Int))),(12,(iV (p.1)))],[(0,(Ob.arr 109 1 [[(V.fn (.func 55) [] [])]])),(1,(Ob.arr 71 4 ((p.2).map encTFunc)))],2⟩:St)) (fun n p=>RG a1 (fun tl nn=>M54_L1 F k2 tl p.2=some r) n p.1) (fun p h=>RG.zero h) (a1.length+1) (0,([]:List TFunc)) (RG.start h) (Ghost.trans (ghost_nilE 7 71 4 rfl) (ghost_ren 2 (fun i=>([0,1]:List Nat).getD i 0) _ _ (by decide) (EnvSub.get (.cons (Sub.imm (Imm.fn .nil .nil)) (.cons (Sub.ptr rfl rfl) (.cons (Sub.ownE rfl rfl (by simp)) (.cons (Sub.imm (Imm.lst _ _)) (.cons (Sub.imm (Imm.con _)) (.cons (Sub.imm (Imm.con _)) .nil))))))) (HpSub.get (.cons rfl (ObSub.box (.cons (Sub.imm (Imm.fn .nil .nil)) .nil)) (.cons rfl (ObSub.rows (rows_imm imms_encTFunc)) .nil))) rfl)) (fun n p h=>?_)
  obtain⟨n6,l7⟩:=p
  refine rn 5 rfl ?_
  refine spL rfl (fun hb8=>?_) (fun hb8=>?_)
  ·obtain⟨x9,tl,hx10,h,hk1⟩:=RG.t hA14 h hb8
   unfold M54_L1 at h
   refine rn 5 rfl ?_
   refine ixh hx10 rfl rfl ?_
   refine rn 8 rfl ?_
   refine cl h rfl rfl rfl (W56 _ _) rfl (fun y11 hx12 h=>?_)
   refine aops_buildSlice [(0,(V.agg (encTFunc y11)))] [(encTFunc y11)] tEl24 tZ71 rfl rfl rfl rfl wants_none (evp_cons rfl evp_nil) rfl rfl (by simp) rfl ?_
   refine fo ?_
   refine apO encTFunc h rfl rfl rfl rfl rfl rfl rfl rfl (fun h=>?_)
   refine rn 7 rfl ?_
   exact jX ((w64 (n6+1)),(l7++([y11]:List TFunc))) (hk1 _ h) (gr [0,4] rfl (hB rfl rfl rfl (hR rfl rfl .nil)) rfl)
  replace h:=RG.f h hb8
  unfold M54_L1 at h
  refine rn 1 rfl ?_
  exact jX l7 h (gr [0,1] rfl (hB rfl rfl rfl (hR rfl rfl .nil)) rfl)
 intro l3 h
 obtain⟨y15,hx16,h⟩:=bind_some h
 refine rn 4 rfl ?_
 refine ck h (fun hc17 h=>?_)
 refine aops_ghost (ghost_frzV 0 24 (V.fn (.func 87) [] [(V.iptr [(V.fn (.func 55) [] [])] 0)]) rfl (imms_rows (.cons (.cons (Imm.fn .nil .nil) .nil) .nil)) rfl (Sub.fnc (.cons (Sub.frzptr rfl) .nil))) ?_
 refine aops_mcallS (V.tup []) [(V.own 1 l3.length),(V.fn (.func 87) [] [(V.iptr [(V.fn (.func 55) [] [])] 0)])] (fun i=>([1]:List Nat).getD i 0) (fun i=>([1]:List Nat).getD i 0) 2 2 [(1,(Ob.arr 71 4 (y15.map encTFunc)))] fOk86 wants_none rfl (evm_cons rfl (evm_cons rfl evm_nil)) (.cons (Sub.own rfl rfl) (.cons (Sub.imm (Imm.fn .nil (.cons (Imm.iptr _ _) .nil))) .nil)) (.cons rfl (ObSub.rows (rows_imm imms_encTFunc)) .nil) (W86 F l3 y15 hx16) rfl rfl rfl rfl (Sub.immT (Imm.tup .nil)) (.cons rfl (ObSub.rowsT (rows_imm imms_encTFunc)) .nil) _ rfl ?_
 refine aops_ghost (ghost_tell 7 (V.own 1 y15.length) rfl (Sub.ownI hc17)) ?_
 refine aops_ghost (ghost_tell 23 (V.own 1 y15.length) rfl (Sub.ownI hc17)) ?_
 refine fo (rn 6 rfl ?_)
 refine awp_ghost (ghost_frzEs 1 [6,7,23,26] rfl (rows_imm imms_encTFunc) (List.forall_mem_cons.2 ⟨rfl,(List.forall_mem_cons.2 ⟨rfl,(List.forall_mem_cons.2 ⟨rfl,(List.forall_mem_cons.2 ⟨rfl,(fun _ hx=>nomatch hx)⟩)⟩)⟩)⟩) (List.length_map ..).symm) ?_
 refine fa ?_
 exact rt h rfl
theorem W57(F:Nat)(a1:(List TIface))(r:Bool)(h:M57 F a1=some r):PureG (gl mx) Tryz.prog 57 [(V.lst 2 (a1.map encTIface)),(V.fn (.func 49) [] [])] (bV r):=by
 refine pin (fun r=>(bV r)) r rfl Tryz.func57 rfl rfl rfl rfl rfl (fun w0 m0 hg=>?_)
 unfold M57 at h
 refine rn 9 rfl ?_
 refine jK h (fun _:Unit=>(⟨[],[],0⟩:St)) (fun k2 (_:Unit)=>k2=some r) (fun k2 h=>?_) ?_
 ·refine rn 1 rfl ?_
  refine lC (fun(p:Int)=>(⟨[(0,(V.lst 2 (a1.map encTIface))),(1,(V.fn (.func 49) [] [])),(5,(iV p))],[],0⟩:St)) (fun n p=>M57_L1 F a1 k2 n p=some r) (fun p h=>by simp[M57_L1] at h) F 1 h (g0 rfl rfl) (fun n n4 h=>?_)
  unfold M57_L1 at h
  refine rn 5 rfl ?_
  refine ln rfl rfl ?_
  refine rn 2 rfl ?_
  refine spC h rfl (fun hb5 h=>?_) (fun hb5 h=>?_)
  ·obtain⟨x6,hx7,h⟩:=bind_some h
   obtain⟨y8,hx9,h⟩:=bind_some h
   obtain⟨x10,hx11,h⟩:=bind_some h
   obtain⟨y12,hx13,h⟩:=bind_some h
   refine rn 4 rfl ?_
   refine dr mixed (vs 3 rfl (iD hx7 rfl rfl rfl (vs 1 rfl (cD rfl rfl rfl rfl (W49 _ _ _ hx9) rfl (vs 4 rfl (iD hx11 rfl rfl rfl (vs 1 rfl (cD rfl rfl rfl rfl (W49 _ _ _ hx13) rfl (vs 1 rfl .nil))))))))) (by kernel_rfl) ?_
   refine spC h rfl (fun hb14 h=>?_) (fun hb14 h=>?_)
   ·refine rn 4 rfl ?_
    exact rt h rfl
   refine rn 7 rfl ?_
   exact jX (w64 (n4+1)) h (g0 rfl rfl)
  refine rn 1 rfl ?_
  exact jX () h (g0 rfl rfl)
 intro _ h
 refine rn 4 rfl ?_
 exact rt h rfl
theorem W58(F:Nat)(a1:(List TType))(r:Bool)(h:M58 F a1=some r):PureG (gl mx) Tryz.prog 58 [(V.lst 2 (a1.map encTType)),(V.fn (.func 52) [] [])] (bV r):=by
 refine pin (fun r=>(bV r)) r rfl Tryz.func58 rfl rfl rfl rfl rfl (fun w0 m0 hg=>?_)
 unfold M58 at h
 refine rn 9 rfl ?_
 refine jK h (fun _:Unit=>(⟨[],[],0⟩:St)) (fun k2 (_:Unit)=>k2=some r) (fun k2 h=>?_) ?_
 ·refine rn 1 rfl ?_
  refine lC (fun(p:Int)=>(⟨[(0,(V.lst 2 (a1.map encTType))),(1,(V.fn (.func 52) [] [])),(5,(iV p))],[],0⟩:St)) (fun n p=>M58_L1 F a1 k2 n p=some r) (fun p h=>by simp[M58_L1] at h) F 1 h (g0 rfl rfl) (fun n n4 h=>?_)
  unfold M58_L1 at h
  refine rn 5 rfl ?_
  refine ln rfl rfl ?_
  refine rn 2 rfl ?_
  refine spC h rfl (fun hb5 h=>?_) (fun hb5 h=>?_)
  ·obtain⟨x6,hx7,h⟩:=bind_some h
   obtain⟨y8,hx9,h⟩:=bind_some h
   obtain⟨x10,hx11,h⟩:=bind_some h
   obtain⟨y12,hx13,h⟩:=bind_some h
   refine rn 4 rfl ?_
   refine dr mixed (vs 3 rfl (iD hx7 rfl rfl rfl (vs 1 rfl (cD rfl rfl rfl rfl (W52 _ _ _ hx9) rfl (vs 4 rfl (iD hx11 rfl rfl rfl (vs 1 rfl (cD rfl rfl rfl rfl (W52 _ _ _ hx13) rfl (vs 1 rfl .nil))))))))) (by kernel_rfl) ?_
   refine spC h rfl (fun hb14 h=>?_) (fun hb14 h=>?_)
   ·refine rn 4 rfl ?_
    exact rt h rfl
   refine rn 7 rfl ?_
   exact jX (w64 (n4+1)) h (g0 rfl rfl)
  refine rn 1 rfl ?_
  exact jX () h (g0 rfl rfl)
 intro _ h
 refine rn 4 rfl ?_
 exact rt h rfl
theorem W59(F:Nat)(a1:(List TFunc))(r:Bool)(h:M59 F a1=some r):PureG (gl mx) Tryz.prog 59 [(V.lst 4 (a1.map encTFunc)),(V.fn (.func 55) [] [])] (bV r):=by
 refine pin (fun r=>(bV r)) r rfl Tryz.func59 rfl rfl rfl rfl rfl (fun w0 m0 hg=>?_)
 unfold M59 at h
 refine rn 9 rfl ?_
 refine jK h (fun _:Unit=>(⟨[],[],0⟩:St)) (fun k2 (_:Unit)=>k2=some r) (fun k2 h=>?_) ?_
 ·refine rn 1 rfl ?_
  refine lC (fun(p:Int)=>(⟨[(0,(V.lst 4 (a1.map encTFunc))),(1,(V.fn (.func 55) [] [])),(5,(iV p))],[],0⟩:St)) (fun n p=>M59_L1 F a1 k2 n p=some r) (fun p h=>by simp[M59_L1] at h) F 1 h (g0 rfl rfl) (fun n n4 h=>?_)
  unfold M59_L1 at h
  refine rn 5 rfl ?_
  refine ln rfl rfl ?_
  refine rn 2 rfl ?_
  refine spC h rfl (fun hb5 h=>?_) (fun hb5 h=>?_)
  ·obtain⟨x6,hx7,h⟩:=bind_some h
   obtain⟨y8,hx9,h⟩:=bind_some h
   obtain⟨x10,hx11,h⟩:=bind_some h
   obtain⟨y12,hx13,h⟩:=bind_some h
   refine rn 4 rfl ?_
   refine dr mixed (vs 3 rfl (iD hx7 rfl rfl rfl (vs 1 rfl (cD rfl rfl rfl rfl (W55 _ _ _ hx9) rfl (vs 4 rfl (iD hx11 rfl rfl rfl (vs 1 rfl (cD rfl rfl rfl rfl (W55 _ _ _ hx13) rfl (vs 1 rfl .nil))))))))) (by kernel_rfl) ?_
   refine spC h rfl (fun hb14 h=>?_) (fun hb14 h=>?_)
   ·refine rn 4 rfl ?_
    exact rt h rfl
   refine rn 7 rfl ?_
   exact jX (w64 (n4+1)) h (g0 rfl rfl)
  refine rn 1 rfl ?_
  exact jX () h (g0 rfl rfl)
 intro _ h
 refine rn 4 rfl ?_
 exact rt h rfl
set_option maxHeartbeats 4000000 in
theorem W14(F:Nat)(a1:Int)(a2:List TIface)(a3:List TType)(a4:List TFunc)(a5:List (List UInt8))(r:(Bool×(List TIface)×(List TType)×(List TFunc)×(List (List UInt8))))(h:M14 F a1 a2 a3 a4 a5=some r):MutG (gl mx) Tryz.prog 14 [(V.ptr 0 5 0 0)] 5 [(0,(Ob.arr 39 5 [[(V.own 1 a2.length),(V.own 2 a3.length),(V.own 3 a4.length),(V.own 4 a5.length),(iV a1)]])),(1,(Ob.arr 56 2 (a2.map encTIface))),(2,(Ob.arr 61 2 (a3.map dencTType))),(3,(Ob.arr 71 4 (a4.map dencTFunc))),(4,(Ob.arr 9 1 (a5.map encS)))] (resV [(bV (r.1))]) 5 [(0,(Ob.arr 39 5 [[(V.lst 2 ((r.2.1).map encTIface)),(V.lst 2 ((r.2.2.1).map encTType)),(V.lst 4 ((r.2.2.2.1).map encTFunc)),(V.own 4 (r.2.2.2.2).length),(iV a1)]])),(1,Ob.dead),(2,Ob.dead),(3,Ob.dead),(4,(Ob.arr 9 1 ((r.2.2.2.2).map encS)))]:=by
 refine mut_enter Tryz.func14 rfl rfl (l:=[.tmp 2]) rfl rfl [(0,(V.ptr 0 5 0 0))] rfl (fun w0 m0 β0 hg=>en ?_)
 unfold M14 at h
 refine rn 18 rfl ?_
 refine jK h (fun(p:Bool×(List TType))=>(⟨[(0,(V.ptr 0 5 0 0)),(3,(bV (p.1)))],[(0,(Ob.arr 39 5 [[(V.own 1 a2.length),(V.own 2 (p.2).length),(V.own 3 a4.length),(V.own 4 a5.length),(iV a1)]])),(1,(Ob.arr 56 2 (a2.map encTIface))),(2,(Ob.arr 61 2 ((p.2).map dencTType))),(3,(Ob.arr 71 4 (a4.map dencTFunc))),(4,(Ob.arr 9 1 (a5.map encS)))],5⟩:St)) (fun k82 p=>k82 p.1 p.2=some r) (fun k82 h=>?_) ?_
 ·refine rn 1 rfl ?_
  refine wlO (A:=a3) 2 rfl (fun hA105=>?_)
  refine lC (fun(p:Bool×Int×(List TType))=>(⟨[(0,(V.ptr 0 5 0 0)),(3,(bV (p.1))),(11,(iV ((a3.length:Nat):Int))),(12,(iV (p.2.1)))],[(0,(Ob.arr 39 5 [[(V.own 1 a2.length),(V.own 2 (p.2.2).length),(V.own 3 a4.length),(V.own 4 a5.length),(iV a1)]])),(1,(Ob.arr 56 2 (a2.map encTIface))),(2,(Ob.arr 61 2 ((p.2.2).map dencTType))),(3,(Ob.arr 71 4 (a4.map dencTFunc))),(4,(Ob.arr 9 1 (a5.map encS)))],5⟩:St)) (fun n p=>RC ((a3.length:Nat):Int) (fun tl nn=>M14_L1 F k82 tl nn p.1 p.2.2=some r) n p.2.1) (fun p h=>RC.zero h) (Int.toNat ((a3.length:Nat):Int)+1) (false,0,a3) (RC.start h) (gr [0,1,2,3,4] rfl (hB rfl rfl rfl (hR rfl rfl (hR rfl rfl (hR rfl rfl (hR rfl rfl .nil))))) rfl) (fun n p h=>?_)
  obtain⟨b88,n89,l90⟩:=p
  refine rn 5 rfl ?_
  refine spL rfl (fun hb91=>?_) (fun hb91=>?_)
  ·obtain⟨tl,h,hk1⟩:=RC.t (by unfold maxLen at hA105;omega) h hb91
   unfold M14_L1 at h
   refine rn 2 rfl ?_
   refine jK h (fun(p:Bool×(List TType))=>(⟨[(0,(V.ptr 0 5 0 0)),(3,(bV (p.1))),(11,(iV ((a3.length:Nat):Int))),(12,(iV n89))],[(0,(Ob.arr 39 5 [[(V.own 1 a2.length),(V.own 2 (p.2).length),(V.own 3 a4.length),(V.own 4 a5.length),(iV a1)]])),(1,(Ob.arr 56 2 (a2.map encTIface))),(2,(Ob.arr 61 2 ((p.2).map dencTType))),(3,(Ob.arr 71 4 (a4.map dencTFunc))),(4,(Ob.arr 9 1 (a5.map encS)))],5⟩:St)) (fun k92 p=>k92 p.1 p.2=some r) (fun k92 h=>?_) ?_
   ·refine rn 13 rfl ?_
    refine ixo (a:=l90) h rfl rfl rfl (fun x95 hx96 h=>?_)
    refine rn 1 rfl ?_
    refine aops_load_takeS dencTType encTMethod rfl tC59 wants_none rfl rfl (idx_some hx96).2 rfl rfl rfl ?_
    obtain⟨y97,hx98,h⟩:=bind_some h
    refine fo (rn 5 rfl ?_)
    refine ck h (fun hc99 h=>?_)
    refine aops_mcallS (V.tup []) [(V.own 5 x95.Methods.length),(V.fn (.func 41) [] [])] (fun i=>([5]:List Nat).getD i 0) (fun i=>([5]:List Nat).getD i 0) 6 6 [(5,(Ob.arr 64 2 (y97.map encTMethod)))] fOk40 wants_none rfl (evm_cons rfl (evm_cons rfl evm_nil)) (.cons (Sub.own rfl rfl) (.cons (Sub.imm (Imm.fn .nil .nil)) .nil)) (.cons rfl (ObSub.rows (rows_imm imms_encTMethod)) .nil) (W40 F x95.Methods y97 hx98) rfl rfl rfl rfl (Sub.immT (Imm.tup .nil)) (.cons rfl (ObSub.rowsT (rows_imm imms_encTMethod)) .nil) _ rfl ?_
    refine aops_ghost (ghost_tell 22 (V.own 5 y97.length) rfl (Sub.ownI hc99)) ?_
    refine aops_ghost (ghost_tell 5 (V.own 5 y97.length) rfl (Sub.ownI hc99)) ?_
    refine aops_ghost (ghost_tell 23 (V.own 5 y97.length) rfl (Sub.ownI hc99)) ?_
    refine fo (rn 4 rfl ?_)
    refine spO 26 h rfl (fun hb100 h=>?_) (fun hb100 h=>?_)
    ·refine rn 6 rfl ?_
     refine ck h (fun hc101 h=>?_)
     exact jX (true,(l90.set (n89.toNat) ({ x95 with Methods:=y97 }:TType))) h (Ghost.trans (ghost_untakeS 2 (n89.toNat) 1 5 dencTType encTMethod (fun z=>(imms_encTMethod z).keep) (l90.set (n89.toNat) ({ x95 with Methods:=y97 }:TType)) (by rfl) (Nat.le_of_ble_eq_true rfl) (by simpa using idx_lt hx96) (by rfl) hc101 rfl (by rw[List.map_set];rfl)) (ghost_ren 5 (fun i=>([0,1,2,3,4]:List Nat).getD i 0) _ _ (by decide) (EnvSub.get (.cons (Sub.ptr rfl rfl) (.cons (Sub.imm (Imm.con _)) (.cons (Sub.imm (Imm.con _)) (.cons (Sub.imm (Imm.con _)) .nil))))) (HpSub.get (.cons rfl (ObSub.box (.cons (Sub.own rfl rfl) (.cons (Sub.ownE rfl rfl (by simp)) (.cons (Sub.own rfl rfl) (.cons (Sub.own rfl rfl) (.cons (Sub.imm (Imm.con _)) .nil)))))) (.cons rfl (ObSub.rows (rows_imm imms_encTIface)) (.cons rfl (ObSub.rowsK RK.h) (.cons rfl (ObSub.rowsK RK.h) (.cons rfl (ObSub.rows (rows_imm imms_encS)) .nil)))))) rfl))
    obtain⟨y102,hx103,h⟩:=bind_some h
    refine rn 1 rfl ?_
    refine aops_lend_call (bV y102) [(V.lst 2 (y97.map encTMethod)),(V.fn (.func 44) [] [])] fOk43 (ghost_frzEs 5 [27,22,5,23] rfl (rows_imm imms_encTMethod) (List.forall_mem_cons.2 ⟨rfl,(List.forall_mem_cons.2 ⟨rfl,(List.forall_mem_cons.2 ⟨rfl,(List.forall_mem_cons.2 ⟨rfl,(fun _ hx=>nomatch hx)⟩)⟩)⟩)⟩) (List.length_map ..).symm) (Flat.con _) (wants_some (c:=false) (b:=false) 26 rfl rfl rfl) (evm_cons rfl (evm_cons rfl evm_nil)) (.cons (Imm.lst _ _) (.cons (Imm.fn .nil .nil) .nil)) (W43 F y97 y102 hx103) rfl ?_
    refine fo (rn 4 rfl ?_)
    refine ck h (fun hc104 h=>?_)
    exact jX (y102,(l90.set (n89.toNat) ({ x95 with Methods:=y97 }:TType))) h (Ghost.trans (ghost_untakeS 2 (n89.toNat) 1 5 dencTType encTMethod (fun z=>(imms_encTMethod z).keep) (l90.set (n89.toNat) ({ x95 with Methods:=y97 }:TType)) (by rfl) (Nat.le_of_ble_eq_true rfl) (by simpa using idx_lt hx96) (by rfl) hc104 rfl (by rw[List.map_set];rfl)) (ghost_ren 5 (fun i=>([0,1,2,3,4]:List Nat).getD i 0) _ _ (by decide) (EnvSub.get (.cons (Sub.ptr rfl rfl) (.cons (Sub.imm (Imm.con _)) (.cons (Sub.imm (Imm.con _)) (.cons (Sub.imm (Imm.con _)) .nil))))) (HpSub.get (.cons rfl (ObSub.box (.cons (Sub.own rfl rfl) (.cons (Sub.ownE rfl rfl (by simp)) (.cons (Sub.own rfl rfl) (.cons (Sub.own rfl rfl) (.cons (Sub.imm (Imm.con _)) .nil)))))) (.cons rfl (ObSub.rows (rows_imm imms_encTIface)) (.cons rfl (ObSub.rowsK RK.h) (.cons rfl (ObSub.rowsK RK.h) (.cons rfl (ObSub.rows (rows_imm imms_encS)) .nil)))))) rfl))
   rintro⟨b93,l94⟩ h
   refine rn 4 rfl ?_
   exact jX (b93,(w64 (n89+1)),l94) (hk1 _ h) (gr [0,1,2,3,4] rfl (hB rfl rfl rfl (hR rfl rfl (hR rfl rfl (hR rfl rfl (hR rfl rfl .nil))))) rfl)
  replace h:=RC.f h hb91
  unfold M14_L1 at h
  refine rn 1 rfl ?_
  exact jX (b88,l90) h (gr [0,1,2,3,4] rfl (hB rfl rfl rfl (hR rfl rfl (hR rfl rfl (hR rfl rfl (hR rfl rfl .nil))))) rfl)
 rintro⟨b83,l84⟩ h
 refine rn 10 rfl ?_
 refine jK h (fun(p:Bool×(List TFunc))=>(⟨[(0,(V.ptr 0 5 0 0)),(3,(bV (p.1)))],[(0,(Ob.arr 39 5 [[(V.own 1 a2.length),(V.own 2 l84.length),(V.own 3 (p.2).length),(V.own 4 a5.length),(iV a1)]])),(1,(Ob.arr 56 2 (a2.map encTIface))),(2,(Ob.arr 61 2 (l84.map dencTType))),(3,(Ob.arr 71 4 ((p.2).map dencTFunc))),(4,(Ob.arr 9 1 (a5.map encS)))],5⟩:St)) (fun k106 p=>k106 p.1 p.2=some r) (fun k106 h=>?_) ?_
 ·refine rn 1 rfl ?_
  refine wlO (A:=a4) 3 rfl (fun hA131=>?_)
  refine lC (fun(p:Bool×Int×(List TFunc))=>(⟨[(0,(V.ptr 0 5 0 0)),(3,(bV (p.1))),(35,(iV ((a4.length:Nat):Int))),(36,(iV (p.2.1)))],[(0,(Ob.arr 39 5 [[(V.own 1 a2.length),(V.own 2 l84.length),(V.own 3 (p.2.2).length),(V.own 4 a5.length),(iV a1)]])),(1,(Ob.arr 56 2 (a2.map encTIface))),(2,(Ob.arr 61 2 (l84.map dencTType))),(3,(Ob.arr 71 4 ((p.2.2).map dencTFunc))),(4,(Ob.arr 9 1 (a5.map encS)))],5⟩:St)) (fun n p=>RC ((a4.length:Nat):Int) (fun tl nn=>M14_L2 F k106 tl nn p.1 p.2.2=some r) n p.2.1) (fun p h=>RC.zero h) (Int.toNat ((a4.length:Nat):Int)+1) (b83,0,a4) (RC.start h) (gr [0,1,2,3,4] rfl (hB rfl rfl rfl (hR rfl rfl (hR rfl rfl (hR rfl rfl (hR rfl rfl .nil))))) rfl) (fun n p h=>?_)
  obtain⟨b112,n113,l114⟩:=p
  refine rn 5 rfl ?_
  refine spL rfl (fun hb115=>?_) (fun hb115=>?_)
  ·obtain⟨tl,h,hk2⟩:=RC.t (by unfold maxLen at hA131;omega) h hb115
   unfold M14_L2 at h
   refine rn 2 rfl ?_
   refine jK h (fun(p:Bool×(List TFunc))=>(⟨[(0,(V.ptr 0 5 0 0)),(3,(bV (p.1))),(35,(iV ((a4.length:Nat):Int))),(36,(iV n113))],[(0,(Ob.arr 39 5 [[(V.own 1 a2.length),(V.own 2 l84.length),(V.own 3 (p.2).length),(V.own 4 a5.length),(iV a1)]])),(1,(Ob.arr 56 2 (a2.map encTIface))),(2,(Ob.arr 61 2 (l84.map dencTType))),(3,(Ob.arr 71 4 ((p.2).map dencTFunc))),(4,(Ob.arr 9 1 (a5.map encS)))],5⟩:St)) (fun k116 p=>k116 p.1 p.2=some r) (fun k116 h=>?_) ?_
   ·refine rn 13 rfl ?_
    refine ixo (a:=l114) h rfl rfl rfl (fun x119 hx120 h=>?_)
    refine rn 1 rfl ?_
    refine aops_load_takeS dencTFunc encS rfl tC25 wants_none rfl rfl (idx_some hx120).2 rfl rfl rfl ?_
    obtain⟨y121,hx122,h⟩:=bind_some h
    refine ck h (fun hc123 h=>?_)
    refine aops_mcallS (V.tup []) [(V.own 5 x119.Makes.length)] (fun i=>([5]:List Nat).getD i 0) (fun i=>([5]:List Nat).getD i 0) 6 6 [(5,(Ob.arr 9 1 (y121.map encS)))] fOk45 wants_none rfl (evm_cons rfl evm_nil) (.cons (Sub.own rfl rfl) .nil) (.cons rfl (ObSub.rows (rows_imm imms_encS)) .nil) (W45 F x119.Makes y121 hx122) rfl rfl rfl rfl (Sub.immT (Imm.tup .nil)) (.cons rfl (ObSub.rowsT (rows_imm imms_encS)) .nil) _ rfl ?_
    refine aops_ghost (ghost_tell 46 (V.own 5 y121.length) rfl (Sub.ownI hc123)) ?_
    refine fo (rn 4 rfl ?_)
    refine spO 49 h rfl (fun hb124 h=>?_) (fun hb124 h=>?_)
    ·refine rn 13 rfl ?_
     refine ck h (fun hc125 h=>?_)
     exact jX (true,(l114.set (n113.toNat) ({ x119 with Makes:=y121 }:TFunc))) h (Ghost.trans (ghost_untakeS 3 (n113.toNat) 3 5 dencTFunc encS (fun z=>(imms_encS z).keep) (l114.set (n113.toNat) ({ x119 with Makes:=y121 }:TFunc)) (by rfl) (Nat.le_of_ble_eq_true rfl) (by simpa using idx_lt hx120) (by rfl) hc125 rfl (by rw[List.map_set];rfl)) (ghost_ren 5 (fun i=>([0,1,2,3,4]:List Nat).getD i 0) _ _ (by decide) (EnvSub.get (.cons (Sub.ptr rfl rfl) (.cons (Sub.imm (Imm.con _)) (.cons (Sub.imm (Imm.con _)) (.cons (Sub.imm (Imm.con _)) .nil))))) (HpSub.get (.cons rfl (ObSub.box (.cons (Sub.own rfl rfl) (.cons (Sub.own rfl rfl) (.cons (Sub.ownE rfl rfl (by simp)) (.cons (Sub.own rfl rfl) (.cons (Sub.imm (Imm.con _)) .nil)))))) (.cons rfl (ObSub.rows (rows_imm imms_encTIface)) (.cons rfl (ObSub.rowsK RK.h) (.cons rfl (ObSub.rowsK RK.h) (.cons rfl (ObSub.rows (rows_imm imms_encS)) .nil)))))) rfl))
    refine rn 5 rfl ?_
    refine ck h (fun hc126 h=>?_)
    obtain⟨x127,hx128,h⟩:=bind_some h
    refine aops_ghost (ghost_untakeS 3 (n113.toNat) 3 5 dencTFunc encS (fun z=>(imms_encS z).keep) (l114.set (n113.toNat) ({ x119 with Makes:=y121 }:TFunc)) (by rfl) (Nat.le_of_ble_eq_true rfl) (by simpa using idx_lt hx120) (by rfl) hc126 rfl (by rw[List.map_set];rfl)) ?_
    refine aops_index_own tSl24 (wants_some (c:=false) (b:=false) 49 rfl rfl rfl) rfl rfl (idx_some hx128).1 (by simpa using idx_lt hx128) rfl ?_
    refine fo (rn 1 rfl ?_)
    refine aops_load_takeS dencTFunc encS rfl tC25 (wants_some (c:=false) (b:=false) 49 rfl rfl rfl) rfl rfl (idx_some hx128).2 rfl rfl rfl ?_
    obtain⟨y129,hx130,h⟩:=bind_some h
    refine aops_lend_call (bV y129) [(V.lst 1 (x127.Makes.map encS)),(V.fn (.func 47) [] [])] fOk46 (ghost_frzE 6 57 rfl (rows_imm imms_encS) rfl (List.length_map ..).symm) (Flat.con _) (wants_some (c:=false) (b:=false) 49 rfl rfl rfl) (evm_cons rfl (evm_cons rfl evm_nil)) (.cons (Imm.lst _ _) (.cons (Imm.fn .nil .nil) .nil)) (W46 F x127.Makes y129 hx130) rfl ?_
    refine fo (rn 4 rfl ?_)
    exact jX (y129,(l114.set (n113.toNat) ({ x119 with Makes:=y121 }:TFunc))) h (Ghost.trans (ghost_untakeS 3 (n113.toNat) 3 6 dencTFunc encS (fun z=>(imms_encS z).keep) (l114.set (n113.toNat) ({ x119 with Makes:=y121 }:TFunc)) (by rfl) (Nat.le_of_ble_eq_true rfl) (by simpa using idx_lt hx128) (by rfl) rfl rfl (rows_same (idx_some hx128).2 rfl)) (ghost_ren 5 (fun i=>([0,1,2,3,4]:List Nat).getD i 0) _ _ (by decide) (EnvSub.get (.cons (Sub.ptr rfl rfl) (.cons (Sub.imm (Imm.con _)) (.cons (Sub.imm (Imm.con _)) (.cons (Sub.imm (Imm.con _)) .nil))))) (HpSub.get (.cons rfl (ObSub.box (.cons (Sub.own rfl rfl) (.cons (Sub.own rfl rfl) (.cons (Sub.ownE rfl rfl (by simp)) (.cons (Sub.own rfl rfl) (.cons (Sub.imm (Imm.con _)) .nil)))))) (.cons rfl (ObSub.rows (rows_imm imms_encTIface)) (.cons rfl (ObSub.rowsK RK.h) (.cons rfl (ObSub.rowsK RK.h) (.cons rfl (ObSub.rows (rows_imm imms_encS)) .nil)))))) rfl))
   rintro⟨b117,l118⟩ h
   refine rn 4 rfl ?_
   exact jX (b117,(w64 (n113+1)),l118) (hk2 _ h) (gr [0,1,2,3,4] rfl (hB rfl rfl rfl (hR rfl rfl (hR rfl rfl (hR rfl rfl (hR rfl rfl .nil))))) rfl)
  replace h:=RC.f h hb115
  unfold M14_L2 at h
  refine rn 1 rfl ?_
  exact jX (b112,l114) h (gr [0,1,2,3,4] rfl (hB rfl rfl rfl (hR rfl rfl (hR rfl rfl (hR rfl rfl (hR rfl rfl .nil))))) rfl)
 rintro⟨b107,l108⟩ h
 obtain⟨y132,hx133,h⟩:=bind_some h
 obtain⟨y134,hx135,h⟩:=bind_some h
 obtain⟨y136,hx137,h⟩:=bind_some h
 refine rn 1 rfl ?_
 refine dr mixed (vs 7 rfl (xD (OD.mk [(67,(V.own 1 a2.length))] [(1,(Ob.arr 56 2 (a2.map encTIface)))] [(68,(V.lst 2 (y132.map encTIface))),(67,(V.lst 2 (a2.map encTIface)))] [(1,Ob.dead)]) ⟨⟨rfl,trivial⟩,⟨rfl,trivial⟩⟩ (by exact fun S hn h hh=>aops_ghost (ghost_frzE 1 67 hh.1 (rows_imm imms_encTIface) h.1 (List.length_map ..).symm) (aops_call (V.lst 2 (y132.map encTIface)) [(V.lst 2 (a2.map encTIface)),(V.fn (.func 49) [] []),(V.fn (.func 50) [] [])] fOk48 wants_none (evm_cons rfl (evm_cons rfl (evm_cons rfl evm_nil))) (.cons (Imm.lst _ _) (.cons (Imm.fn .nil .nil) (.cons (Imm.fn .nil .nil) .nil))) (W48 F a2 y132 hx133) rfl (aops_nil ⟨rfl,rfl⟩))) rfl (vs 4 rfl (xD (OD.mk [(72,(V.own 2 l84.length))] [(2,(Ob.arr 61 2 (l84.map dencTType)))] [(73,(V.lst 2 (y134.map encTType))),(72,(V.lst 2 (l84.map encTType)))] [(2,Ob.dead)]) ⟨⟨rfl,trivial⟩,⟨rfl,trivial⟩⟩ (by exact fun S hn h hh=>aops_ghost (ghost_frzSE 2 72 und_dencTType hh.1 h.1 rfl) (aops_call (V.lst 2 (y134.map encTType)) [(V.lst 2 (l84.map encTType)),(V.fn (.func 52) [] []),(V.fn (.func 53) [] [])] fOk51 wants_none (evm_cons rfl (evm_cons rfl (evm_cons rfl evm_nil))) (.cons (Imm.lst _ _) (.cons (Imm.fn .nil .nil) (.cons (Imm.fn .nil .nil) .nil))) (W51 F l84 y134 hx135) rfl (aops_nil ⟨rfl,rfl⟩))) rfl (vs 4 rfl (xD (OD.mk [(77,(V.own 3 l108.length))] [(3,(Ob.arr 71 4 (l108.map dencTFunc)))] [(78,(V.lst 4 (y136.map encTFunc))),(77,(V.lst 4 (l108.map encTFunc)))] [(3,Ob.dead)]) ⟨⟨rfl,trivial⟩,⟨rfl,trivial⟩⟩ (by exact fun S hn h hh=>aops_ghost (ghost_frzSE 3 77 und_dencTFunc hh.1 h.1 rfl) (aops_call (V.lst 4 (y136.map encTFunc)) [(V.lst 4 (l108.map encTFunc)),(V.fn (.func 55) [] []),(V.fn (.func 56) [] [])] fOk54 wants_none (evm_cons rfl (evm_cons rfl (evm_cons rfl evm_nil))) (.cons (Imm.lst _ _) (.cons (Imm.fn .nil .nil) (.cons (Imm.fn .nil .nil) .nil))) (W54 F l108 y136 hx137) rfl (aops_nil ⟨rfl,rfl⟩))) rfl (vs 9 rfl .nil))))))) (by kernel_rfl) ?_
 obtain⟨y138,hx139,h⟩:=bind_some h
 refine rn 6 rfl ?_
 refine ck h (fun hc140 h=>?_)
 refine aops_mcallS (V.tup []) [(V.own 4 a5.length)] (fun i=>([4]:List Nat).getD i 0) (fun i=>([4]:List Nat).getD i 0) 5 5 [(4,(Ob.arr 9 1 (y138.map encS)))] fOk45 wants_none rfl (evm_cons rfl evm_nil) (.cons (Sub.own rfl rfl) .nil) (.cons rfl (ObSub.rows (rows_imm imms_encS)) .nil) (W45 F a5 y138 hx139) rfl rfl rfl rfl (Sub.immT (Imm.tup .nil)) (.cons rfl (ObSub.rowsT (rows_imm imms_encS)) .nil) _ rfl ?_
 refine aops_ghost (ghost_tell 88 (V.own 4 y138.length) rfl (Sub.ownI hc140)) ?_
 refine aops_ghost (ghost_tellC 0 (Ob.arr 39 5 [[(V.lst 2 (y132.map encTIface)),(V.lst 2 (y134.map encTType)),(V.lst 4 (y136.map encTFunc)),(V.own 4 y138.length),(iV a1)]]) rfl (ObSub.box (.cons Sub.keepI (.cons Sub.keepI (.cons Sub.keepI (.cons (Sub.ownI hc140) (.cons Sub.keepI .nil))))))) ?_
 refine fo (rn 6 rfl ?_)
 refine spO 92 h rfl (fun hb141 h=>?_) (fun hb141 h=>?_)
 ·refine rn 4 rfl ?_
  refine cl h rfl rfl rfl (W57 _ _) rfl (fun y142 hx143 h=>?_)
  refine rn 3 rfl ?_
  refine spO 100 h rfl (fun hb144 h=>?_) (fun hb144 h=>?_)
  ·refine rn 4 rfl ?_
   refine cl h rfl rfl rfl (W58 _ _) rfl (fun y145 hx146 h=>?_)
   refine rn 3 rfl ?_
   refine spO 108 h rfl (fun hb147 h=>?_) (fun hb147 h=>?_)
   ·refine rn 4 rfl ?_
    refine cl h rfl rfl rfl (W59 _ _) rfl (fun y148 hx149 h=>?_)
    refine rn 3 rfl ?_
    refine spO 116 h rfl (fun hb150 h=>?_) (fun hb150 h=>?_)
    ·obtain⟨y151,hx152,h⟩:=bind_some h
     refine rn 4 rfl ?_
     refine aops_lend_call (bV y151) [(V.lst 1 (y138.map encS)),(V.fn (.func 47) [] [])] fOk46 (ghost_frzEs 4 [120,88] rfl (rows_imm imms_encS) (List.forall_mem_cons.2 ⟨rfl,(List.forall_mem_cons.2 ⟨rfl,(fun _ hx=>nomatch hx)⟩)⟩) (List.length_map ..).symm) (Flat.con _) (wants_some (c:=true) (b:=true) 116 rfl rfl rfl) (evm_cons rfl (evm_cons rfl evm_nil)) (.cons (Imm.lst _ _) (.cons (Imm.fn .nil .nil) .nil)) (W46 F y138 y151 hx152) rfl ?_
     refine fo (rn 4 rfl ?_)
     replace h:=Option.some.inj h
     subst h
     exact wR ⟨.inl rfl,[(2,(bV (!y151)))],(gr [0,1,2,3,4] rfl (hB rfl rfl rfl (hD rfl (hD rfl (hD rfl (hR rfl rfl .nil))))) rfl),(.cons (.tmp rfl) .nil)⟩
    refine rn 9 rfl ?_
    replace h:=Option.some.inj h
    subst h
    exact wR ⟨.inl rfl,[(2,(bV false))],(gr [0,1,2,3,4] rfl (hB rfl rfl rfl (hD rfl (hD rfl (hD rfl (hR rfl rfl .nil))))) rfl),(.cons (.tmp rfl) .nil)⟩
   refine rn 17 rfl ?_
   replace h:=Option.some.inj h
   subst h
   exact wR ⟨.inl rfl,[(2,(bV false))],(gr [0,1,2,3,4] rfl (hB rfl rfl rfl (hD rfl (hD rfl (hD rfl (hR rfl rfl .nil))))) rfl),(.cons (.tmp rfl) .nil)⟩
  refine rn 25 rfl ?_
  replace h:=Option.some.inj h
  subst h
  exact wR ⟨.inl rfl,[(2,(bV false))],(gr [0,1,2,3,4] rfl (hB rfl rfl rfl (hD rfl (hD rfl (hD rfl (hR rfl rfl .nil))))) rfl),(.cons (.tmp rfl) .nil)⟩
 refine rn 33 rfl ?_
 replace h:=Option.some.inj h
 subst h
 exact wR ⟨.inl rfl,[(2,(bV false))],(gr [0,1,2,3,4] rfl (hB rfl rfl rfl (hD rfl (hD rfl (hD rfl (hR rfl rfl .nil))))) rfl),(.cons (.tmp rfl) .nil)⟩
set_option maxHeartbeats 4000000 in
theorem W5(F:Nat)(a1:(List UInt8))(r:(TGraph×Int×Int))(h:M5 F a1=some r):PureG (gl mx) Tryz.prog 5 [(sV a1)] (V.tup [(V.agg (encTGraph (r.1))),(iV (r.2.1)),(iV (r.2.2))]):=by
 refine pin (fun r=>(V.tup [(V.agg (encTGraph (r.1))),(iV (r.2.1)),(iV (r.2.2))])) r rfl Tryz.func5 rfl rfl rfl rfl rfl (fun w0 m0 hg=>?_)
 unfold M5 at h
 refine rn 13 rfl ?_
 refine spC h rfl (fun hb2 h=>?_) (fun hb2 h=>?_)
 ·refine rn 7 rfl ?_
  exact rt h rfl
 refine rn 11 rfl ?_
 refine cl h rfl rfl rfl (W11 _ _ _) rfl (fun y3 hx4 h=>?_)
 refine ln rfl rfl ?_
 refine rn 2 rfl ?_
 refine jK h (fun(p:Int×(List TIface)×(List TType)×(List TFunc)×(List (List UInt8)))=>(⟨[(2,(V.ptr 0 4 0 0)),(5,(V.ptr 1 5 0 0))],[(0,(Ob.arr 27 4 [[nV,nV,nV,nV]])),(1,(Ob.arr 39 5 [[(V.own 2 (p.2.1).length),(V.own 3 (p.2.2.1).length),(V.own 4 (p.2.2.2.1).length),(V.own 5 (p.2.2.2.2).length),(iV (p.1))]])),(2,(Ob.arr 56 2 ((p.2.1).map encTIface))),(3,(Ob.arr 61 2 ((p.2.2.1).map dencTType))),(4,(Ob.arr 71 4 ((p.2.2.2.1).map dencTFunc))),(5,(Ob.arr 9 1 ((p.2.2.2.2).map encS)))],6⟩:St)) (fun k5 p=>k5 p.1 p.2.1 p.2.2.1 p.2.2.2.1 p.2.2.2.2=some r) (fun k5 h=>?_) ?_
 ·refine rn 1 rfl ?_
  refine wl (A:=y3) 17 rfl (fun hA38=>?_)
  refine lC (fun(p:Int×Int×(List TIface)×(List TType)×(List TFunc)×(List (List UInt8)))=>(⟨[(2,(V.ptr 0 4 0 0)),(5,(V.ptr 1 5 0 0)),(17,(V.lst 1 (y3.map encS))),(18,(iV ((y3.length:Nat):Int))),(19,(iV (p.1)))],[(0,(Ob.arr 27 4 [[nV,nV,nV,nV]])),(1,(Ob.arr 39 5 [[(V.own 2 (p.2.2.1).length),(V.own 3 (p.2.2.2.1).length),(V.own 4 (p.2.2.2.2.1).length),(V.own 5 (p.2.2.2.2.2).length),(iV (p.2.1))]])),(2,(Ob.arr 56 2 ((p.2.2.1).map encTIface))),(3,(Ob.arr 61 2 ((p.2.2.2.1).map dencTType))),(4,(Ob.arr 71 4 ((p.2.2.2.2.1).map dencTFunc))),(5,(Ob.arr 9 1 ((p.2.2.2.2.2).map encS)))],6⟩:St)) (fun n p=>RG y3 (fun tl nn=>M5_L1 F k5 tl nn p.2.1 p.2.2.1 p.2.2.2.1 p.2.2.2.2.1 p.2.2.2.2.2=some r) n p.1) (fun p h=>RG.zero h) (y3.length+1) (0,0,([]:List TIface),([]:List TType),([]:List TFunc),([]:List (List UInt8))) (RG.start h) (Ghost.trans (ghost_nilC 1 56 2 (Ob.arr 39 5 [[(V.own 2 0),nV,nV,nV,(iV 0)]]) (ObSub.box (.cons Sub.mkNil (.cons Sub.keepNil (.cons Sub.keepNil (.cons Sub.keepNil (.cons Sub.keepNil .nil))))))) (Ghost.trans (ghost_nilC 1 61 2 (Ob.arr 39 5 [[(V.own 2 0),(V.own 3 0),nV,nV,(iV 0)]]) (ObSub.box (.cons Sub.keepNil (.cons Sub.mkNil (.cons Sub.keepNil (.cons Sub.keepNil (.cons Sub.keepNil .nil))))))) (Ghost.trans (ghost_nilC 1 71 4 (Ob.arr 39 5 [[(V.own 2 0),(V.own 3 0),(V.own 4 0),nV,(iV 0)]]) (ObSub.box (.cons Sub.keepNil (.cons Sub.keepNil (.cons Sub.mkNil (.cons Sub.keepNil (.cons Sub.keepNil .nil))))))) (Ghost.trans (ghost_nilC 1 9 1 (Ob.arr 39 5 [[(V.own 2 0),(V.own 3 0),(V.own 4 0),(V.own 5 0),(iV 0)]]) (ObSub.box (.cons Sub.keepNil (.cons Sub.keepNil (.cons Sub.keepNil (.cons Sub.mkNil (.cons Sub.keepNil .nil))))))) (ghost_ren 6 (fun i=>([0,1,2,3,4,5]:List Nat).getD i 0) _ _ (by decide) (EnvSub.get (.cons (Sub.ptr rfl rfl) (.cons (Sub.ptr rfl rfl) (.cons (Sub.imm (Imm.lst _ _)) (.cons (Sub.imm (Imm.con _)) (.cons (Sub.imm (Imm.con _)) .nil)))))) (HpSub.get (.cons rfl (ObSub.box (.cons (Sub.imm (Imm.con _)) (.cons (Sub.imm (Imm.con _)) (.cons (Sub.imm (Imm.con _)) (.cons (Sub.imm (Imm.con _)) .nil))))) (.cons rfl (ObSub.box (.cons (Sub.ownE rfl rfl (by simp)) (.cons (Sub.ownE rfl rfl (by simp)) (.cons (Sub.ownE rfl rfl (by simp)) (.cons (Sub.ownE rfl rfl (by simp)) (.cons (Sub.imm (Imm.con _)) .nil)))))) (.cons rfl (ObSub.rows (rows_imm imms_encTIface)) (.cons rfl (ObSub.rowsK RK.h) (.cons rfl (ObSub.rowsK RK.h) (.cons rfl (ObSub.rows (rows_imm imms_encS)) .nil))))))) rfl))))) (fun n p h=>?_)
  obtain⟨n17,n18,l19,l20,l21,l22⟩:=p
  refine rn 5 rfl ?_
  refine spL rfl (fun hb23=>?_) (fun hb23=>?_)
  ·obtain⟨x30,tl,hx31,h,hk1⟩:=RG.t hA38 h hb23
   unfold M5_L1 at h
   refine rn 2 rfl ?_
   refine jK h (fun(p:Int×(List TIface)×(List TType)×(List TFunc)×(List (List UInt8)))=>(⟨[(2,(V.ptr 0 4 0 0)),(5,(V.ptr 1 5 0 0)),(17,(V.lst 1 (y3.map encS))),(18,(iV ((y3.length:Nat):Int))),(19,(iV n17))],[(0,(Ob.arr 27 4 [[nV,nV,nV,nV]])),(1,(Ob.arr 39 5 [[(V.own 2 (p.2.1).length),(V.own 3 (p.2.2.1).length),(V.own 4 (p.2.2.2.1).length),(V.own 5 (p.2.2.2.2).length),(iV (p.1))]])),(2,(Ob.arr 56 2 ((p.2.1).map encTIface))),(3,(Ob.arr 61 2 ((p.2.2.1).map dencTType))),(4,(Ob.arr 71 4 ((p.2.2.2.1).map dencTFunc))),(5,(Ob.arr 9 1 ((p.2.2.2.2).map encS)))],6⟩:St)) (fun k24 p=>k24 p.1 p.2.1 p.2.2.1 p.2.2.2.1 p.2.2.2.2=some r) (fun k24 h=>?_) ?_
   ·refine rn 4 rfl ?_
    refine ixh hx31 rfl rfl ?_
    refine rn 7 rfl ?_
    refine cl h rfl rfl rfl (W12 _ _) rfl (fun y32 hx33 h=>?_)
    refine rn 5 rfl ?_
    refine ln rfl rfl ?_
    refine rn 2 rfl ?_
    refine spO 29 h rfl (fun hb34 h=>?_) (fun hb34 h=>?_)
    ·obtain⟨y35,hx36,h⟩:=bind_some h
     refine rn 2 rfl ?_
     refine aops_mcallS (bV (y35.1)) [(V.ptr 1 5 0 0),(V.lst 1 (y32.map encS))] (fun i=>([1,2,3,4,5]:List Nat).getD i 0) (fun i=>([1,2,3,4,5,6,7,8,9]:List Nat).getD i 0) 6 10 [(1,(Ob.arr 39 5 [[(V.own 6 (y35.2.2.1).length),(V.own 7 (y35.2.2.2.1).length),(V.own 8 (y35.2.2.2.2.1).length),(V.own 9 (y35.2.2.2.2.2).length),(iV (y35.2.1))]])),(2,Ob.dead),(3,Ob.dead),(4,Ob.dead),(5,Ob.dead),(6,(Ob.arr 56 2 ((y35.2.2.1).map encTIface))),(7,(Ob.arr 61 2 ((y35.2.2.2.1).map dencTType))),(8,(Ob.arr 71 4 ((y35.2.2.2.2.1).map dencTFunc))),(9,(Ob.arr 9 1 ((y35.2.2.2.2.2).map encS)))] fOk13 (wants_some (c:=true) (b:=true) 29 rfl rfl rfl) rfl (evm_cons rfl (evm_cons rfl evm_nil)) (.cons (Sub.ptr rfl rfl) (.cons (Sub.imm (Imm.lst _ _)) .nil)) (.cons rfl (ObSub.box (.cons (Sub.own rfl rfl) (.cons (Sub.own rfl rfl) (.cons (Sub.own rfl rfl) (.cons (Sub.own rfl rfl) (.cons (Sub.imm (Imm.con _)) .nil)))))) (.cons rfl (ObSub.rows (rows_imm imms_encTIface)) (.cons rfl (ObSub.rowsK RK.h) (.cons rfl (ObSub.rowsK RK.h) (.cons rfl (ObSub.rows (rows_imm imms_encS)) .nil))))) (W13 F y32 n18 l19 l20 l21 l22 y35 hx36) rfl rfl rfl rfl (Sub.immT (Imm.con _)) (.cons rfl (ObSub.box (.cons (Sub.ownT rfl rfl) (.cons (Sub.ownT rfl rfl) (.cons (Sub.ownT rfl rfl) (.cons (Sub.ownT rfl rfl) (.cons (Sub.immT (Imm.con _)) .nil)))))) (.cons rfl ObSub.deadT (.cons rfl ObSub.deadT (.cons rfl ObSub.deadT (.cons rfl ObSub.deadT (.cons rfl (ObSub.rowsT (rows_imm imms_encTIface)) (.cons rfl (ObSub.rowsTK RK.h) (.cons rfl (ObSub.rowsTK RK.h) (.cons rfl (ObSub.rowsT (rows_imm imms_encS)) .nil))))))))) _ rfl ?_
     refine fo (rn 3 rfl ?_)
     refine spC h rfl (fun hb37 h=>?_) (fun hb37 h=>?_)
     ·refine rn 8 rfl ?_
      exact rt h rfl
     refine rn 2 rfl ?_
     exact jX ((y35.2.1),(y35.2.2.1),(y35.2.2.2.1),(y35.2.2.2.2.1),(y35.2.2.2.2.2)) h (gr [0,1,6,7,8,9] rfl (hB rfl rfl rfl (hB rfl rfl rfl (hR rfl rfl (hR rfl rfl (hR rfl rfl (hR rfl rfl .nil)))))) rfl)
    refine rn 9 rfl ?_
    exact jX (n18,l19,l20,l21,l22) h (gr [0,1,2,3,4,5] rfl (hB rfl rfl rfl (hB rfl rfl rfl (hR rfl rfl (hR rfl rfl (hR rfl rfl (hR rfl rfl .nil)))))) rfl)
   rintro⟨n25,l26,l27,l28,l29⟩ h
   refine rn 4 rfl ?_
   exact jX ((w64 (n17+1)),n25,l26,l27,l28,l29) (hk1 _ h) (gr [0,1,2,3,4,5] rfl (hB rfl rfl rfl (hB rfl rfl rfl (hR rfl rfl (hR rfl rfl (hR rfl rfl (hR rfl rfl .nil)))))) rfl)
  replace h:=RG.f h hb23
  unfold M5_L1 at h
  refine rn 1 rfl ?_
  exact jX (n18,l19,l20,l21,l22) h (gr [0,1,2,3,4,5] rfl (hB rfl rfl rfl (hB rfl rfl rfl (hR rfl rfl (hR rfl rfl (hR rfl rfl (hR rfl rfl .nil)))))) rfl)
 rintro⟨n6,l7,l8,l9,l10⟩ h
 obtain⟨y39,hx40,h⟩:=bind_some h
 refine rn 6 rfl ?_
 refine aops_mcallS (bV (y39.1)) [(V.ptr 1 5 0 0)] (fun i=>([1,2,3,4,5]:List Nat).getD i 0) (fun i=>([1,2,3,4,5]:List Nat).getD i 0) 6 6 [(1,(Ob.arr 39 5 [[(V.lst 2 ((y39.2.1).map encTIface)),(V.lst 2 ((y39.2.2.1).map encTType)),(V.lst 4 ((y39.2.2.2.1).map encTFunc)),(V.own 5 (y39.2.2.2.2).length),(iV n6)]])),(2,Ob.dead),(3,Ob.dead),(4,Ob.dead),(5,(Ob.arr 9 1 ((y39.2.2.2.2).map encS)))] fOk14 wants_none rfl (evm_cons rfl evm_nil) (.cons (Sub.ptr rfl rfl) .nil) (.cons rfl (ObSub.box (.cons (Sub.own rfl rfl) (.cons (Sub.own rfl rfl) (.cons (Sub.own rfl rfl) (.cons (Sub.own rfl rfl) (.cons (Sub.imm (Imm.con _)) .nil)))))) (.cons rfl (ObSub.rows (rows_imm imms_encTIface)) (.cons rfl (ObSub.rowsK RK.h) (.cons rfl (ObSub.rowsK RK.h) (.cons rfl (ObSub.rows (rows_imm imms_encS)) .nil))))) (W14 F n6 l7 l8 l9 l10 y39 hx40) rfl rfl rfl rfl (Sub.immT (Imm.con _)) (.cons rfl (ObSub.box (.cons (Sub.immT (Imm.lst _ _)) (.cons (Sub.immT (Imm.lst _ _)) (.cons (Sub.immT (Imm.lst _ _)) (.cons (Sub.ownT rfl rfl) (.cons (Sub.immT (Imm.con _)) .nil)))))) (.cons rfl ObSub.deadT (.cons rfl ObSub.deadT (.cons rfl ObSub.deadT (.cons rfl (ObSub.rowsT (rows_imm imms_encS)) .nil))))) _ rfl ?_
 refine fo (rn 2 rfl ?_)
 refine spC h rfl (fun hb41 h=>?_) (fun hb41 h=>?_)
 ·refine rn 7 rfl ?_
  exact rt h rfl
 obtain⟨y42,hx43,h⟩:=bind_some h
 refine rn 8 rfl ?_
 refine aops_lend_call (iV y42) [(V.agg [(V.lst 2 ((y39.2.1).map encTIface)),(V.lst 2 ((y39.2.2.1).map encTType)),(V.lst 4 ((y39.2.2.2.1).map encTFunc)),(V.lst 1 ((y39.2.2.2.2).map encS))])] fOk15 (ghost_frzV 5 47 (V.agg [(V.lst 2 ((y39.2.1).map encTIface)),(V.lst 2 ((y39.2.2.1).map encTType)),(V.lst 4 ((y39.2.2.2.1).map encTFunc)),(V.lst 1 ((y39.2.2.2.2).map encS))]) rfl (rows_imm imms_encS) rfl (Sub.agg (.cons Sub.keep (.cons Sub.keep (.cons Sub.keep (.cons (Sub.frzAll (rows:=(y39.2.2.2.2).map encS) (List.length_map ..).symm) .nil)))))) (Flat.con _) wants_none (evm_cons rfl evm_nil) (.cons (Imm.agg (.cons (Imm.lst _ _) (.cons (Imm.lst _ _) (.cons (Imm.lst _ _) (.cons (Imm.lst _ _) .nil))))) .nil) (W15 F (TGraph.mk (y39.2.1) (y39.2.2.1) (y39.2.2.2.1) (y39.2.2.2.2)) y42 hx43) rfl ?_
 refine fo (rn 7 rfl ?_)
 refine spC h rfl (fun hb44 h=>?_) (fun hb44 h=>?_)
 ·refine rn 8 rfl ?_
  exact rt h rfl
 refine rn 11 rfl ?_
 refine awp_ghost (ghost_frzC 5 0 (Ob.arr 27 4 [[(V.lst 2 ((y39.2.1).map encTIface)),(V.lst 2 ((y39.2.2.1).map encTType)),(V.lst 4 ((y39.2.2.2.1).map encTFunc)),(V.lst 1 ((y39.2.2.2.2).map encS))]]) rfl (rows_imm imms_encS) (ObSub.box (.cons Sub.keep (.cons Sub.keep (.cons Sub.keep (.cons (Sub.frzAll (rows:=(y39.2.2.2.2).map encS) (List.length_map ..).symm) .nil)))))) ?_
 refine fa ?_
 exact rt h rfl
theorem W24(F:Nat)(a1:(List (List UInt8)))(a2:(List (List UInt8)))(r:Bool)(h:M24 F a1 a2=some r):PureG (gl mx) Tryz.prog 24 [(V.lst 1 (a1.map encS)),(V.lst 1 (a2.map encS))] (bV r):=by
 refine pin (fun r=>(bV r)) r rfl Tryz.func24 rfl rfl rfl rfl rfl (fun w0 m0 hg=>?_)
 unfold M24 at h
 refine rn 8 rfl ?_
 refine ln rfl rfl ?_
 refine rn 1 rfl ?_
 refine ln rfl rfl ?_
 refine rn 2 rfl ?_
 refine spC h rfl (fun hb3 h=>?_) (fun hb3 h=>?_)
 ·refine rn 4 rfl ?_
  exact rt h rfl
 refine rn 5 rfl ?_
 refine ln rfl rfl ?_
 refine rn 2 rfl ?_
 refine jK h (fun _:Unit=>(⟨[],[],0⟩:St)) (fun k4 (_:Unit)=>k4=some r) (fun k4 h=>?_) ?_
 ·refine rn 1 rfl ?_
  refine wl (A:=a1) 0 rfl (fun hA13=>?_)
  refine lC (fun(p:Int)=>(⟨[(0,(V.lst 1 (a1.map encS))),(1,(V.lst 1 (a2.map encS))),(12,(iV ((a1.length:Nat):Int))),(13,(iV p))],[],0⟩:St)) (fun n p=>RG a1 (fun tl nn=>M24_L1 F a2 k4 tl nn=some r) n p) (fun p h=>RG.zero h) (a1.length+1) 0 (RG.start h) (g0 rfl rfl) (fun n n6 h=>?_)
  refine rn 5 rfl ?_
  refine spL rfl (fun hb7=>?_) (fun hb7=>?_)
  ·obtain⟨x8,tl,hx9,h,hk1⟩:=RG.t hA13 h hb7
   unfold M24_L1 at h
   obtain⟨x10,hx11,h⟩:=bind_some h
   refine rn 9 rfl ?_
   refine dr mixed (vs 2 rfl (iD hx9 rfl rfl rfl (vs 3 rfl (iD hx11 rfl rfl rfl (vs 2 rfl .nil))))) (by kernel_rfl) ?_
   refine spC h rfl (fun hb12 h=>?_) (fun hb12 h=>?_)
   ·refine rn 4 rfl ?_
    exact rt h rfl
   refine rn 6 rfl ?_
   exact jX (w64 (n6+1)) (hk1 _ h) (g0 rfl rfl)
  replace h:=RG.f h hb7
  unfold M24_L1 at h
  refine rn 1 rfl ?_
  exact jX () h (g0 rfl rfl)
 intro _ h
 refine rn 4 rfl ?_
 exact rt h rfl
theorem W23(F:Nat)(a1:TIface)(a2:TIface)(r:Bool)(h:M23 F a1 a2=some r):PureG (gl mx) Tryz.prog 23 [(V.agg (encTIface a1)),(V.agg (encTIface a2))] (bV r):=by
 refine pin (fun r=>(bV r)) r rfl Tryz.func23 rfl rfl rfl rfl rfl (fun w0 m0 hg=>?_)
 unfold M23 at h
 refine rn 14 rfl ?_
 refine spO 10 h rfl (fun hb3 h=>?_) (fun hb3 h=>?_)
 ·refine rn 4 rfl ?_
  refine cl h rfl rfl rfl (W24 _ _ _) rfl (fun y4 hx5 h=>?_)
  refine rn 3 rfl ?_
  exact rt h rfl
 refine rn 8 rfl ?_
 exact rt h rfl
theorem W27(F:Nat)(a1:(List TIface))(a2:(List TIface))(r:Bool)(h:M27 F a1 a2=some r):PureG (gl mx) Tryz.prog 27 [(V.lst 2 (a1.map encTIface)),(V.lst 2 (a2.map encTIface)),(V.fn (.func 23) [] [])] (bV r):=by
 refine pin (fun r=>(bV r)) r rfl Tryz.func27 rfl rfl rfl rfl rfl (fun w0 m0 hg=>?_)
 unfold M27 at h
 refine rn 8 rfl ?_
 refine ln rfl rfl ?_
 refine rn 1 rfl ?_
 refine ln rfl rfl ?_
 refine rn 2 rfl ?_
 refine spC h rfl (fun hb3 h=>?_) (fun hb3 h=>?_)
 ·refine rn 4 rfl ?_
  exact rt h rfl
 refine rn 5 rfl ?_
 refine ln rfl rfl ?_
 refine rn 2 rfl ?_
 refine jK h (fun _:Unit=>(⟨[],[],0⟩:St)) (fun k4 (_:Unit)=>k4=some r) (fun k4 h=>?_) ?_
 ·refine rn 1 rfl ?_
  refine wl (A:=a1) 0 rfl (fun hA15=>?_)
  refine lC (fun(p:Int)=>(⟨[(1,(V.lst 2 (a2.map encTIface))),(2,(V.fn (.func 23) [] [])),(15,(V.lst 2 (a1.map encTIface))),(16,(iV ((a1.length:Nat):Int))),(17,(iV p))],[],0⟩:St)) (fun n p=>RG a1 (fun tl nn=>M27_L1 F a2 k4 tl nn=some r) n p) (fun p h=>RG.zero h) (a1.length+1) 0 (RG.start h) (g0 rfl rfl) (fun n n6 h=>?_)
  refine rn 5 rfl ?_
  refine spL rfl (fun hb7=>?_) (fun hb7=>?_)
  ·obtain⟨x8,tl,hx9,h,hk1⟩:=RG.t hA15 h hb7
   unfold M27_L1 at h
   refine rn 6 rfl ?_
   refine ixh hx9 rfl rfl ?_
   refine rn 9 rfl ?_
   refine ixl h rfl rfl (fun x10 hx11 h=>?_)
   refine rn 9 rfl ?_
   refine cl h rfl rfl rfl (W23 _ _ _) rfl (fun y12 hx13 h=>?_)
   refine rn 2 rfl ?_
   refine spC h rfl (fun hb14 h=>?_) (fun hb14 h=>?_)
   ·refine rn 4 rfl ?_
    exact rt h rfl
   refine rn 6 rfl ?_
   exact jX (w64 (n6+1)) (hk1 _ h) (g0 rfl rfl)
  replace h:=RG.f h hb7
  unfold M27_L1 at h
  refine rn 1 rfl ?_
  exact jX () h (g0 rfl rfl)
 intro _ h
 refine rn 4 rfl ?_
 exact rt h rfl
theorem W26(F:Nat)(a1:(List TMethod))(a2:(List TMethod))(r:Bool)(h:M26 F a1 a2=some r):PureG (gl mx) Tryz.prog 26 [(V.lst 2 (a1.map encTMethod)),(V.lst 2 (a2.map encTMethod))] (bV r):=by
 refine pin (fun r=>(bV r)) r rfl Tryz.func26 rfl rfl rfl rfl rfl (fun w0 m0 hg=>?_)
 unfold M26 at h
 refine rn 8 rfl ?_
 refine ln rfl rfl ?_
 refine rn 1 rfl ?_
 refine ln rfl rfl ?_
 refine rn 2 rfl ?_
 refine spC h rfl (fun hb3 h=>?_) (fun hb3 h=>?_)
 ·refine rn 4 rfl ?_
  exact rt h rfl
 refine rn 5 rfl ?_
 refine ln rfl rfl ?_
 refine rn 2 rfl ?_
 refine jK h (fun _:Unit=>(⟨[],[],0⟩:St)) (fun k4 (_:Unit)=>k4=some r) (fun k4 h=>?_) ?_
 ·refine rn 1 rfl ?_
  refine wl (A:=a1) 0 rfl (fun hA13=>?_)
  refine lC (fun(p:Int)=>(⟨[(0,(V.lst 2 (a1.map encTMethod))),(1,(V.lst 2 (a2.map encTMethod))),(12,(iV ((a1.length:Nat):Int))),(13,(iV p))],[],0⟩:St)) (fun n p=>RG a1 (fun tl nn=>M26_L1 F a2 k4 tl nn=some r) n p) (fun p h=>RG.zero h) (a1.length+1) 0 (RG.start h) (g0 rfl rfl) (fun n n6 h=>?_)
  refine rn 5 rfl ?_
  refine spL rfl (fun hb7=>?_) (fun hb7=>?_)
  ·obtain⟨x8,tl,hx9,h,hk1⟩:=RG.t hA13 h hb7
   unfold M26_L1 at h
   obtain⟨x10,hx11,h⟩:=bind_some h
   refine rn 9 rfl ?_
   refine dr mixed (vs 2 rfl (iD hx9 rfl rfl rfl (vs 3 rfl (iD hx11 rfl rfl rfl (vs 1 rfl (xD (OD.mk [(19,(V.agg (encTMethod x8))),(23,(V.agg (encTMethod x10)))] [] [(24,(bV (!(decide (x8=x10)))))] []) ⟨⟨rfl,rfl,trivial⟩,trivial⟩ (by exact fun S hn h hh=>aops_eqS true (xs:=cv64 x8) (ys:=cv64 x10) (b:=(decide (x8=x10))) eqk64 ⟨_,rfl⟩ ⟨_,rfl⟩ (eq_b cv64 _ _ (inj_cv64 _ _)) tEqG64 wants_none h.1 h.2.1 rfl (aops_nil ⟨rfl,rfl⟩)) rfl .nil)))))) (by kernel_rfl) ?_
   refine spC h rfl (fun hb12 h=>?_) (fun hb12 h=>?_)
   ·refine rn 4 rfl ?_
    exact rt h rfl
   refine rn 6 rfl ?_
   exact jX (w64 (n6+1)) (hk1 _ h) (g0 rfl rfl)
  replace h:=RG.f h hb7
  unfold M26_L1 at h
  refine rn 1 rfl ?_
  exact jX () h (g0 rfl rfl)
 intro _ h
 refine rn 4 rfl ?_
 exact rt h rfl
theorem W25(F:Nat)(a1:TType)(a2:TType)(r:Bool)(h:M25 F a1 a2=some r):PureG (gl mx) Tryz.prog 25 [(V.agg (encTType a1)),(V.agg (encTType a2))] (bV r):=by
 refine pin (fun r=>(bV r)) r rfl Tryz.func25 rfl rfl rfl rfl rfl (fun w0 m0 hg=>?_)
 unfold M25 at h
 refine rn 14 rfl ?_
 refine spO 10 h rfl (fun hb3 h=>?_) (fun hb3 h=>?_)
 ·refine rn 4 rfl ?_
  refine cl h rfl rfl rfl (W26 _ _ _) rfl (fun y4 hx5 h=>?_)
  refine rn 3 rfl ?_
  exact rt h rfl
 refine rn 8 rfl ?_
 exact rt h rfl
theorem W28(F:Nat)(a1:(List TType))(a2:(List TType))(r:Bool)(h:M28 F a1 a2=some r):PureG (gl mx) Tryz.prog 28 [(V.lst 2 (a1.map encTType)),(V.lst 2 (a2.map encTType)),(V.fn (.func 25) [] [])] (bV r):=by
 refine pin (fun r=>(bV r)) r rfl Tryz.func28 rfl rfl rfl rfl rfl (fun w0 m0 hg=>?_)
 unfold M28 at h
 refine rn 8 rfl ?_
 refine ln rfl rfl ?_
 refine rn 1 rfl ?_
 refine ln rfl rfl ?_
 refine rn 2 rfl ?_
 refine spC h rfl (fun hb3 h=>?_) (fun hb3 h=>?_)
 ·refine rn 4 rfl ?_
  exact rt h rfl
 refine rn 5 rfl ?_
 refine ln rfl rfl ?_
 refine rn 2 rfl ?_
 refine jK h (fun _:Unit=>(⟨[],[],0⟩:St)) (fun k4 (_:Unit)=>k4=some r) (fun k4 h=>?_) ?_
 ·refine rn 1 rfl ?_
  refine wl (A:=a1) 0 rfl (fun hA15=>?_)
  refine lC (fun(p:Int)=>(⟨[(1,(V.lst 2 (a2.map encTType))),(2,(V.fn (.func 25) [] [])),(15,(V.lst 2 (a1.map encTType))),(16,(iV ((a1.length:Nat):Int))),(17,(iV p))],[],0⟩:St)) (fun n p=>RG a1 (fun tl nn=>M28_L1 F a2 k4 tl nn=some r) n p) (fun p h=>RG.zero h) (a1.length+1) 0 (RG.start h) (g0 rfl rfl) (fun n n6 h=>?_)
  refine rn 5 rfl ?_
  refine spL rfl (fun hb7=>?_) (fun hb7=>?_)
  ·obtain⟨x8,tl,hx9,h,hk1⟩:=RG.t hA15 h hb7
   unfold M28_L1 at h
   refine rn 6 rfl ?_
   refine ixh hx9 rfl rfl ?_
   refine rn 9 rfl ?_
   refine ixl h rfl rfl (fun x10 hx11 h=>?_)
   refine rn 9 rfl ?_
   refine cl h rfl rfl rfl (W25 _ _ _) rfl (fun y12 hx13 h=>?_)
   refine rn 2 rfl ?_
   refine spC h rfl (fun hb14 h=>?_) (fun hb14 h=>?_)
   ·refine rn 4 rfl ?_
    exact rt h rfl
   refine rn 6 rfl ?_
   exact jX (w64 (n6+1)) (hk1 _ h) (g0 rfl rfl)
  replace h:=RG.f h hb7
  unfold M28_L1 at h
  refine rn 1 rfl ?_
  exact jX () h (g0 rfl rfl)
 intro _ h
 refine rn 4 rfl ?_
 exact rt h rfl
theorem W67(F:Nat)(a1:(List TCall))(a2:(List TCall))(r:Bool)(h:M67 F a1 a2=some r):PureG (gl mx) Tryz.prog 67 [(V.lst 4 (a1.map encTCall)),(V.lst 4 (a2.map encTCall))] (bV r):=by
 refine pin (fun r=>(bV r)) r rfl Tryz.func67 rfl rfl rfl rfl rfl (fun w0 m0 hg=>?_)
 unfold M67 at h
 refine rn 8 rfl ?_
 refine ln rfl rfl ?_
 refine rn 1 rfl ?_
 refine ln rfl rfl ?_
 refine rn 2 rfl ?_
 refine spC h rfl (fun hb3 h=>?_) (fun hb3 h=>?_)
 ·refine rn 4 rfl ?_
  exact rt h rfl
 refine rn 5 rfl ?_
 refine ln rfl rfl ?_
 refine rn 2 rfl ?_
 refine jK h (fun _:Unit=>(⟨[],[],0⟩:St)) (fun k4 (_:Unit)=>k4=some r) (fun k4 h=>?_) ?_
 ·refine rn 1 rfl ?_
  refine wl (A:=a1) 0 rfl (fun hA13=>?_)
  refine lC (fun(p:Int)=>(⟨[(0,(V.lst 4 (a1.map encTCall))),(1,(V.lst 4 (a2.map encTCall))),(12,(iV ((a1.length:Nat):Int))),(13,(iV p))],[],0⟩:St)) (fun n p=>RG a1 (fun tl nn=>M67_L1 F a2 k4 tl nn=some r) n p) (fun p h=>RG.zero h) (a1.length+1) 0 (RG.start h) (g0 rfl rfl) (fun n n6 h=>?_)
  refine rn 5 rfl ?_
  refine spL rfl (fun hb7=>?_) (fun hb7=>?_)
  ·obtain⟨x8,tl,hx9,h,hk1⟩:=RG.t hA13 h hb7
   unfold M67_L1 at h
   obtain⟨x10,hx11,h⟩:=bind_some h
   refine rn 9 rfl ?_
   refine dr mixed (vs 2 rfl (iD hx9 rfl rfl rfl (vs 3 rfl (iD hx11 rfl rfl rfl (vs 1 rfl (xD (OD.mk [(19,(V.agg (encTCall x8))),(23,(V.agg (encTCall x10)))] [] [(24,(bV (!(decide (x8=x10)))))] []) ⟨⟨rfl,rfl,trivial⟩,trivial⟩ (by exact fun S hn h hh=>aops_eqS true (xs:=cv74 x8) (ys:=cv74 x10) (b:=(decide (x8=x10))) eqk74 ⟨_,rfl⟩ ⟨_,rfl⟩ (eq_b cv74 _ _ (inj_cv74 _ _)) tEqG74 wants_none h.1 h.2.1 rfl (aops_nil ⟨rfl,rfl⟩)) rfl .nil)))))) (by kernel_rfl) ?_
   refine spC h rfl (fun hb12 h=>?_) (fun hb12 h=>?_)
   ·refine rn 4 rfl ?_
    exact rt h rfl
   refine rn 6 rfl ?_
   exact jX (w64 (n6+1)) (hk1 _ h) (g0 rfl rfl)
  replace h:=RG.f h hb7
  unfold M67_L1 at h
  refine rn 1 rfl ?_
  exact jX () h (g0 rfl rfl)
 intro _ h
 refine rn 4 rfl ?_
 exact rt h rfl
theorem W30(F:Nat)(a1:TFunc)(a2:TFunc)(r:Bool)(h:M30 F a1 a2=some r):PureG (gl mx) Tryz.prog 30 [(V.agg (encTFunc a1)),(V.agg (encTFunc a2))] (bV r):=by
 refine pin (fun r=>(bV r)) r rfl Tryz.func30 rfl rfl rfl rfl rfl (fun w0 m0 hg=>?_)
 unfold M30 at h
 refine rn 14 rfl ?_
 refine spO 10 h rfl (fun hb3 h=>?_) (fun hb3 h=>?_)
 ·refine rn 7 rfl ?_
  refine spO 17 h rfl (fun hb4 h=>?_) (fun hb4 h=>?_)
  ·refine rn 4 rfl ?_
   refine cl h rfl rfl rfl (W67 _ _ _) rfl (fun y5 hx6 h=>?_)
   refine rn 2 rfl ?_
   refine spO 24 h rfl (fun hb7 h=>?_) (fun hb7 h=>?_)
   ·refine rn 4 rfl ?_
    refine cl h rfl rfl rfl (W24 _ _ _) rfl (fun y8 hx9 h=>?_)
    refine rn 3 rfl ?_
    exact rt h rfl
   refine rn 8 rfl ?_
   exact rt h rfl
  refine rn 15 rfl ?_
  exact rt h rfl
 refine rn 22 rfl ?_
 exact rt h rfl
theorem W29(F:Nat)(a1:(List TFunc))(a2:(List TFunc))(r:Bool)(h:M29 F a1 a2=some r):PureG (gl mx) Tryz.prog 29 [(V.lst 4 (a1.map encTFunc)),(V.lst 4 (a2.map encTFunc)),(V.fn (.func 30) [] [])] (bV r):=by
 refine pin (fun r=>(bV r)) r rfl Tryz.func29 rfl rfl rfl rfl rfl (fun w0 m0 hg=>?_)
 unfold M29 at h
 refine rn 8 rfl ?_
 refine ln rfl rfl ?_
 refine rn 1 rfl ?_
 refine ln rfl rfl ?_
 refine rn 2 rfl ?_
 refine spC h rfl (fun hb3 h=>?_) (fun hb3 h=>?_)
 ·refine rn 4 rfl ?_
  exact rt h rfl
 refine rn 5 rfl ?_
 refine ln rfl rfl ?_
 refine rn 2 rfl ?_
 refine jK h (fun _:Unit=>(⟨[],[],0⟩:St)) (fun k4 (_:Unit)=>k4=some r) (fun k4 h=>?_) ?_
 ·refine rn 1 rfl ?_
  refine wl (A:=a1) 0 rfl (fun hA15=>?_)
  refine lC (fun(p:Int)=>(⟨[(1,(V.lst 4 (a2.map encTFunc))),(2,(V.fn (.func 30) [] [])),(15,(V.lst 4 (a1.map encTFunc))),(16,(iV ((a1.length:Nat):Int))),(17,(iV p))],[],0⟩:St)) (fun n p=>RG a1 (fun tl nn=>M29_L1 F a2 k4 tl nn=some r) n p) (fun p h=>RG.zero h) (a1.length+1) 0 (RG.start h) (g0 rfl rfl) (fun n n6 h=>?_)
  refine rn 5 rfl ?_
  refine spL rfl (fun hb7=>?_) (fun hb7=>?_)
  ·obtain⟨x8,tl,hx9,h,hk1⟩:=RG.t hA15 h hb7
   unfold M29_L1 at h
   refine rn 6 rfl ?_
   refine ixh hx9 rfl rfl ?_
   refine rn 9 rfl ?_
   refine ixl h rfl rfl (fun x10 hx11 h=>?_)
   refine rn 9 rfl ?_
   refine cl h rfl rfl rfl (W30 _ _ _) rfl (fun y12 hx13 h=>?_)
   refine rn 2 rfl ?_
   refine spC h rfl (fun hb14 h=>?_) (fun hb14 h=>?_)
   ·refine rn 4 rfl ?_
    exact rt h rfl
   refine rn 6 rfl ?_
   exact jX (w64 (n6+1)) (hk1 _ h) (g0 rfl rfl)
  replace h:=RG.f h hb7
  unfold M29_L1 at h
  refine rn 1 rfl ?_
  exact jX () h (g0 rfl rfl)
 intro _ h
 refine rn 4 rfl ?_
 exact rt h rfl
theorem W7(F:Nat)(a1:TGraph)(a2:TGraph)(r:Bool)(h:M7 F a1 a2=some r):PureG (gl mx) Tryz.prog 7 [(V.agg (encTGraph a1)),(V.agg (encTGraph a2))] (bV r):=by
 refine pin (fun r=>(bV r)) r rfl Tryz.func7 rfl rfl rfl rfl rfl (fun w0 m0 hg=>?_)
 unfold M7 at h
 refine rn 21 rfl ?_
 refine cl h rfl rfl rfl (W27 _ _ _) rfl (fun y3 hx4 h=>?_)
 refine rn 1 rfl ?_
 refine spO 13 h rfl (fun hb5 h=>?_) (fun hb5 h=>?_)
 ·refine rn 5 rfl ?_
  refine cl h rfl rfl rfl (W28 _ _ _) rfl (fun y6 hx7 h=>?_)
  refine rn 2 rfl ?_
  refine spO 21 h rfl (fun hb8 h=>?_) (fun hb8 h=>?_)
  ·refine rn 4 rfl ?_
   refine cl h rfl rfl rfl (W29 _ _ _) rfl (fun y9 hx10 h=>?_)
   refine rn 2 rfl ?_
   refine spO 28 h rfl (fun hb11 h=>?_) (fun hb11 h=>?_)
   ·refine rn 4 rfl ?_
    refine cl h rfl rfl rfl (W24 _ _ _) rfl (fun y12 hx13 h=>?_)
    refine rn 3 rfl ?_
    exact rt h rfl
   refine rn 8 rfl ?_
   exact rt h rfl
  refine rn 15 rfl ?_
  exact rt h rfl
 refine rn 23 rfl ?_
 exact rt h rfl
theorem W4(F:Nat)(a1:TGraph)(r:Bool)(h:M4 F a1=some r):PureG (gl mx) Tryz.prog 4 [(V.agg (encTGraph a1))] (bV r):=by
 refine pin (fun r=>(bV r)) r rfl Tryz.func4 rfl rfl rfl rfl rfl (fun w0 m0 hg=>?_)
 unfold M4 at h
 refine rn 8 rfl ?_
 refine cl h rfl rfl rfl (W9 _ _) rfl (fun y2 hx3 h=>?_)
 refine rn 9 rfl ?_
 refine cl h rfl rfl rfl (W10 _ _) rfl (fun y4 hx5 h=>?_)
 refine rn 13 rfl ?_
 refine spO 23 h rfl (fun hb6 h=>?_) (fun hb6 h=>?_)
 ·refine rn 10 rfl ?_
  exact rt h rfl
 refine rn 5 rfl ?_
 refine spC h rfl (fun hb7 h=>?_) (fun hb7 h=>?_)
 ·refine rn 4 rfl ?_
  exact rt h rfl
 refine rn 7 rfl ?_
 refine spC h rfl (fun hb8 h=>?_) (fun hb8 h=>?_)
 ·refine rn 2 rfl ?_
  refine cl h rfl rfl rfl (W8 _) rfl (fun y9 hx10 h=>?_)
  refine rn 2 rfl ?_
  exact rt h rfl
 refine rn 4 rfl ?_
 refine cl h rfl rfl rfl (W5 _ _) rfl (fun y11 hx12 h=>?_)
 refine rn 14 rfl ?_
 refine spO 39 h rfl (fun hb13 h=>?_) (fun hb13 h=>?_)
 ·refine rn 4 rfl ?_
  refine spO 43 h rfl (fun hb14 h=>?_) (fun hb14 h=>?_)
  ·refine rn 2 rfl ?_
   refine cl h rfl rfl rfl (W7 _ _ _) rfl (fun y15 hx16 h=>?_)
   refine rn 2 rfl ?_
   refine spO 48 h rfl (fun hb17 h=>?_) (fun hb17 h=>?_)
   ·refine cl h rfl rfl rfl (W8 _) rfl (fun y18 hx19 h=>?_)
    refine rn 3 rfl ?_
    exact rt h rfl
   refine rn 4 rfl ?_
   exact rt h rfl
  refine rn 9 rfl ?_
  exact rt h rfl
 refine rn 13 rfl ?_
 exact rt h rfl
end Go.Proofs.YtjofofmllnpkpaaGreatDoor
