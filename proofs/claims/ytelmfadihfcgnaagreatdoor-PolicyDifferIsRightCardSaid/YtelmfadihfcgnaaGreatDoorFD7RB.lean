/- Part of the proof. -/
import Derived.Test.YtelmfadihfcgnaaGreatDoorFXR
set_option linter.unusedSimpArgs false
set_option linter.unusedVariables false
namespace Go.Proofs.YtelmfadihfcgnaaGreatDoor
open Go Go.Pv
set_option maxRecDepth 1000000
theorem IB(l:List Int)(x:Int):x∈Dy l<->x∈l:=by
 unfold Dy Lib.compact Lib.compactUpTo;rw[bb9];constructor
 ·grind
 ·intro hx
  have key:∀j,j<l.length->∃i,i<=j/\Lib.keeps l.toArray i=true/\l.toArray[i]! = l.toArray[j]! := by
   intro j
   induction j with
   |zero=>simp_all[Lib.keeps]
   |succ j ih=>
    intro hj;by_cases he:l.toArray[j+1]! = l.toArray[j]!
    ·grind
    ·exact⟨j+1,ae9 _,by simp_all[Lib.keeps],rfl⟩
  grind [List.getElem_of_mem]
instance (x:Int):Decidable (ka x):=by unfold ka;infer_instance
theorem Mg(F:Nat)(a:Int):vk F a=some (decide (ka a)):=by
 unfold vk;by_cases h:a ≥ -1000000000000
 ·rw[if_pos (decide_eq_true h)]
  congr 1
  exact decide_eq_decide.2 ⟨fun h2=>⟨h,h2⟩,fun h2=>h2.2⟩
 ·rw[if_neg (by grind),decide_eq_false (fun h2=>h h2.1)]
theorem uD(F:Nat)(a:Int)(l:List Int)(K:List Int->Option (List Int))(h:l.length<=10000000):
  ((vk F a).bind fun y22=>jn (fun(l25:List Int)=>K l25) (fun k24=>if y22=true then if (l++([a]:List Int)).length*8<=140737488355328 then k24 (l++([a]:List Int)) else none else k24 l))=K (l++[a].filter fun x=>decide (ka x)):=by
 rw[Mg,bt9,az]
 grind
def sf(n:Int):List Int:=[n - 1,n,n+1].filter fun x=>decide (ka x)
theorem CF(F:Nat)(n:Int)(hn:ka n)(k:List Int->Option (List Int))(l:List Int)(hl:l.length<=2000000):gA F n k 3 0 l=k (l++sf n):=by
 unfold ka at hn;have e1:bt (n - 1)=n - 1:=cA (by omega) (by omega);have e2:bt (n+1)=n+1:=cA (by omega) (by omega);have f1:∀(x:Int) (l:List Int),([x].filter fun x=>decide (ka x)).length<=1:=fun x l=>ab9 _ _;rw[gA,show cH ([bt (n - 1),n,bt (n+1)]:List Int) 0=some (bt (n - 1)) from rfl,bt9,uD F _ l _ (by omega)];rw[gA,show cH ([bt (n - 1),n,bt (n+1)]:List Int) (0+1)=some n from rfl,bt9,uD F _ _ _ (by grind)];rw[gA,show cH ([bt (n - 1),n,bt (n+1)]:List Int) (0+1+1)=some (bt (n+1)) from rfl,bt9,uD F _ _ _ (by grind)];rw[gA,e1,e2,bv8,bv8,<-ac9,<-ac9];rfl
theorem ve(F:Nat)(k:List Int->Option (List Int)):∀(ns:List Int) (l:List Int),(∀n,n∈ns->ka n)->l.length+3*ns.length<=2000000->i6 F k ns l=k (l++ns.flatMap sf)
 |[],l,_,_=>by rw[i6];simp
 |n::r,l,h,hl=>by
  simp only[br8] at hl;have hlen:(sf n).length<=3:=ab9 _ _;rw[i6,az,az,if_pos (by omega)]
  show gA F n _ 3 0 l=_
  rw[CF F n (h n (by simp)) _ l (by omega)]
  show i6 F k r (l++sf n)=_
  rw[ve F k r _ (fun m hm=>h m (by simp[hm])) (by simp;omega)];simp
theorem L1(F:Nat)(s:ai)(h:∀n,n∈s.numbers->ka n)(hl:s.numbers.length<=600000):
  ∃out,Be F s=some out/\out.length<=1800001/\∀x,x∈out<->x=0\/∃n,n∈s.numbers/\x∈sf n:=by
 have hlen:∀ns:List Int,(ns.flatMap sf).length<=3*ns.length:=by
  intro ns
  induction ns with
  |nil=>simp
  |cons n r ih=>
   grind [sf]
 have h1:=hlen s.numbers;obtain⟨w,hw⟩:∃w,w=[0]++s.numbers.flatMap sf:=⟨_,rfl⟩;have hwl:w.length<=1800001:=by rw[hw,be9,List.length_singleton];omega
 have hs:(wC w).length=w.length:=List.length_mergeSort _;have hc:=yr (wC w);refine⟨Dy (wC w),?_,by omega,fun x=>?_⟩
 ·unfold Be;rw[az,ve F _ _ _ h (by simp;omega),<-hw];unfold Se LD
  grind
 simp_all[IB,wC]
theorem ou{s w:bj}:Bq s w=true<->w <+: s:=by
 unfold Bq;rw[ao8,decide_eq_true_eq,beq_iff_eq];constructor
 ·grind
 ·intro h;exact⟨h.length_le,(List.prefix_iff_eq_take.1 h).symm⟩
def Bp(n:Nat)(bg:List bj)(y:bj):Bool:=bg.any fun b=>decide (n<b.length)&&Bq y b
theorem fX{n:Nat}{bg:List bj}{y:bj}:Bp n bg y=false<->∀b,b∈bg->n<b.length->¬b <+: y:=by
 simp_all[Bp,ou]
theorem Lx(F:Nat)(s:bj)(bg:List bj)(n:Nat):Ji F s bg (n:Int)=some (Bp n bg s):=by
 unfold Ji Lv Lt
 have h:=E0 (g:=lU F (n:Int) s (some (-1))) (fun b=>decide (n<b.length)&&Bq s b) (fun _=>rfl) (fun x l m=>by
  rw[lU,Lu];by_cases h:n<x.length
  ·simp_all[zb]
  grind) bg 0
 rw[show((0:Nat):Int)=0 from rfl] at h;rw[az,h];rw[DL (n:=0+bg.findIdx fun b=>decide (n<b.length)&&Bq s b)];rfl
theorem KP:∀c:Fin 127,32<=c.val->(Utf8.encode (IntKind.wrap .i32 (c.val:Int))).data.toList=[UInt8.ofNat c.val]:=by decide
theorem zq:∀c:Fin 127,IntKind.wrap .u8 ((c.val:Int)+1)=(c.val:Int)+1:=by decide
theorem yu:∀c:Fin 127,(UInt8.ofNat c.val).toNat=c.val:=by decide
def eN(n:Nat)(bg:List bj)(x:bj)(c:Nat):List bj:=((List.range' c (127 - c)).map fun i=>x++[UInt8.ofNat i]).filter fun y=>!Bp n bg y
theorem ua{n:Nat}{bg:List bj}{x:bj}{c:Nat}(h:c<=126):eN n bg x c=(if Bp n bg (x++[UInt8.ofNat c])=true then [] else [x++[UInt8.ofNat c]])++eN n bg x (c+1):=by
 unfold eN;rw[show 127 - c=(127 - (c+1))+1 by omega,List.range'_succ,bh9,aa8]
 grind
theorem u9(F:Nat)(a1:bj)(a2 a3:List bj)(x:bj)(k:List bj->Option (bj×Bool))(hx:x.length<=1000):∀(d c:Nat),c+d=127->32<=c->∀fuel,d<fuel->∀l:List bj,l.length+d<=10000000->
  jV F a1 a2 a3 x k fuel (c:Int) l=match (eN a1.length a2 x c).find? (fun y=>!(a3.any fun w=>y==w)) with
   |some y=>some (y,true)
   |none=>k (l++eN a1.length a2 x c)
 |0,c,hc,h32,fuel,hf,l,hl=>by
  obtain⟨fuel,rfl⟩:∃g,fuel=g+1:=⟨fuel - 1,by omega⟩<;>simp_all[eN,jV]
 |d+1,c,hc,h32,fuel,hf,l,hl=>by
  obtain⟨fuel,rfl⟩:∃g,fuel=g+1:=⟨fuel - 1,by omega⟩;have h1:=KP ⟨c,by omega⟩ h32;have h2:=zq ⟨c,by omega⟩;dsimp only at h1 h2;rw[jV,if_pos (decide_eq_true (by omega)),az,h1,h2,if_pos (by simp;omega),Lx,bt9,ua (by omega)];have ih:=u9 F a1 a2 a3 x k hx d (c+1) (by omega) (by omega) fuel (by omega);rw[show((c+1:Nat):Int)=(c:Int)+1 by omega] at ih;cases hb:Bp a1.length a2 (x++[UInt8.ofNat c]) with
  |true=>
   grind
  |false=>
   simp only[cf9,if_false];rw[u4,bt9]
   grind
theorem ig{n:Nat}{bg:List bj}{x y:bj}:y∈eN n bg x 32<->(∃c:UInt8,32<=c.toNat/\c.toNat<=126/\y=x++[c])/\Bp n bg y=false:=by
 unfold eN;rw[bt8,bb9];constructor
 ·rintro⟨⟨i,hi,rfl⟩,h⟩
  rw[List.mem_range'_1] at hi;have:=yu ⟨i,by omega⟩
  grind
 ·rintro⟨⟨c,h1,h2,rfl⟩,h⟩
  refine⟨⟨c.toNat,?_,?_⟩,by rw[h];rfl⟩
  ·grind
  ·simp
theorem t8(n:Nat)(bg:List bj)(x:bj):(eN n bg x 32).Nodup:=by
 unfold eN;refine List.Nodup.sublist List.filter_sublist ?_;rw[List.nodup_iff_pairwise_ne,List.pairwise_map];refine(List.nodup_iff_pairwise_ne.1 List.nodup_range').imp_of_mem fun {a b} ha hb h e=>h ?_;rw[List.mem_range'_1] at ha hb;have h1:=yu ⟨a,by omega⟩;have h2:=yu ⟨b,by omega⟩
 simp_all
theorem HV(n:Nat)(bg:List bj)(x:bj):(eN n bg x 32).length<=95:=by
 grind [eN]
theorem fU{α:Type}[DecidableEq α]:∀{l m:List α},l.Nodup->(∀x,x∈l->x∈m)->l.length<=m.length
 |[],m,_,_=>ai8 _
 |x::l,m,hn,hs=>by
  have hn':=aa9.1 hn;have:=fU (l:=l) (m:=m.erase x) hn'.2 fun y hy=>(List.mem_erase_of_ne (show y≠x from fun e=>hn'.1 (e ▸ hy))).2 (hs y (by simp[hy]))
  grind
structure Qu(a1:bj)(a2 a3:List bj)(l:List bj)(n:Nat):Prop where
 nd:l.Nodup
 hd:l[0]? = some a1
 ok:∀q,q∈l->a1 <+: q/\qY q/\Bp a1.length a2 q=false
 par:∀j q,l[j]? = some q->0<j->q∈a3/\∃i p c,i<n/\l[i]? = some p/\q=p++[c]
 cl:∀j q,j<n->l[j]? = some q->q∈a3/\(q.length<1000->∀y,y∈eN a1.length a2 q 32->y∈l)
theorem Qu.len{a1:bj}{a2 a3 l:List bj}{n:Nat}(h:Qu a1 a2 a3 l n):l.length<=a3.length+1:=by
 match l,h.hd,h with
 |x::r,_,h=>
  have:=fU (aa9.1 h.nd).2 fun y hy=>by
   obtain⟨j,hj⟩:=ba9 hy;exact(h.par (j+1) y (by grind) (by omega)).1
  grind
theorem yM{l:List bj}{x:bj}:(l.any fun w=>x==w)=true<->x∈l:=by
 grind
theorem pB(F:Nat)(a1:bj)(a2 a3:List bj)(k4:Option (bj×Bool))(hF:200<=F)(ha:a3.length<=2000000):∀(fuel n:Nat) (l:List bj),Qu a1 a2 a3 l n->n<=l.length->a3.length+2<=n+fuel->
  (∃t,iY F a1 a2 a3 k4 fuel (n:Int) l=some (t,true)/\ez a3 a2 a1 t)\/(iY F a1 a2 a3 k4 fuel (n:Int) l=k4/\∃l',Qu a1 a2 a3 l' l'.length)
 |0,n,l,h,hn,hf=>by have:=h.len;omega
 |fuel+1,n,l,h,hn,hf=>by
  have hll:=h.len;rw[iY];by_cases hnl:n<l.length
  ·rw[if_pos (decide_eq_true (by omega)),az,bU hnl,bt9,u4,bt9];have hx:l[n]? = some l[n]:=ax9 hnl;obtain⟨x,hxe⟩:∃x,x=l[n]:=⟨_,rfl⟩;rw[<-hxe] at hx ⊢;have hxm:=aw9 hx;obtain⟨o1,o2,o3⟩:=h.ok x hxm;cases hm:a3.any fun w=>x==w with
   |false=>
    simp only[br9,if_true];refine .inl ⟨x,Y,o1,o2,fun hx3=>?_,fX.1 o3⟩
    grind
   |true=>
    have hx3:=yM.1 hm;simp only[bp9,cf9,if_false];have hw:bt ((n:Int)+1)=((n+1:Nat):Int):=by rw[cA (by omega) (by omega)];rfl
    by_cases h1000:x.length=1000
    ·rw[if_pos (by grind)];rw[hw];refine pB F a1 a2 a3 k4 hF ha fuel (n+1) l ⟨h.nd,h.hd,h.ok,fun j q hj h0=>?_,fun j q hj hq=>?_⟩ hnl (by omega)
     ·obtain⟨g1,i,p,c,g2,g3⟩:=h.par j q hj h0<;>grind
     ·by_cases e:j=n
      ·grind
      ·exact h.cl j q (by omega) hq
    ·rw[if_neg (by simp;omega),az];have hxl:x.length<=1000:=o2.1;have hin:=u9 F a1 a2 a3 x (fun l19=>(fun l11=>iY F a1 a2 a3 k4 fuel (bt ((n:Int)+1)) l11) l19) hxl 95 32 rfl (by omega) F (by omega) l (by omega);rw[show((32:Nat):Int)=32 from rfl] at hin;rw[hin]
     have hok:∀y,y∈eN a1.length a2 x 32->a1 <+: y/\qY y/\Bp a1.length a2 y=false:=by
      intro y hy;obtain⟨⟨c,c1,c2,rfl⟩,hb⟩:=ig.1 hy;refine⟨o1.trans (List.prefix_append _ _),⟨by simp;omega,fun d hd=>?_⟩,hb⟩;rcases bu9.1 hd with hd|hd
      ·exact o2.2 d hd
      ·grind
     cases hfd:(eN a1.length a2 x 32).find? (fun y=>!(a3.any fun w=>y==w)) with
     |some y=>
      have hy:=List.mem_of_find?_eq_some hfd;have hp:=List.find?_some hfd;obtain⟨p1,p2,p3⟩:=hok y hy;refine .inl ⟨y,Y,p1,p2,fun h3=>?_,fX.1 p3⟩
      grind
     |none=>
      dsimp only;rw[hw]
      have hall:∀y,y∈eN a1.length a2 x 32->y∈a3:=fun y hy=>by
       grind
      refine pB F a1 a2 a3 k4 hF ha fuel (n+1) (l++eN a1.length a2 x 32) ⟨?_,?_,fun q hq=>?_,fun j q hj h0=>?_,fun j q hj hq=>?_⟩ (by simp;omega) (by omega)
      ·rw[bu8];refine⟨h.nd,t8 _ _ _,fun a hal b hbk e=>?_⟩;subst e;obtain⟨⟨c,c1,c2,rfl⟩,hb⟩:=ig.1 hbk;obtain⟨j,hj⟩:=ba9 hal;by_cases h0:j=0
       ·subst h0;rw[h.hd] at hj
        grind
       ·obtain⟨_,i,p,d,g2,g3,g4⟩:=h.par j _ hj (by omega);have e2:=List.append_inj' g4 rfl;rw[<-e2.1] at g3;have hi:i<l.length:=(ba8.1 g3).1;have:=(List.getElem?_inj hi h.nd).1 (g3.trans hx.symm);omega
      ·rw[ar8 (by grind)];exact h.hd
      ·rcases bu9.1 hq with hq|hq
       ·exact h.ok q hq
       grind
      ·by_cases hjl:j<l.length
       ·rw[ar8 hjl] at hj;obtain⟨g1,i,p,c,g2,g3,g4⟩:=h.par j q hj h0;exact⟨g1,i,p,c,by omega,by grind,g4⟩
       ·rw[as9 (by omega)] at hj;have hq:=aw9 hj;obtain⟨⟨c,c1,c2,rfl⟩,hb⟩:=ig.1 hq;exact⟨hall _ hq,n,x,c,by omega,by grind,rfl⟩
      ·by_cases e:j=n
       ·grind
       ·rw[ar8 (by omega)] at hq;obtain⟨g1,g2⟩:=h.cl j q (by omega) hq<;>simp_all
  grind
theorem Qu.none{a1:bj}{a2 a3 l:List bj}(h:Qu a1 a2 a3 l l.length)(t:bj):¬ez a3 a2 a1 t:=by
 intro hf
 have key:∀k,a1.length+k<=t.length->t.take (a1.length+k)∈l:=by
  intro k
  induction k with
  |zero=>
   intro _;rw[bc8,<-List.prefix_iff_eq_take.1 hf.pre];exact aw9 h.hd
  |succ k ih=>
   intro hk;have hp:=ih (by omega);obtain⟨j,hj⟩:=ba9 hp;have hlt:a1.length+k<t.length:=by omega
   obtain⟨_,g⟩:=h.cl j _ (ba8.1 hj).1 hj;have hlen:(t.take (a1.length+k)).length<1000:=by have:=hf.ok.1;simp;omega
   refine g hlen _ (ig.2 ⟨⟨t[a1.length+k],?_,?_,?_⟩,fX.2 fun b hb hl hp=>?_⟩)
   ·exact(hf.ok.2 _ (az8 hlt)).1
   ·exact(hf.ok.2 _ (az8 hlt)).2
   ·grind [List.take_succ_eq_append_getElem]
   ·exact hf.no b hb hl (hp.trans (List.take_prefix _ _))
 have hle:=hf.pre.length_le;have:=key (t.length - a1.length) (by omega);rw[show a1.length+(t.length - a1.length)=t.length by omega,List.take_length] at this;obtain⟨j,hj⟩:=ba9 this;exact hf.not (h.cl j t (ba8.1 hj).1 hj).1
theorem LC(F:Nat)(a1:bj)(a2 a3:List bj)(hF:a3.length+200<=F)(ha:a3.length<=2000000)(h1:qY a1):
  (∃t,Jl F a1 a2 a3=some (t,true)/\ez a3 a2 a1 t)\/(Jl F a1 a2 a3=some ([],false)/\∀t,¬ez a3 a2 a1 t):=by
 have hq:Qu a1 a2 a3 [a1] 0:=by
  refine⟨by simp,rfl,fun q hq=>?_,fun j q hj h0=>?_,fun j q hj _=>by omega⟩
  ·simp only[bi9] at hq;subst hq;exact⟨List.prefix_refl _,h1,fX.2 fun b _ hl hp=>by grind⟩
  ·grind
 rcases pB F a1 a2 a3 (some (([]:B8),false)) (by omega) ha F 0 [a1] hq (by simp) (by omega) with ⟨t,e,h⟩|⟨e,l',h⟩
 ·exact .inl ⟨t,e,h⟩
 ·exact .inr ⟨e,fun t=>h.none t⟩
theorem Ps(F:Nat)(l:List bj)(h:l.length<=10000000):RT F l=some l:=by
 unfold RT;refine Ez ?_ fun h0=>?_
 ·grind
 grind
theorem pG(F:Nat)(s:ai)(hF:s.is.length+200<=F)(ha:s.is.length<=2000000)(k:List bj->Option (List bj)):∀(l l15:List bj),(∀p,p∈l->qY p)->l15.length+l.length<=10000000->
  ∃fs,i5 F s k l l15=k (l15++fs)/\fs.length<=l.length/\(∀p,p∈l->(∃t,ez s.is s.begins p t/\t∈fs)\/∀t,¬ez s.is s.begins p t)/\∀x,x∈fs->∃p,ez s.is s.begins p x
 |[],l15,_,_=>⟨[],by rw[i5];simp,ae9 _,by simp,by simp⟩
 |p::l,l15,h,hl=>by
  simp only[br8] at hl;rw[i5];rcases LC F p s.begins s.is hF ha (h p (by simp)) with ⟨t,e,hf⟩|⟨e,hf⟩
  ·obtain⟨fs,g1,g2,g3,g4⟩:=pG F s hF ha k l (l15++[t]) (fun q hq=>h q (by simp[hq])) (by simp;omega);refine⟨t::fs,?_,by simp;omega,fun q hq=>?_,fun x hx=>?_⟩
   ·rw[e,bt9,az]
    grind
   ·grind
   grind
  ·obtain⟨fs,g1,g2,g3,g4⟩:=pG F s hF ha k l l15 (fun q hq=>h q (by simp[hq])) (by omega);refine⟨fs,?_,by simp;omega,fun q hq=>?_,g4⟩
   ·simp_all[az]
   grind
structure I0(is bg out:List bj):Prop where
 hi:∀e,e∈is->e∈out
 hb:∀p,(p∈bg\/p=[])->(∃t,ez is bg p t/\t∈out)\/∀t,¬ez is bg p t
 ok:∀x,x∈out->x∈is\/qY x
theorem L0(F:Nat)(s:ai)(hF:s.is.length+200<=F)(ha:s.is.length<=2000000)(hb:s.begins.length<=2000000)(h:∀b,b∈s.begins->qY b):
  ∃out,sG F s=some out/\out.length<=s.is.length+s.begins.length+1/\I0 s.is s.begins out:=by
 have h0:qY []:=⟨by simp,by simp⟩
 have main:∀l:List bj,(∀p,p∈l<->p∈s.begins\/p=[])->l.length<=s.begins.length+1->
   ∃out,(i5 F s (fun l11=>(FG F l11).bind fun y26=>if y26.length=l11.length then (Fz F y26).bind fun y29=>some y29 else none) l s.is)=some out/\out.length<=s.is.length+s.begins.length+1/\I0 s.is s.begins out:=by
  intro l hm hll;obtain⟨fs,g1,g2,g3,g4⟩:=pG F s hF ha (fun l11=>(FG F l11).bind fun y26=>if y26.length=l11.length then (Fz F y26).bind fun y29=>some y29 else none) l s.is (fun p hp=>((hm p).1 hp).elim (h p) (fun e=>e ▸ h0)) (by omega);have hs:(eA (s.is++fs)).length=(s.is++fs).length:=(dY _).length_eq;have hc:=yr (eA (s.is++fs));have hmem:∀x,x∈Dy (eA (s.is++fs))<->x∈s.is\/x∈fs:=fun x=>by grind [KR,dY]
  rw[be9] at hs;refine⟨Dy (eA (s.is++fs)),?_,by omega,fun e he=>(hmem e).2 (.inl he),fun p hp=>?_,fun x hx=>?_⟩
  ·rw[g1];unfold FG Fz
   grind
  ·grind
  ·rcases(hmem x).1 hx with hx|hx
   ·grind
   ·obtain⟨p,hp⟩:=g4 x hx;exact .inr hp.ok
 unfold sG;rw[Ps F _ (by omega),bt9,u4,bt9,az];cases hm:s.begins.any fun w=>([]:B8)==w with
 |false=>
  simp only[br9,if_true];rw[if_pos (by simp;omega),az]
  simp_all[Or.comm]
 |true=>
  simp_all[az]
def EJ(s:ai)(l:Lf):Prop:=
 (l.k=2/\(∀e,e∈l.tx->e∈s.is)/\s.asText=true)\/(l.k=3/\(∀e,e∈l.tx->e∈s.begins)/\s.asText=true)\/(l.k=4/\s.has=true)\/(l.k=5/\l.n∈s.numbers/\s.asNo=true)
structure wS(s:ai)(u v:Fd):Prop where
 tx:s.asText=true->u.isText=v.isText/\(u.isText=true->A0 s.is s.begins u.text v.text)
 nx:s.asNo=true->u.isNumber=v.isNumber/\(u.isNumber=true->uV s.numbers u.number v.number)
 hx:s.has=true->(u.isText||u.isNumber)=(v.isText||v.isNumber)
theorem DF{a b:Bool}(h:a=true<->b=true):a=b:=by
 grind
theorem Ff{ns:List Int}{x y n op:Int}(h:uV ns x y)(hn:n∈ns):AI x op n=AI y op n:=by
 have h1:=h.lt n hn;have h2:=h.eq n hn;unfold AI;split
 ·grind
 ·split
  ·grind
  ·split
   ·grind
   ·split<;>grind
theorem zR{s:ai}{u v:Fd}{l:Lf}(hl:EJ s l)(h:wS s u v):l.one u=l.one v:=by
 unfold Lf.one iz;rcases hl with ⟨hk,h1,h2⟩|⟨hk,h1,h2⟩|⟨hk,h2⟩|⟨hk,h1,h2⟩
 ·obtain⟨a,b⟩:=h.tx h2;rw[hk];simp only[show ¬(2:Int)=4 by decide,show ¬(2:Int)=5 by decide,if_false];rw[<-a];cases hu:u.isText with
  |false=>rfl
  |true=>
   have hs:=b hu
   show Gb 2 u.text l.tx=Gb 2 v.text l.tx
   rw[J3,J3];refine DF ?_;rw[yM,yM];constructor
   ·intro hm;rwa [<-(hs.eq _ (h1 _ hm)).1 rfl] at hm
   ·intro hm;rwa [<-(hs.eq _ (h1 _ hm)).2 rfl] at hm
 ·obtain⟨a,b⟩:=h.tx h2;rw[hk];simp only[show ¬(3:Int)=4 by decide,show ¬(3:Int)=5 by decide,if_false];rw[<-a];cases hu:u.isText with
  |false=>rfl
  |true=>
   have hs:=b hu
   show Gb 3 u.text l.tx=Gb 3 v.text l.tx
   rw[J2,J2];refine DF ?_;rw[ca9,ca9];constructor
   ·rintro⟨w,hw,hp⟩;exact⟨w,hw,ou.2 ((hs.pre w (h1 w hw)).1 (ou.1 hp))⟩
   ·rintro⟨w,hw,hp⟩;exact⟨w,hw,ou.2 ((hs.pre w (h1 w hw)).2 (ou.1 hp))⟩
 ·rw[hk];simp only[if_pos];exact h.hx h2
 ·obtain⟨a,b⟩:=h.nx h2;rw[hk];simp only[show ¬(5:Int)=4 by decide,if_false,if_true];rw[<-a];cases hu:u.isNumber with
  |false=>rfl
  |true=>exact congrArg (true&&·) (Ff (b hu) h1)
def zT(v:Fd):Prop:=(v.isText=true->qY v.text)/\(v.isNumber=true->ka v.number)
theorem Fg{s:ai}{nums:List Int}{txs:List bj}(hn:∀x,x∈nums<->x=0\/∃n,n∈s.numbers/\x∈sf n)(hns:∀n,n∈s.numbers->ka n)(ht:I0 s.is s.begins txs)(hi:s.asText=false->s.is=[]/\s.begins=[])(v:Fd)(hv:zT v):
  ∃c,c∈fy s nums txs/\wS s (qN c) v:=by
 -- a number that stands for the value's
 have hnum:∃y,y∈nums/\(v.isNumber=true->uV s.numbers y v.number):=by
  cases hvn:v.isNumber with
  |false=>simp_all
  |true=>
   have near_mem:∀n x,ka x->(x=n - 1\/x=n\/x=n+1)->x∈sf n:=fun n x hx h=>by
    simp_all[sf]
   obtain⟨y,h1,h2⟩:=C1 (ns:=s.numbers) (out:=nums) ⟨0,(hn 0).2 (.inl rfl)⟩ (fun n h=>(hn n).2 (.inr ⟨n,h,near_mem n n (hns n h) (.inr (.inl rfl))⟩)) (fun n h h2=>(hn _).2 (.inr ⟨n,h,near_mem n _ h2 (.inl rfl)⟩))
    (fun m h _ h2=>(hn _).2 (.inr ⟨m,h,near_mem m _ h2 (.inr (.inr rfl))⟩)) hns v.number (hv.2 hvn)
   grind
 obtain⟨y,hy,hyS⟩:=hnum;have htx:v.isText=true->∃t,t∈txs/\A0 s.is s.begins t v.text:=fun h=>zL ht.hi ht.hb v.text (hv.1 h)
 -- the number's part
 have hnv:∃z,z∈oQ s nums/\z.hasText=false/\(s.asNo=true->z.hasNumber=v.isNumber/\(z.hasNumber=true->uV s.numbers z.number v.number))/\(s.has=true->z.hasNumber=v.isNumber):=by
  unfold oQ;by_cases ha:(s.asNo||s.has)=true
  ·rw[if_pos ha];cases hvn:v.isNumber with
   |false=>simp_all[zV]
   |true=>grind [nv,List.mem_map_of_mem]
  ·simp_all[zV]
 obtain⟨z,hz,hz0,hz1,hz2⟩:=hnv;by_cases hvt:v.isText=true/\(s.asText||s.has)=true
 ·obtain⟨t,ht1,ht2⟩:=htx hvt.1;refine⟨J4 t z,?_,?_⟩
  ·unfold fy
   grind
  ·exact⟨fun _=>⟨hvt.1.symm,fun _=>ht2⟩,fun h=>⟨(hz1 h).1,fun h2=>(hz1 h).2 h2⟩,fun h=>by simp_all[qN,J4]⟩
 ·refine⟨z,by simp_all[fy],?_⟩;refine⟨fun h=>?_,fun h=>⟨(hz1 h).1,fun h2=>(hz1 h).2 h2⟩,fun h=>?_⟩
  ·simp_all[qN]
  ·have:v.isText=false:=by
    cases hvt2:v.isText with
    |false=>rfl
    |true=>grind
   rw[this]
   show(z.hasText||z.hasNumber)=_
   grind
theorem IG{s:ai}{nums:List Int}{txs:List bj}(hn:∀x,x∈nums->ka x)(ht:∀x,x∈txs->qY x){c:ac}(hc:c∈fy s nums txs):zT (qN c):=by
 have hnums:∀z,z∈oQ s nums->z.hasText=false/\(z.hasNumber=true->ka z.number):=by
  intro z hz;unfold oQ at hz;rcases aq9.1 hz with e|hz
  ·simp_all[zV]
  ·split at hz
   ·obtain⟨n,hn2,rfl⟩:=bb9.1 hz;exact⟨Y,fun _=>hn n hn2⟩
   grind
 unfold fy at hc;rcases bu9.1 hc with hc|hc
 ·obtain⟨h1,h2⟩:=hnums c hc;exact⟨fun h=>absurd (h1.symm.trans h) (by simp),h2⟩
 ·split at hc
  ·obtain⟨t,ht2,hc⟩:=ac8.1 hc;obtain⟨z,hz,rfl⟩:=bb9.1 hc;exact⟨fun _=>ht t ht2,fun h=>(hnums z hz).2 h⟩
  grind
set_option maxRecDepth 100000
structure jB(l:Lf):Prop where
 k:2<=l.k/\l.k<=5
 nm:cO l.nm=true
 len:l.tx.length<=50
 tx:∀s,s∈l.tx->qY s
 n:l.k=5->ka l.n
 op:l.k=5->1<=l.op/\l.op<=5
 tx45:l.k=4\/l.k=5->l.tx=[]
theorem CN{s:bj}(h:je s=true):qY s:=by
 unfold je at h;rw[ao8,decide_eq_true_eq,ap9] at h;refine⟨h.1,fun c hc=>?_⟩
 simp_all[Bs]
theorem Gc(a:List bj):∀(l:List bj) (n:Nat),Bi a l n=0->∀s,s∈l->je s=true
 |[],n,_,s,hs=>by simp at hs
 |x::l,n,h,s,hs=>by
  rw[Bi] at h;cases hv:je x with
  |false=>grind
  |true=>
   rw[hv] at h;simp only[bp9,cf9,if_false] at h;split at h
   ·cases h
   ·rcases aq9.1 hs with e|hs
    ·rw[e];exact hv
    ·exact Gc a l (n+1) h s hs
theorem Nh{a:List bj}(h:JH a=0):a.length<=50/\∀s,s∈a->qY s:=by
 grind [JH,CN,Gc]
theorem wr{k op n:Int}{nm:bj}{tx:List bj}{ks:List aR}(h:cI ⟨k,nm,tx,op,n,ks⟩=0)(hk:2<=k/\k<=5):jB ⟨k,nm,tx,op,n⟩/\ks=[]:=by
 unfold cI at h;dsimp only at h;rw[if_neg (by omega),if_neg (show ¬k=6 by omega),if_neg (show ¬7<=k by omega)] at h;split at h
 ·cases h
 ·rename_i h1;rw[ap8,ap8,ap8,not_or,not_or,not_or] at h1;obtain⟨⟨⟨_,h2⟩,h3⟩,h4⟩:=h1;split at h
  ·cases h
  ·rename_i h5
   have hnm:cO nm=true:=by
    cases hb:cO nm with
    |true=>rfl
    |false=>grind
   have hks:ks=[]:=by
    have:(ks.length==0)=true:=by simpa using h4
    exact aw8.1 (by grind)
   have htx:¬(k=2\/k=3)->tx=[]:=by
    intro hn;have e1:(k==2)=false:=beq_false_of_ne (by omega);have e2:(k==3)=false:=beq_false_of_ne (by omega);rw[e1,e2] at h2;simp only[Bool.or_self,br9,ah9,decide_eq_true_eq] at h2;exact aw8.1 (by omega)
   split at h
   ·rename_i h6;obtain⟨g1,g2⟩:=Nh h;exact⟨⟨hk,hnm,g1,g2,fun h=>by grind,fun h=>by grind,fun h=>by grind⟩,hks⟩
   ·rename_i h6;have:=htx h6;subst this;split at h
    ·rename_i h7;split at h
     ·cases h
     ·rename_i h8;split at h
      ·cases h
      ·rename_i h9;unfold pQ at h9;rw[ap8,decide_eq_true_eq,decide_eq_true_eq] at h9;exact⟨⟨hk,hnm,by simp,by simp,fun _=>⟨by grind,by grind⟩,fun _=>⟨by grind,by grind⟩,fun _=>rfl⟩,hks⟩
    ·rename_i h7;exact⟨⟨hk,hnm,by simp,by simp,fun h=>absurd h h7,fun h=>absurd h h7,fun _=>rfl⟩,hks⟩
theorem xR:∀t:Tr,t.flt=0->∀l,l∈t.lvs->jB l:=Tr.ind fun k nm tx op n ks ih hz l hl=>by
 obtain⟨hnode,hfl⟩:=kR hz;have hkk:=kJ hnode;dsimp only at hkk;rw[Tr.lvs] at hl;split at hl
 ·simp at hl
 ·split at hl
  ·obtain⟨t,ht,h⟩:=jk.1 hl<;>grind [gn]
  grind [wr]
theorem xS:∀t:Tr,t.lvs.length<=t.cnt:=Tr.ind fun k nm tx op n ks ih=>by
 rw[Tr.lvs,Tr.cnt]
 have:∀l:List Tr,(∀t,t∈l->t∈ks)->(Tr.lvss l).length<=Tr.cnts l:=by
  intro l
  induction l with
  |nil=>simp_all[Tr.lvss]
  |cons t r ihr=>
   grind [Tr.lvss,Tr.cnts]
 grind
theorem rN{τ:Type}{T:Nat}{enc:τ->List V}{y:τ}:(vm T enc y).t=T:=rfl
def BB:ai:=⟨[],[],[],false,false,false,2⟩
def eR(all:sF)(n:bj):ai:=match aY all n with
 |some (some s)=>s
 |_=>BB
def ti(l:Lf)(s:ai):ai:=
 if l.k=2 then ⟨s.is++l.tx,s.begins,s.numbers,true,s.asNo,s.has,bt (s.weight+((l.tx.length:Nat):Int))⟩
 else if l.k=3 then ⟨s.is,s.begins++l.tx,s.numbers,true,s.asNo,s.has,bt (s.weight+bt (2*((l.tx.length:Nat):Int)))⟩
 else if l.k=4 then ⟨s.is,s.begins,s.numbers,s.asText,s.asNo,true,s.weight⟩
 else ⟨s.is,s.begins,s.numbers++[l.n],s.asText,true,s.has,bt (s.weight+2)⟩
def jv(all:sF)(l:Lf):sF:=cK all l.nm (some (ti l (eR all l.nm)))
theorem ED{κ τ:Type}[DecidableEq κ](m:List (κ×τ))(k:κ)(v w:τ):cK (cK m k v) k w=cK m k w:=by
 induction m with
 |nil=>simp[cK]
 |cons p r ih=>
  rw[cK];by_cases e:p.1=k
  ·simp_all[cK]
  simp_all[cK]
structure Bd(all:sF)(B:Nat):Prop where
 so:∀n,aY all n≠some none
 li:∀n,(eR all n).is.length<=B/\(eR all n).begins.length<=B/\(eR all n).numbers.length<=B
theorem mB(all:sF)(l:Lf)(n:bj):eR (jv all l) n=if l.nm=n then ti l (eR all l.nm) else eR all n:=by
 unfold jv;by_cases e:l.nm=n
 ·rw[if_pos e]
  show(match aY (cK all l.nm _) n with|some (some s)=>s|_=>BB)=_
  rw[dM,if_pos e]
 ·rw[if_neg e]
  show(match aY (cK all l.nm _) n with|some (some s)=>s|_=>BB)=_
  rw[dM,if_neg e];rfl
theorem Bd.add{all:sF}{B:Nat}(h:Bd all B){l:Lf}(hl:l.tx.length<=50):Bd (jv all l) (B+50):=by
 refine⟨fun n=>?_,fun n=>?_⟩
 ·unfold jv;rw[dM];split
  ·simp
  ·exact h.so n
 ·rw[mB];have h1:=h.li n
  grind [ti]
theorem yU(F:Nat)(all:sF)(n:bj)(h:aY all n≠some none):∃xs,I5 F n all=some (xs,eR all n)/\∀v,cK xs n v=cK all n v:=by
 unfold I5 eR;cases hm:aY all n with
 |none=>exact⟨_,rfl,fun v=>ED _ _ _ _⟩
 |some q=>
  cases q<;>simp_all
theorem sW:∀(ls:List Lf) (all:sF) (B:Nat),Bd all B->(∀l,l∈ls->jB l)->Bd (ls.foldl jv all) (B+50*ls.length)
 |[],all,B,h,_=>by grind
 |l::r,all,B,h,hl=>by
  have:=sW r (jv all l) (B+50) (h.add (hl l (by simp)).len) fun m hm=>hl m (by simp[hm]);rw[bq9];refine⟨this.so,fun n=>?_⟩;have h1:=this.li n;simp only[br8];omega
theorem Po:∀t:Tr,t.ok->t.flt=0->∀F,t.fu<=F->∀(all:sF) (B:Nat),Bd all B->B+50*t.lvs.length<=1000000->JM F t.cd all=some (t.lvs.foldl jv all):=Tr.ind fun k nm tx op n ks ih ok hz F hF all B hB hb=>by
 rw[Tr.fu] at hF;have hlo:=xR _ hz;obtain⟨hnode,hfl⟩:=kR hz;obtain⟨F,rfl⟩:∃G,F=G+1:=⟨F - 1,by omega⟩
 show mr (JM F) F (Tr.mk k nm tx op n ks).cd all=_
 have hkk:=kJ hnode;dsimp only at hkk;have hk':k=1\/k=2\/k=3\/k=4\/k=5\/k=6\/k=7\/k=8:=by omega
 rw[Tr.lvs] at hb hlo ⊢;rw[Tr.cd]
 have hl1:∀(l:List Tr) (all:sF) (B:Nat),Bd all B->(∀t,t∈l->t∈ks)->B+50*(Tr.lvss l).length<=1000000->iK (JM F) F (fun m=>some m) (Tr.cds l) all=some ((Tr.lvss l).foldl jv all):=by
  intro l
  induction l with
  |nil=>intro all B _ _ _;rw[Tr.cds,Tr.lvss];rfl
  |cons t r ihr=>
   intro all B hB hm hb;rw[Tr.lvss,be9] at hb;have ht:=hm t (by simp);rw[Tr.cds,iK,ih t ht (Tr.oks_mem (Tr.okks ok).1 ht) (gn hfl ht) F (by have:=Tr.fu_mem ht;omega) all B hB (by omega),bt9,Tr.lvss,List.foldl_append];exact ihr _ _ (sW t.lvs all B hB fun l hl=>xR t (gn hfl ht) l hl) (fun u hu=>hm u (by simp[hu])) (by omega)
 have hl2:∀(l:List Tr) (all:sF) (B:Nat),Bd all B->(∀t,t∈l->t∈ks)->B+50*(Tr.lvss l).length<=1000000->iK (JM F) F (fun m=>some m) (Tr.cds l) all=some ((Tr.lvss l).foldl jv all):=by
  intro l
  induction l with
  |nil=>grind
  |cons t r ihr=>
   grind
 rcases hk' with e|e|e|e|e|e|e|e
 ·simp_all[mr,rN]
 ·subst e;simp only[show ¬(2:Int)=1 by decide,show ¬(2:Int)=3 by decide,show ¬(2:Int)=4 by decide,show ¬(2:Int)=5 by decide,show ¬(2:Int)=6 by decide,show ¬(2:Int)=7 by decide,show ¬(2:Int)=8 by decide,show ¬((2:Int)=6\/(2:Int)=7\/(2:Int)=8) by decide,if_false,if_true,List.length_singleton] at hb hlo ⊢;unfold mr;simp only[rN];refine(if_pos (show Nat.beq 147 147=true from Y)).trans ?_;obtain⟨xs,e1,e2⟩:=yU F all nm (hB.so nm);have h1:=hB.li nm;have h2:=(hlo ⟨2,nm,tx,op,n⟩ (by simp)).len;simp only at h2;rw[dh BW,bt9,e1,bt9,if_pos (by grind)];dsimp only;rw[e2];rfl
 ·subst e;simp only[show ¬(3:Int)=1 by decide,show ¬(3:Int)=2 by decide,show ¬(3:Int)=4 by decide,show ¬(3:Int)=5 by decide,show ¬(3:Int)=6 by decide,show ¬(3:Int)=7 by decide,show ¬(3:Int)=8 by decide,show ¬((3:Int)=6\/(3:Int)=7\/(3:Int)=8) by decide,if_false,if_true,List.length_singleton] at hb hlo ⊢;unfold mr;simp only[rN];refine(if_neg (show ¬Nat.beq 148 147=true by decide)).trans ?_;refine(if_pos (show Nat.beq 148 148=true from Y)).trans ?_;obtain⟨xs,e1,e2⟩:=yU F all nm (hB.so nm);have h1:=hB.li nm;have h2:=(hlo ⟨3,nm,tx,op,n⟩ (by simp)).len;simp only at h2;rw[dh pf,bt9,e1,bt9,if_pos (by grind)];dsimp only;rw[e2];rfl
 ·subst e;simp only[show ¬(4:Int)=1 by decide,show ¬(4:Int)=2 by decide,show ¬(4:Int)=3 by decide,show ¬(4:Int)=5 by decide,show ¬(4:Int)=6 by decide,show ¬(4:Int)=7 by decide,show ¬(4:Int)=8 by decide,show ¬((4:Int)=6\/(4:Int)=7\/(4:Int)=8) by decide,if_false,if_true,List.length_singleton] at hb hlo ⊢;unfold mr;simp only[rN];refine(if_neg (show ¬Nat.beq 150 147=true by decide)).trans ?_;refine(if_neg (show ¬Nat.beq 150 148=true by decide)).trans ?_;refine(if_pos (show Nat.beq 150 150=true from Y)).trans ?_;obtain⟨xs,e1,e2⟩:=yU F all nm (hB.so nm);rw[dh ya,bt9,e1,bt9];dsimp only;rw[e2];rfl
 ·subst e;simp only[show ¬(5:Int)=1 by decide,show ¬(5:Int)=2 by decide,show ¬(5:Int)=3 by decide,show ¬(5:Int)=4 by decide,show ¬(5:Int)=6 by decide,show ¬(5:Int)=7 by decide,show ¬(5:Int)=8 by decide,show ¬((5:Int)=6\/(5:Int)=7\/(5:Int)=8) by decide,if_false,if_true,List.length_singleton] at hb hlo ⊢;unfold mr;simp only[rN];refine(if_neg (show ¬Nat.beq 152 147=true by decide)).trans ?_;refine(if_neg (show ¬Nat.beq 152 148=true by decide)).trans ?_;refine(if_neg (show ¬Nat.beq 152 150=true by decide)).trans ?_;refine(if_pos (show Nat.beq 152 152=true from Y)).trans ?_;obtain⟨xs,e1,e2⟩:=yU F all nm (hB.so nm);have h1:=hB.li nm;have h2:=(hlo ⟨5,nm,tx,op,n⟩ (by simp)).len;simp only at h2;rw[dh pe,bt9,e1,bt9,if_pos (by grind)];dsimp only;rw[e2];rfl
 ·subst e;simp only[show ¬(6:Int)=1 by decide,show ¬(6:Int)=2 by decide,show ¬(6:Int)=3 by decide,show ¬(6:Int)=4 by decide,show ¬(6:Int)=5 by decide,show ¬(6:Int)=7 by decide,show ¬(6:Int)=8 by decide,if_false,if_true,or_true,true_or,or_false,false_or] at hb hlo ⊢;unfold mr;simp only[rN];refine(if_neg (show ¬Nat.beq 154 147=true by decide)).trans ?_;refine(if_neg (show ¬Nat.beq 154 148=true by decide)).trans ?_;refine(if_neg (show ¬Nat.beq 154 150=true by decide)).trans ?_;refine(if_neg (show ¬Nat.beq 154 152=true by decide)).trans ?_;refine(if_pos (show Nat.beq 154 154=true from Y)).trans ?_;have h1:ks.length=1:=by rw[<-mG hnode rfl];exact(Tr.toKs_len ks).symm
  match ks,h1,ih,ok,hb,hfl,hF with
  |[t],_,ih,ok,hb,hfl,hF=>
   rw[dh x5,bt9];simp only[Tr.lvss,List.append_nil] at hb ⊢
   show(JM F ((Tr.cds [t]).headD _) all).bind _=_
   rw[Tr.cds,List.headD_cons,ih t (by simp) (Tr.oks_mem (Tr.okks ok).1 (by simp)) (gn hfl (by simp)) F (by have:=Tr.fu_mem (ks:=[t]) (t:=t) (by simp);omega) all B hB hb,bt9]
 ·subst e;simp only[show ¬(7:Int)=1 by decide,show ¬(7:Int)=2 by decide,show ¬(7:Int)=3 by decide,show ¬(7:Int)=4 by decide,show ¬(7:Int)=5 by decide,show ¬(7:Int)=6 by decide,show ¬(7:Int)=8 by decide,if_false,if_true,or_true,true_or,or_false,false_or] at hb hlo ⊢;unfold mr;simp only[rN];refine(if_neg (show ¬Nat.beq 156 147=true by decide)).trans ?_;refine(if_neg (show ¬Nat.beq 156 148=true by decide)).trans ?_;refine(if_neg (show ¬Nat.beq 156 150=true by decide)).trans ?_;refine(if_neg (show ¬Nat.beq 156 152=true by decide)).trans ?_;refine(if_neg (show ¬Nat.beq 156 154=true by decide)).trans ?_;refine(if_pos (show Nat.beq 156 156=true from Y)).trans ?_
  grind [dh,yc,az]
 ·subst e;simp only[show ¬(8:Int)=1 by decide,show ¬(8:Int)=2 by decide,show ¬(8:Int)=3 by decide,show ¬(8:Int)=4 by decide,show ¬(8:Int)=5 by decide,show ¬(8:Int)=6 by decide,show ¬(8:Int)=7 by decide,if_false,if_true,or_true,true_or,or_false,false_or] at hb hlo ⊢;unfold mr;simp only[rN];refine(if_neg (show ¬Nat.beq 157 147=true by decide)).trans ?_;refine(if_neg (show ¬Nat.beq 157 148=true by decide)).trans ?_;refine(if_neg (show ¬Nat.beq 157 150=true by decide)).trans ?_;refine(if_neg (show ¬Nat.beq 157 152=true by decide)).trans ?_;refine(if_neg (show ¬Nat.beq 157 154=true by decide)).trans ?_;refine(if_neg (show ¬Nat.beq 157 156=true by decide)).trans ?_;refine(if_pos (show Nat.beq 157 157=true from Y)).trans ?_
  grind [dh,yb,az]
def lw(l:Lf):Nat:=if l.k=2 then l.tx.length else if l.k=3 then 2*l.tx.length else if l.k=4 then 0 else 2
def JG(ls:List Lf)(n:bj):Nat:=(ls.map fun l=>if l.nm=n then lw l else 0).sum
theorem JQ(d:List Lf)(l:Lf)(n:bj):JG (d++[l]) n=JG d n+(if l.nm=n then lw l else 0):=by
 unfold JG;simp
theorem My{l:Lf}(h:jB l):lw l<=100:=by
 have:=h.len
 grind [lw]
theorem FU{ls:List Lf}(h:∀l,l∈ls->jB l)(n:bj):JG ls n<=100*ls.length:=by
 unfold JG
 induction ls<;>grind [My]
structure RA(s:ai)(w:Nat):Prop where
 is:∀e,e∈s.is->qY e
 bg:∀e,e∈s.begins->qY e
 ns:∀n,n∈s.numbers->ka n
 tx:s.asText=false->s.is=[]/\s.begins=[]
 wt:s.weight=2+(w:Int)
 sz:s.is.length+2*s.begins.length+2*s.numbers.length=w
structure Ga(all:sF)(d:List Lf):Prop where
 kn:KN all
 ke:∀n,n∈all.map (·.1)<->∃l,l∈d/\l.nm=n
 sm:∀n,n∈all.map (·.1)->aY all n=some (some (eR all n))
 lf:∀l,l∈d->EJ (eR all l.nm) l
 ok:∀n,RA (eR all n) (JG d n)
 ln:all.length<=d.length
theorem HO{κ τ:Type}[DecidableEq κ](m:List (κ×τ))(k:κ)(v:τ):(cK m k v).length<=m.length+1:=by
 induction m<;>grind [cK]
theorem EH{s:ai}{l m:Lf}(h:EJ s m):EJ (ti l s) m:=by
 unfold ti;rcases h with ⟨a,b,c⟩|⟨a,b,c⟩|⟨a,b⟩|⟨a,b,c⟩
 ·refine .inl ⟨a,?_⟩
  grind
 ·refine .inr (.inl ⟨a,?_⟩)
  grind
 ·refine .inr (.inr (.inl ⟨a,?_⟩))
  grind
 ·refine .inr (.inr (.inr ⟨a,?_⟩))
  grind
theorem HN{s:ai}{l:Lf}(h:jB l):EJ (ti l s) l:=by
 have hk:=h.k;unfold ti;by_cases h2:l.k=2
 ·rw[if_pos h2];exact .inl ⟨h2,fun e he=>List.mem_append_right _ he,Y⟩
 rw[if_neg h2];by_cases h3:l.k=3
 ·rw[if_pos h3];exact .inr (.inl ⟨h3,fun e he=>List.mem_append_right _ he,Y⟩)
 rw[if_neg h3];by_cases h4:l.k=4
 ·rw[if_pos h4];exact .inr (.inr (.inl ⟨h4,Y⟩))
 rw[if_neg h4];exact .inr (.inr (.inr ⟨by omega,by simp,Y⟩))
theorem RA.upd{s:ai}{w:Nat}(h:RA s w){l:Lf}(hl:jB l)(hw:w<=1300000):RA (ti l s) (w+lw l):=by
 have hk:=hl.k;have hlen:=hl.len;have hwt:=h.wt;have hsz:=h.sz;unfold ti lw;by_cases h2:l.k=2
 ·rw[if_pos h2,if_pos h2];refine⟨fun e he=>(bu9.1 he).elim (h.is e) (hl.tx e),h.bg,h.ns,fun h=>absurd h (by simp),?_,?_⟩
  ·grind [cA]
  grind
 rw[if_neg h2,if_neg h2];by_cases h3:l.k=3
 ·rw[if_pos h3,if_pos h3];refine⟨h.is,fun e he=>(bu9.1 he).elim (h.bg e) (hl.tx e),h.ns,fun h=>absurd h (by simp),?_,?_⟩
  ·grind [cA]
  grind
 rw[if_neg h3,if_neg h3];by_cases h4:l.k=4
 ·rw[if_pos h4,if_pos h4];exact⟨h.is,h.bg,h.ns,h.tx,by grind,by grind⟩
 rw[if_neg h4,if_neg h4];refine⟨h.is,h.bg,fun n hn=>?_,h.tx,?_,?_⟩
 ·rcases bu9.1 hn with hn|hn
  ·exact h.ns n hn
  ·simp only[bi9] at hn;rw[hn];exact hl.n (by omega)
 ·grind [cA]
 grind
theorem Ga.add{all:sF}{d:List Lf}(h:Ga all d){l:Lf}(hl:jB l)(hd:∀l,l∈d->jB l)(hlen:d.length<=12100):Ga (jv all l) (d++[l]):=by
 have hke:∀n,n∈(jv all l).map (·.1)<->n=l.nm\/n∈all.map (·.1):=fun n=>wA n;refine⟨h.kn.put,fun n=>?_,fun n hn=>?_,fun m hm=>?_,fun n=>?_,?_⟩
 ·rw[hke,h.ke]
  grind
 ·rw[mB];unfold jv;rw[dM];by_cases e:l.nm=n
  ·grind
  ·rw[if_neg e,if_neg e];exact h.sm n (((hke n).1 hn).resolve_left (Ne.symm e))
 ·rw[mB];rcases bu9.1 hm with hm|hm
  ·have:=h.lf m hm
   grind [EH]
  simp_all[HN]
 ·rw[mB,JQ];by_cases e:l.nm=n
  ·rw[if_pos e,if_pos e,<-e];exact(h.ok l.nm).upd hl (by grind [FU])
  ·rw[if_neg e,if_neg e];exact h.ok n
 ·have:=HO all l.nm (some (ti l (eR all l.nm)));have:=h.ln
  grind [jv]
theorem Ga.fold:∀(ls d:List Lf) (all:sF),Ga all d->(∀l,l∈ls->jB l)->(∀l,l∈d->jB l)->d.length+ls.length<=12100->Ga (ls.foldl jv all) (d++ls)
 |[],d,all,h,_,_,_=>by grind
 |l::r,d,all,h,hl,hd,hlen=>by
  simp only[br8] at hlen
  have:=Ga.fold r (d++[l]) (jv all l) (h.add (hl l (by simp)) hd (by omega)) (fun m hm=>hl m (by simp[hm])) (fun m hm=>(bu9.1 hm).elim (hd m) fun hm=>by
   simp only[bi9] at hm;rw[hm];exact hl l (by simp)) (by simp;omega)
  rw[bq9]
  simpa using this
def fi(ls:List Lf):sF:=ls.foldl jv []
def fZ(ls:List Lf):Prop:=(∀l,l∈ls->jB l)/\ls.length<=12000
def NR(p:B8×(Option ai)):Bool:=match p.2 with|some s=>decide (1<=s.weight/\s.weight<=1000000000000)|none=>false
def FR(s:ai):Int:=if (s.has||(s.asText&&s.asNo))=true then s.weight+1 else s.weight
def Eb(p:B8×(Option ai)):Int:=match p.2 with|some s=>FR s|none=>1
def f0:ff->Int
 |[]=>1
 |p::l=>Eb p*f0 l
theorem BJ{l l':ff}(h:l.Perm l'):f0 l=f0 l':=by
 induction h<;>grind [f0]
theorem JP{p:B8×(Option ai)}(h:NR p=true):1<=Eb p:=by
 obtain⟨k,q⟩:=p;cases q with
 |none=>cases h
 |some s=>
  have:=of_decide_eq_true (show decide (1<=s.weight/\s.weight<=1000000000000)=true from h)
  show 1<=FR s
  grind [FR]
theorem we:∀{l:ff},l.all NR=true->1<=f0 l
 |[],_=>by simp[f0]
 |p::l,h=>by
  simp only[ag8,ao8] at h;have h1:=JP h.1;have h2:=we h.2
  show 1<=Eb p*f0 l
  have:=Int.mul_le_mul h1 h2 (by omega) (by omega)
  grind
theorem Ig{n w:Int}(hn:1<=n/\n<=200000)(hw:1<=w/\w<=1000000000001):bt (n*w)=n*w/\1<=n*w:=by
 have h1:1*1<=n*w:=Int.mul_le_mul hn.1 hw.1 (by omega) (by omega);have h2:n*w<=200000*1000000000001:=Int.mul_le_mul hn.2 hw.2 (by omega) (by omega)
 grind [cA]
theorem oz(F:Nat):∀(l:ff) (n:Int),1<=n/\n<=200000->l.all NR=true->gx F l n=some (decide (n*f0 l<=200000))
 |[],n,hn,_=>by
  simp_all[gx,f0]
 |p::l,n,hn,hl=>by
  unfold gx;have hl0:=hl;simp only[ag8,ao8] at hl;rw[if_pos ⟨hn,hl0⟩];have hp:=hl.1;obtain⟨k,q⟩:=p;cases q with
  |none=>cases hp
  |some s=>
   have hw:=of_decide_eq_true (show decide (1<=s.weight/\s.weight<=1000000000000)=true from hp);have ih:=fun m hm=>oz F l m hm hl.2;have hpos:=we hl.2;have e1:bt (s.weight+1)=s.weight+1:=cA (by omega) (by omega)
   have key:∀w:Int,1<=w/\w<=1000000000001->Eb (k,some s)=w->(if (decide ((bt (n*w))>200000))=true then some false else gx F l (bt (n*w)))=some (decide (n*f0 ((k,some s)::l)<=200000)):=by
    intro w hw hwe;obtain⟨h1,h2⟩:=Ig hn hw;rw[h1]
    show _=some (decide (n*(Eb (k,some s)*f0 l)<=200000))
    rw[hwe,<-Int.mul_assoc];by_cases hg:n*w>200000
    ·rw[if_pos (decide_eq_true hg)];have:n*w*1<=n*w*f0 l:=Int.mul_le_mul_of_nonneg_left hpos (by omega)
     grind
    ·grind
   simp only[bt9];cases hh:s.has with
   |true=>
    simp only[if_pos]
    grind [Eb,FR]
   |false=>
    rw[if_neg (by simp)];cases ht:s.asText with
    |true=>
     simp only[if_pos,jn];cases hn2:s.asNo with
     |true=>
      simp only[if_pos]
      grind [Eb,FR]
     |false=>
      rw[if_neg (by simp)];exact key _ ⟨by omega,by omega⟩ (by simp[Eb,FR,hh,ht,hn2])
    |false=>
     rw[if_neg (by simp)];exact key _ ⟨by omega,by omega⟩ (by simp[Eb,FR,hh,ht])
theorem BL{F:Nat}{l l':ff}{n:Int}{r:Bool}(hp:l.Perm l')(h:gx F l n=some r):gx F l' n=some r:=by
 cases l with
 |nil=>rw[<-hp.nil_eq];exact h
 |cons p t=>
  have hc:(1<=n/\n<=200000)/\(p::t).all NR=true:=by
   unfold gx at h;split at h
   ·rename_i hc;exact hc
   ·cases h
  rw[oz F _ n hc.1 hc.2] at h;rw[oz F _ n hc.1 (by rw[<-hc.2];exact(hp.symm.all_eq)),<-BJ hp];exact h
theorem Ev(s:ai)(nums:List Int):(oQ s nums).length<=nums.length+1:=by
 grind [oQ]
theorem il{α β:Type}(f:α->List β)(B:Nat):∀l:List α,(∀x,x∈l->(f x).length<=B)->(l.flatMap f).length<=l.length*B
 |[],_=>by simp
 |x::l,h=>by
  have h1:=h x (by simp);have h2:=il f B l fun y hy=>h y (by simp[hy]);simp only[ab8,be9,br8,al8,Nat.one_mul];omega
theorem Cj(s:ai)(nums:List Int)(txs:List bj):(fy s nums txs).length<=(nums.length+1)+txs.length*(nums.length+1):=by
 have h1:=Ev s nums;unfold fy;rw[be9]
 have h2:(if (s.asText||s.has)=true then txs.flatMap (fun t=>(oQ s nums).map (J4 t)) else []).length<=txs.length*(nums.length+1):=by
  split
  ·exact il _ _ _ fun x _=>by grind
  ·simp
 omega
structure Gvs(F:Nat)(s:ai)(nums:List Int)(txs:List bj):Prop where
 g:Gv F s nums txs
 rep:∀v,zT v->∃c,c∈fy s nums txs/\wS s (qN c) v
 ok:∀c,c∈fy s nums txs->zT (qN c)
theorem N7{s:ai}{w:Nat}(h:RA s w)(hw:w<=1200000)(F:Nat)(hF:1300000<=F):∃nums txs,Gvs F s nums txs:=by
 have hsz:=h.sz;obtain⟨nums,a1,a2,a3⟩:=L1 F s h.ns (by omega);obtain⟨txs,b1,b2,b3⟩:=L0 F s (by omega) (by omega) (by omega) h.bg;have hl:=Cj s nums txs;have hm:txs.length*(nums.length+1)<=1200001*1800002:=Nat.mul_le_mul (by omega) (by omega);refine⟨nums,txs,⟨a1,b1,by omega,by omega⟩,fun v hv=>Fg a3 h.ns b3 h.tx v hv,fun c hc=>IG (fun x hx=>?_) (fun x hx=>?_) hc⟩
 ·rcases(a3 x).1 hx with e|⟨n,_,hn⟩
  ·rw[e];exact⟨by omega,by omega⟩
  simp_all[sf]
 ·exact(b3.ok x hx).elim (h.is x) id
theorem Av{ls:List Lf}(h:fZ ls):Ga (fi ls) ls:=by
 have h0:Ga [] []:=⟨by simp[KN],fun n=>by simp,fun n hn=>by simp at hn,fun l hl=>by simp at hl,fun n=>⟨by simp[eR,aY,BB],by simp[eR,aY,BB],by simp[eR,aY,BB],fun _=>⟨rfl,rfl⟩,rfl,rfl⟩,by simp⟩;have:=Ga.fold ls [] [] h0 h.1 (by simp) (by have:=h.2;simp;omega);rw[ad9] at this;exact this
def se(ls:List Lf):List bj:=eA ((fi ls).map (·.1))
theorem nU{ls:List Lf}(h:fZ ls){n:bj}:n∈se ls<->∃l,l∈ls/\l.nm=n:=by
 unfold se;rw[(dY _).mem_iff];exact(Av h).ke n
theorem wn{ls:List Lf}(h:fZ ls):(se ls).Nodup:=(dY _).nodup_iff.2 (Av h).kn
theorem xN(ls:List Lf):(se ls).length=(fi ls).length:=by
 unfold se;rw[(dY _).length_eq];simp
theorem CH{ls:List Lf}(h:fZ ls)(n:bj):JG ls n<=1200000:=by
 have:=FU h.1 n;have:=h.2;omega
theorem Mt{ls:List Lf}(h:fZ ls){p:bj×Option ai}(hp:p∈fi ls):p.2=some (eR (fi ls) p.1):=by
 have hg:=Av h;have h1:=HF hg.kn hp;rw[hg.sm p.1 (bj8 hp)] at h1
 grind
theorem Ml{ls:List Lf}(h:fZ ls){p:bj×Option ai}(hp:p∈fi ls):NR p=true/\2<=Eb p:=by
 have h1:=((Av h).ok p.1).wt
 grind [CH,NR,Eb,FR,Mt]
theorem Qp{ls:List Lf}(h:fZ ls):(fi ls).all NR=true:=ap9.2 fun p hp=>(Ml h hp).1
theorem wd:∀{l:sF},(∀p,p∈l->2<=Eb p)->((2 ^ l.length:Nat):Int)<=f0 l
 |[],_=>by simp[f0]
 |p::r,h=>by
  have h1:=h p (by simp);have h2:=wd (l:=r) fun m hm=>h m (by simp[hm])
  have h3:(1:Int)<=((2 ^ r.length:Nat):Int):=by
   have:=Nat.one_le_two_pow (n:=r.length);omega
  rw[f0,br8,Nat.pow_succ,an9];have:=Int.mul_le_mul h1 h2 (by omega) (by omega)
  grind
def jI(ls:List Lf):Bool:=decide (f0 (fi ls)<=200000)
theorem RS(F:Nat){ls:List Lf}(h:fZ ls):P3 F (fi ls)=some (jI ls):=by
 simp_all[P3,jI,oz,Qp]
theorem uv{ls:List Lf}(h:fZ ls)(hf:jI ls=true):(se ls).length<=17:=by
 have h1:=wd fun p hp=>(Ml h hp).2;have h2:=of_decide_eq_true hf;rw[xN];rcases bm8 17 (fi ls).length with h3|h3
 ·have:=Nat.pow_le_pow_right (n:=2) (by omega) h3;omega
 ·exact h3
theorem zS:zT ⟨false,false,[],0⟩:=⟨fun h=>absurd h (by simp),fun h=>absurd h (by simp)⟩
structure M3(ls:List Lf)(P:(bj->Option Fd)->Option Bool)(A:(bj->Fd)->Bool):Prop where
 mono:∀s s' b,ext s s'->P s=some b->P s'=some b
 full:∀s a,(∀l,l∈ls->s l.nm=some (a l.nm))->P s=some (A a)
 congr:∀a b,(∀l,l∈ls->l.one (a l.nm)=l.one (b l.nm))->A a=A b
theorem NX{s:bj}(h:cO s=true):s.length<=1000:=by
 unfold cO at h
 grind
def JN(A:(bj->Fd)->Bool):Prop:=∃v:bj->Fd,(∀n,zT (v n))/\A v=true
theorem Ep{ls:List Lf}(hl:fZ ls)(hf17:jI ls=true){P:(bj->Option Fd)->Option Bool}{A:(bj->Fd)->Bool}(hP:M3 ls P A)(F0:Nat)(c1:List KV)(n1:List Int)(c2:List KV)(n2:List Int)
  (hC:∀F m kn s,F0<=F->DW m kn s->O3 F ⟨m,some kn⟩ c1 n1 c2 n2=some (zB (P (wM s)))) (F:Nat) (hF:F0+1300100<=F):
  ∃by_ m' kn' r,Pn F (fi ls) c1 n1 c2 n2=some (by_,se ls)/\zp F 0 by_ c1 n1 c2 n2 (se ls) [] []=some (r,m',kn')/\(r=true<->JN A)/\
   (r=true->∃s',DW m' kn' s'/\P (wM s')=some true/\∀n x,s' n=some x->zT (qN x)/\n∈se ls):=by
 have hg:=Av hl;have hl17:=uv hl hf17;have hal:(fi ls).length<=17:=by rw[<-xN];exact hl17
 have hgs:=fun n=>N7 (hg.ok n) (CH hl n) F (by omega)
 have hnm:∀n,n∈(fi ls).map (·.1)->n.length<=1000:=fun n hn=>by
  obtain⟨l,h,e⟩:=(hg.ke n).1 hn;exact e ▸ NX (hl.1 l h).nm
 obtain⟨by_,e1,e2⟩:=Pm F (fi ls) c1 n1 c2 n2 hg.kn (by omega) (fun p hp=>hnm p.1 (bj8 hp)) (fun n hn=>by
  obtain⟨nums,txs,h⟩:=hgs n;exact⟨eR (fi ls) n,nums,txs,hg.sm n hn,h.g⟩)
 have hnd:=wn hl;have hs0:DW [] [] (fun _=>none:M4):=⟨fun _=>rfl,fun _=>rfl,by simp[KN],by simp[KN]⟩
 have hmono:∀(s s':M4) b,ext s s'->P (wM s)=some b->P (wM s')=some b:=fun s s' b he h=>hP.mono _ _ b (fun n x hx=>by
  unfold wM at hx ⊢;cases hs:s n with
  |none=>grind
  |some y=>rw[hs] at hx;rw[he n y hs];exact hx) h
 obtain⟨m',kn',hf⟩:=Dq (fun s=>P (wM s)) F0 c1 n1 c2 n2 hC by_ (se ls) hnd (by omega) (se ls) [] rfl F (by omega) [] [] (fun _=>none) hs0 (fun _ _=>rfl)
 have hcan:∀n,n∈se ls->∃nums txs,Gvs F (eR (fi ls) n) nums txs/\∀x,x∈(aY by_ n).getD []<->x∈fy (eR (fi ls) n) nums txs:=fun n hn=>by
  obtain⟨nums,txs,h⟩:=hgs n;exact⟨nums,txs,h,e2 n _ nums txs (hg.sm n ((dY _).mem_iff.1 hn)) h.g⟩
 rw[show(([]:List bj).length:Int)=0 from rfl] at hf;cases h4:sj? (fun s=>P (wM s)) (fun n=>(aY by_ n).getD []) (se ls) (fun _=>none) with
 |some s'=>
  rw[h4] at hf;dsimp only at hf;obtain⟨g1,g2,g3⟩:=ro (se ls) _ s' hnd (fun _ _=>rfl) h4
  have hs':∀n x,s' n=some x->zT (qN x)/\n∈se ls:=fun n x hx=>by
   rcases g3 n x hx with h|⟨h,h5⟩
   ·cases h
   ·obtain⟨nums,txs,q1,q2⟩:=hcan n h;exact⟨q1.ok x ((q2 x).1 h5),h⟩
  refine⟨by_,m',kn',true,e1,hf.1,⟨fun _=>?_,fun _=>Y⟩,fun _=>⟨s',hf.2,g1,hs'⟩⟩;refine⟨fun n=>((wM s') n).getD ⟨false,false,[],0⟩,fun n=>?_,?_⟩
  ·unfold wM;dsimp only;cases hx:s' n<;>grind [zS]
  ·have h6:=hP.mono (wM s') (fun n=>some (((wM s') n).getD ⟨false,false,[],0⟩)) true (fun n x hx=>by grind) g1;rw[hP.full _ (fun n=>((wM s') n).getD ⟨false,false,[],0⟩) fun _ _=>rfl] at h6
   grind
 |none=>
  rw[h4] at hf;dsimp only at hf;refine⟨by_,m',kn',false,e1,hf.1,⟨fun h=>absurd h (by simp),fun⟨v,hv,ht⟩=>?_⟩,fun h=>absurd h (by simp)⟩;exfalso
  have hrep:∀n,∃c:ac,n∈se ls->c∈(aY by_ n).getD []/\wS (eR (fi ls) n) (qN c) (v n):=fun n=>by
   by_cases hn:n∈se ls
   ·obtain⟨nums,txs,q1,q2⟩:=hcan n hn;obtain⟨c,c1,c2⟩:=q1.rep (v n) (hv n)<;>grind
   ·exact⟨zV,fun h=>absurd h hn⟩
  obtain⟨a,ha⟩:∃a:bj->ac,∀n,n∈se ls->a n∈(aY by_ n).getD []/\wS (eR (fi ls) n) (qN (a n)) (v n):=⟨fun n=>(hrep n).choose,fun n hn=>(hrep n).choose_spec hn⟩;refine ut hmono (se ls) _ hnd (fun _ _=>Y) h4 a (fun n hn=>(ha n hn).1) ?_
  rw[hP.full _ (fun n=>qN (a n)) fun l hl2=>by
   have hn:=(nU hl).2 ⟨l,hl2,rfl⟩
   simp_all[wM,oK]]
  rw[hP.congr _ v fun l hl2=>zR (hg.lf l hl2) (ha l.nm ((nU hl).2 ⟨l,hl2,rfl⟩)).2,ht]
mutual
def Tr.gd:Tr->Prop
 | .mk k nm tx op n ks=>(cI ⟨k,nm,tx,op,n,Tr.toKs ks⟩=0\/((k=7\/k=8)/\nm=[]))/\Tr.gds ks
def Tr.gds:List Tr->Prop
 |[]=>True
 |t::r=>t.gd/\Tr.gds r
end
theorem om:∀{ks:List Tr} {t:Tr},Tr.gds ks->t∈ks->t.gd
 |u::r,t,h,hm=>by
  rw[Tr.gds] at h;rcases aq9.1 hm with e|hm
  ·rw[e];exact h.1
  ·exact om h.2 hm
theorem ur:∀{ks:List Tr},(∀t,t∈ks->t.gd)->Tr.gds ks
 |[],_=>by rw[Tr.gds];trivial
 |u::r,h=>by rw[Tr.gds];exact⟨h u (by simp),ur fun t ht=>h t (by simp[ht])⟩
theorem iR{k op n:Int}{nm:bj}{tx:List bj}{ks:List Tr}(h:(Tr.mk k nm tx op n ks).gd):(cI ⟨k,nm,tx,op,n,Tr.toKs ks⟩=0\/((k=7\/k=8)/\nm=[]))/\Tr.gds ks:=by
 simp_all[Tr.gd]
theorem N9:∀t:Tr,t.flt=0->t.gd:=Tr.ind fun k nm tx op n ks ih hz=>by
 grind [kR,Tr.gd,ur,gn]
theorem tU{s:bj}(h:cO s=true):s≠[]:=by
 rintro rfl;cases h
theorem C9{x:aH}(h:cI x=0)(hk:¬(2<=x.Kind/\x.Kind<=5)):x.Name=[]/\(x.Kind=1->x.Kids=[]):=by
 unfold cI at h
 grind
section
variable{k op n:Int}{nm:bj}{tx:List bj}{ks:List Tr}(h:(Tr.mk k nm tx op n ks).gd)
include h
theorem Do:1<=k/\k<=8:=by
 rcases(iR h).1 with h|h
 ·exact kJ h
 ·omega
theorem N8(h6:k=6):ks.length=1:=by
 rcases(iR h).1 with h|h
 ·rw[<-mG h h6];grind [Tr.toKs_len]
 ·omega
theorem Ia(h1:k=1):ks=[]:=by
 rcases(iR h).1 with h|h
 ·have:=Tr.toKs_len ks;have e:=(C9 h (by grind)).2 h1
  grind
 ·omega
theorem nZ:
  (nm≠[]/\ks=[]/\2<=k/\k<=5/\(Tr.mk k nm tx op n ks).lvs=[⟨k,nm,tx,op,n⟩]/\jB ⟨k,nm,tx,op,n⟩)\/(nm=[]/\(Tr.mk k nm tx op n ks).lvs=Tr.lvss ks):=by
 have hkk:=Do h;have hone:=Ia h;obtain⟨hnode,hfl⟩:=iR h;rw[Tr.lvs];by_cases hk:2<=k/\k<=5
 ·rcases hnode with hnode|hnode
  ·obtain⟨h1,h2⟩:=wr hnode hk
   have hks:ks=[]:=by
    have:=Tr.toKs_len ks;rw[h2] at this;exact aw8.1 this.symm
   exact .inl ⟨tU h1.nm,hks,hk.1,hk.2,by grind,h1⟩
  ·omega
 ·have h1:nm=[]:=by
   rcases hnode with hnode|hnode
   ·exact(C9 hnode hk).1
   ·grind
  refine .inr ⟨h1,?_⟩;by_cases h1:k=1
  ·rw[if_pos h1,hone h1];rfl
  grind
end
theorem xQ:∀t:Tr,t.gd->∀l,l∈t.lvs->jB l:=Tr.ind fun k nm tx op n ks ih hz l hl=>by
 rcases nZ hz with ⟨_,_,_,_,h3,h4⟩|⟨_,h3⟩
 ·grind
 ·rw[h3] at hl;obtain⟨t,ht,h⟩:=jk.1 hl;exact ih t ht (om (iR hz).2 ht) l h
abbrev oX(l:List bj):Prop:=l.Pairwise (fun a b=>Op.bytesLess a b=true)
theorem Sz{i j:Nat}(h:i+j<=1000000000):bt (Int.tdiv (bt ((i:Int)+(j:Int))) 2)=(((i+j) / 2:Nat):Int):=by
 grind [cA]
theorem rG(F:Nat)(a:List bj)(x:bj)(k:Int->Option (Int×Bool))(hlen:a.length<=100000000)(hs:oX a):
  ∀(n i j:Nat),i<=j->j<=a.length->j - i<n->(∀q (h:q<a.length),q<i->Op.bytesLess a[q] x=true)->(∀q (h:q<a.length),j<=q->Op.bytesLess a[q] x=false)->
  ∃p:Nat,p<=a.length/\lZ F a x k n i j=k p/\(∀q (h:q<a.length),q<p->Op.bytesLess a[q] x=true)/\∀q (h:q<a.length),p<=q->Op.bytesLess a[q] x=false
 |0,i,j,_,_,h,_,_=>by omega
 |n+1,i,j,hij,hj,hn,h1,h2=>by
  rw[lZ];by_cases hc:i<j
  ·have hm:(i+j) / 2<a.length:=by omega
   rw[if_pos (decide_eq_true (by omega)),Sz (by omega),bU hm,bt9,az];by_cases hl:Op.bytesLess a[(i+j) / 2] x=true
   ·rw[if_pos hl,show bt ((((i+j) / 2:Nat):Int)+1)=(((i+j) / 2+1:Nat):Int) by grind [cA]];refine rG F a x k hlen hs n ((i+j) / 2+1) j (by omega) hj (by omega) (fun q h hq=>?_) h2;rcases bm8 q ((i+j) / 2) with hq2|hq2
    ·exact kU (au9.1 hs q ((i+j) / 2) h hm hq2) hl
    grind
   ·rw[if_neg hl];refine rG F a x k hlen hs n i ((i+j) / 2) (by omega) (by omega) (by omega) h1 (fun q h hq=>?_);have hl:Op.bytesLess a[(i+j) / 2] x=false:=by simpa using hl
    rcases bm8 ((i+j) / 2) q with hq2|hq2
    ·have:=au9.1 hs ((i+j) / 2) q hm h hq2
     grind [kU]
    grind
  grind
theorem ze(F:Nat)(a:List bj)(x:bj)(hlen:a.length<=100000000)(hs:oX a)(hF:a.length<F):
  ∃p:Nat,p<=a.length/\Bf F a x=some ((p:Int),decide (x∈a))/\(∀q (h:q<a.length),q<p->Op.bytesLess a[q] x=true)/\(∀q (h:q<a.length),p<=q->Op.bytesLess a[q] x=false)/\(x∈a->a[p]? = some x):=by
 obtain⟨p,hp,he,h1,h2⟩:=rG F a x (fun(n4:Int)=>if (decide (n4<((a.length:Nat):Int)))=true then (cH a n4).bind fun x17=>some (n4,(x17==x)) else some (n4,false)) hlen hs F 0 a.length (by omega) (ae9 _) (by omega) (fun q h hq=>by omega) (fun q h hq=>by omega)
 have hin:x∈a->∃h:p<a.length,a[p]=x:=fun hx=>by
  obtain⟨q,hq,e⟩:=bf9 hx;have hpq:p<=q:=as8 fun h=>by grind [ot]
  have hpl:p<a.length:=by omega
  refine⟨hpl,?_⟩;rcases bm8 p q with h|h
  ·have:=au9.1 hs p q hpl hq h
   grind
  grind
 refine⟨p,hp,?_,h1,h2,fun hx=>?_⟩
 ·unfold Bf;rw[az,show(0:Int)=((0:Nat):Int) from rfl,he];by_cases hpl:p<a.length
  ·rw[if_pos (decide_eq_true (by omega)),bU hpl,bt9]
   have:(a[p]==x)=decide (x∈a):=by
    by_cases hx:x∈a
    ·grind
    ·grind
   rw[this]
  ·rw[if_neg (by simp;omega),decide_eq_false fun hx=>hpl (hin hx).1]
 grind
theorem I7(F:Nat)(a:List bj)(x:bj)(hlen:a.length<=100000000)(hs:oX a)(hF:a.length<F):PT F a x=some (decide (x∈a)):=by
 obtain⟨p,_,e,_⟩:=ze F a x hlen hs hF<;>simp_all[PT]
theorem s9(F:Nat)(a:List bj)(x:bj)(hlen:a.length<=90000000)(hs:oX a)(hF:a.length<F):
  ∃a',zf F a x=some a'/\oX a'/\(∀y,y∈a'<->y=x\/y∈a)/\a'.length<=a.length+1:=by
 obtain⟨p,hp,e,h1,h2,h3⟩:=ze F a x (by omega) hs hF;unfold zf;rw[e,bt9];dsimp only;by_cases hx:x∈a
 ·grind
 ·rw[decide_eq_false hx,if_neg (by simp)];have hpn:((p:Int)).toNat=p:=rfl;rw[hpn,if_pos ⟨by omega,hp⟩,if_pos (by simp;omega),if_pos (by simp;omega),if_pos ⟨by omega,hp⟩,if_pos (by simp;omega)];refine⟨_,rfl,?_,fun y=>?_,by simp;omega⟩
  ·have hlt:∀y,y∈a.take p->Op.bytesLess y x=true:=fun y hy=>by
    grind [List.getElem_of_mem]
   have hgt:∀y,y∈a.drop p->Op.bytesLess x y=true:=fun y hy=>by
    grind [List.getElem_of_mem,yy]
   refine List.pairwise_append.2 ⟨List.pairwise_append.2 ⟨hs.sublist (List.take_sublist _ _),by simp,fun b hb c hc=>?_⟩,hs.sublist (List.drop_sublist _ _),fun b hb c hc=>?_⟩
   ·grind
   grind [kU]
  grind [List.take_append_drop]
theorem Pa:∀t:Tr,t.ok->t.gd->∀F,t.fu+200000000<=F->∀a:List bj,oX a->a.length+t.cnt<=10000000->
  ∃a',Jf F t.toT a=some a'/\oX a'/\(∀y,y∈a'<->y∈a\/∃l,l∈t.lvs/\l.nm=y)/\a'.length<=a.length+t.cnt:=Tr.ind fun k nm tx op n ks ih ok hz F hF a ha hl=>by
 rw[Tr.fu] at hF;rw[Tr.cnt] at hl ⊢;obtain⟨hnode,hfl⟩:=iR hz;obtain⟨F,rfl⟩:∃G,F=G+1:=⟨F - 1,by omega⟩
 show ∃a',A7 (Jf F) F (Tr.mk k nm tx op n ks).toT a=some a'/\_
 rw[Tr.toT,A7];dsimp only;rcases nZ hz with ⟨h1,h2,_,_,h3,_⟩|⟨h1,h3⟩
 ·rw[if_pos (by grind)];obtain⟨a',e,g1,g2,g3⟩:=s9 F a nm (by omega) ha (by omega);refine⟨a',by rw[e];rfl,g1,fun y=>?_,by omega⟩;rw[g2,h3];constructor
  ·rintro(h|h)
   ·simp_all
   grind
  grind
 ·rw[if_neg (by simp[h1])];have hk:=(Tr.okks ok).2;rw[az,Tr.toKs_len,if_pos (by omega),show(((ks.length:Nat):Int)).toNat=ks.length by omega]
  have hloop:∀m j:Nat,j+m=ks.length->∀a:List bj,oX a->a.length+Tr.cnts (ks.drop j)<=10000000->
    ∃a',nM (Jf F) F ⟨k,nm,tx,op,n,Tr.toKs ks⟩ (fun(l7:List B8)=>some l7) m (j:Int) a=some a'/\oX a'/\(∀y,y∈a'<->y∈a\/∃l,l∈Tr.lvss (ks.drop j)/\l.nm=y)/\a'.length<=a.length+Tr.cnts (ks.drop j):=by
   intro m
   induction m with
   |zero=>
    simp_all[nM,Tr.lvss]
   |succ m ihm=>
    intro j hj a ha hl;have hn:j<ks.length:=by omega
    have ht:ks[j]∈ks:=az8 _;rw[bo8 hn,Tr.cnts] at hl;obtain⟨a1,e1,p1,p2,p3⟩:=ih _ ht (Tr.oks_mem (Tr.okks ok).1 ht) (om hfl ht) F (by have:=Tr.fu_mem ht;omega) a ha (by omega);obtain⟨a2,e2,q1,q2,q3⟩:=ihm (j+1) (by omega) a1 p1 (by omega)<;>grind [nM,gj,Tr.dec,List.drop_eq_getElem_cons,Tr.cnts,Tr.lvss]
  obtain⟨a',e,g1,g2,g3⟩:=hloop ks.length 0 (by omega) a ha (by grind);rw[bn8] at g2 g3;refine⟨a',e,g1,fun y=>by rw[g2,h3],by omega⟩
def Lf.t(l:Lf):aH:=⟨l.k,l.nm,l.tx,l.op,l.n,[]⟩
def Lf.row(l:Lf):aR:=c8 ag l.t
theorem Lf.dec(l:Lf):er ag l.row=some l.t:=Dk qa rfl
def sD(t:Tr)(n:bj):List Lf:=t.lvs.filter fun l=>l.nm==n
theorem s7(t:Tr)(n:bj):(sD t n).length<=t.cnt:=bq8 (ab9 _ _) (xS t)
theorem s6{t:Tr}{n:bj}{l:Lf}:l∈sD t n<->l∈t.lvs/\l.nm=n:=by
 simp_all[sD]
theorem I4(nm':bj)(hne:nm'≠[]):∀t:Tr,t.ok->t.gd->∀F,t.fu<=F->∀a:List aR,a.length+t.cnt<=10000000->
  rZ F t.toT nm' a=some (a++(sD t nm').map Lf.row):=Tr.ind fun k nm tx op n ks ih ok hz F hF a hl=>by
 rw[Tr.fu] at hF;rw[Tr.cnt] at hl;obtain⟨hnode,hfl⟩:=iR hz;obtain⟨F,rfl⟩:∃G,F=G+1:=⟨F - 1,by omega⟩
 show qu (rZ F) F (Tr.mk k nm tx op n ks).toT nm' a=_
 have hk:=(Tr.okks ok).2
 have hloop:∀m j:Nat,j+m=ks.length->∀a:List aR,a.length+Tr.cnts (ks.drop j)<=10000000->
   iq (rZ F) F ⟨k,nm,tx,op,n,Tr.toKs ks⟩ nm' (fun(l24:List aR)=>some l24) m (j:Int) a=some (a++((Tr.lvss (ks.drop j)).filter fun l=>l.nm==nm').map Lf.row):=by
  intro m
  induction m with
  |zero=>
   simp_all[iq,Tr.lvss]
  |succ m ihm=>
   intro j hj a hl;have hn:j<ks.length:=by omega
   have ht:ks[j]∈ks:=az8 _;rw[bo8 hn,Tr.cnts] at hl;have hal:=s7 ks[j] nm';rw[iq,gj hn,bt9,Tr.dec,bt9,ih _ ht (Tr.oks_mem (Tr.okks ok).1 ht) (om hfl ht) F (by have:=Tr.fu_mem ht;omega) a (by omega),bt9,show((j:Int)+1)=((j+1:Nat):Int) from rfl,ihm (j+1) (by omega) _ (by grind),bo8 hn,Tr.lvss,ac9,ci9,bv8];rfl
 rw[Tr.toT,qu];dsimp only;rcases nZ hz with ⟨h1,h2,_,_,h3,_⟩|⟨h1,h3⟩
 ·unfold sD;rw[h3];by_cases e:nm=nm'
  ·rw[if_pos (by grind),if_pos (by simp;omega)]
   simp_all[Lf.row,Lf.t,Tr.toKs]
  ·rw[if_neg (by grind),az,Tr.toKs_len,if_pos (by omega),show(((ks.length:Nat):Int)).toNat=ks.length by omega]
   grind [Tr.lvss]
 ·rw[if_neg (by grind),az,Tr.toKs_len,if_pos (by omega),show(((ks.length:Nat):Int)).toNat=ks.length by omega];have:=hloop ks.length 0 (by omega) a (by grind)
  simp_all[sD]
theorem I3(nm':bj)(hne:nm'≠[]):∀t:Tr,t.ok->t.gd->t.cnt<=1500000->∀F,t.fu<=F->
  PS F t.toT nm'=some ((sD t nm').map Lf.row):=fun t=>match t with
 | .mk k nm tx op n ks=>fun ok hz hc F hF=>by
  rw[Tr.fu] at hF;rw[Tr.cnt] at hc;obtain⟨hnode,hfl⟩:=iR hz;have hk:=(Tr.okks ok).2
  have hloop:∀m j:Nat,j+m=ks.length->∀a:List aR,a.length+Tr.cnts (ks.drop j)<=10000000->
    nl F ⟨k,nm,tx,op,n,Tr.toKs ks⟩ nm' (fun(l23:List aR)=>some l23) m (j:Int) a=some (a++((Tr.lvss (ks.drop j)).filter fun l=>l.nm==nm').map Lf.row):=by
   intro m
   induction m with
   |zero=>
    simp_all[nl,Tr.lvss]
   |succ m ihm=>
    intro j hj a hl;have hn:j<ks.length:=by omega
    have ht:ks[j]∈ks:=az8 _;rw[bo8 hn,Tr.cnts] at hl;have hal:=s7 ks[j] nm';rw[nl,gj hn,bt9,Tr.dec,bt9,I4 nm' hne _ (Tr.oks_mem (Tr.okks ok).1 ht) (om hfl ht) F (by have:=Tr.fu_mem ht;omega) a (by omega),bt9,show((j:Int)+1)=((j+1:Nat):Int) from rfl,ihm (j+1) (by omega) _ (by grind),bo8 hn,Tr.lvss,ac9,ci9,bv8];rfl
  rw[Tr.toT,PS];dsimp only;rcases nZ hz with ⟨h1,h2,_,_,h3,_⟩|⟨h1,h3⟩
  ·unfold sD;rw[h3];by_cases e:nm=nm'
   ·simp_all[Lf.row,Lf.t,Tr.toKs]
   ·rw[if_neg (by grind),az,Tr.toKs_len,if_pos (by omega),show(((ks.length:Nat):Int)).toNat=ks.length by omega]
    grind [Tr.lvss]
  ·rw[if_neg (by grind),az,Tr.toKs_len,if_pos (by omega),show(((ks.length:Nat):Int)).toNat=ks.length by omega];have:=hloop ks.length 0 (by omega) [] (by grind)
   simp_all[sD]
end Go.Proofs.YtelmfadihfcgnaaGreatDoor
