/- Part of the proof. -/
import Derived.Test.YtelmfadihfcgnaaGreatDoorGD4QF
set_option linter.unusedSimpArgs false
set_option linter.unusedVariables false
namespace Go.Proofs.YtelmfadihfcgnaaGreatDoor
open Go Go.Pv
set_option maxRecDepth 1000000
theorem mL{s w:ba}:As s w=true<->w <+: s:=by
 unfold As;rw[ap9,decide_eq_true_eq,beq_iff_eq];constructor
 ·grind
 ·intro h;exact⟨h.length_le,(List.prefix_iff_eq_take.1 h).symm⟩
def zl(n:Nat)(bg:List ba)(y:ba):Bool:=bg.any fun b=>decide (n<b.length)&&As y b
theorem fC{n:Nat}{bg:List ba}{y:ba}:zl n bg y=false<->∀b,b∈bg->n<b.length->¬b <+: y:=by
 simp_all[zl,mL]
theorem IL(F:Nat)(s:ba)(bg:List ba)(n:Nat):GS F s bg (n:Int)=some (zl n bg s):=by
 unfold GS w9 w8
 have h:=HZ (g:=gn F (n:Int) s (some (-1))) (fun b=>decide (n<b.length)&&As s b) (fun _=>rfl) (fun x l m=>by
  rw[gn,IK];by_cases h:n<x.length
  ·simp_all[BX]
  grind) bg 0
 rw[show((0:Nat):Int)=0 from rfl] at h;rw[aF,h];rw[GA (n:=0+bg.findIdx fun b=>decide (n<b.length)&&As s b)];rfl
theorem Ib:∀c:Fin 127,32<=c.val->(Utf8.encode (IntKind.wrap .i32 (c.val:Int))).data.toList=[UInt8.ofNat c.val]:=by decide
theorem xo:∀c:Fin 127,IntKind.wrap .u8 ((c.val:Int)+1)=(c.val:Int)+1:=by decide
theorem wu:∀c:Fin 127,(UInt8.ofNat c.val).toNat=c.val:=by decide
def eh(n:Nat)(bg:List ba)(x:ba)(c:Nat):List ba:=((List.range' c (127 - c)).map fun i=>x++[UInt8.ofNat i]).filter fun y=>!zl n bg y
theorem r6{n:Nat}{bg:List ba}{x:ba}{c:Nat}(h:c<=126):eh n bg x c=(if zl n bg (x++[UInt8.ofNat c])=true then [] else [x++[UInt8.ofNat c]])++eh n bg x (c+1):=by
 unfold eh;rw[show 127 - c=(127 - (c+1))+1 by omega,List.range'_succ,bi8,aa8]
 grind
theorem tf(F:Nat)(a1:ba)(a2 a3:List ba)(x:ba)(k:List ba->Option (ba×Bool))(hx:x.length<=1000):∀(d c:Nat),c+d=127->32<=c->∀fuel,d<fuel->∀l:List ba,l.length+d<=10000000->
  jd F a1 a2 a3 x k fuel (c:Int) l=match (eh a1.length a2 x c).find? (fun y=>!(a3.any fun w=>y==w)) with
   |some y=>some (y,true)
   |none=>k (l++eh a1.length a2 x c)
 |0,c,hc,h32,fuel,hf,l,hl=>by
  obtain⟨fuel,rfl⟩:∃g,fuel=g+1:=⟨fuel - 1,by omega⟩<;>simp_all[eh,jd]
 |d+1,c,hc,h32,fuel,hf,l,hl=>by
  obtain⟨fuel,rfl⟩:∃g,fuel=g+1:=⟨fuel - 1,by omega⟩;have h1:=Ib ⟨c,by omega⟩ h32;have h2:=xo ⟨c,by omega⟩;dsimp only at h1 h2;rw[jd,if_pos (decide_eq_true (by omega)),aF,h1,h2,if_pos (by simp;omega),IL,bw9,r6 (by omega)];have ih:=tf F a1 a2 a3 x k hx d (c+1) (by omega) (by omega) fuel (by omega);rw[show((c+1:Nat):Int)=(c:Int)+1 by omega] at ih;cases hb:zl a1.length a2 (x++[UInt8.ofNat c]) with
  |true=>
   grind
  |false=>
   simp only[ch8,if_false];rw[tc,bw9]
   grind
theorem gD{n:Nat}{bg:List ba}{x y:ba}:y∈eh n bg x 32<->(∃c:UInt8,32<=c.toNat/\c.toNat<=126/\y=x++[c])/\zl n bg y=false:=by
 unfold eh;rw[bw8,bc9];constructor
 ·rintro⟨⟨i,hi,rfl⟩,h⟩
  rw[List.mem_range'_1] at hi;have:=wu ⟨i,by omega⟩
  grind
 ·rintro⟨⟨c,h1,h2,rfl⟩,h⟩
  refine⟨⟨c.toNat,?_,?_⟩,by rw[h];rfl⟩
  ·grind
  ·simp
theorem rZ(n:Nat)(bg:List ba)(x:ba):(eh n bg x 32).Nodup:=by
 unfold eh;refine List.Nodup.sublist List.filter_sublist ?_;rw[List.nodup_iff_pairwise_ne,List.pairwise_map];refine(List.nodup_iff_pairwise_ne.1 List.nodup_range').imp_of_mem fun {a b} ha hb h e=>h ?_;rw[List.mem_range'_1] at ha hb;have h1:=wu ⟨a,by omega⟩;have h2:=wu ⟨b,by omega⟩
 simp_all
theorem Fx(n:Nat)(bg:List ba)(x:ba):(eh n bg x 32).length<=95:=by
 grind [eh]
theorem io{α:Type}[DecidableEq α]:∀{l m:List α},l.Nodup->(∀x,x∈l->x∈m)->l.length<=m.length
 |[],m,_,_=>ai9 _
 |x::l,m,hn,hs=>by
  have hn':=aa9.1 hn;have:=io (l:=l) (m:=m.erase x) hn'.2 fun y hy=>(List.mem_erase_of_ne (show y≠x from fun e=>hn'.1 (e ▸ hy))).2 (hs y (by simp[hy]))
  grind
structure Qu(a1:ba)(a2 a3:List ba)(l:List ba)(n:Nat):Prop where
 nd:l.Nodup
 hd:l[0]? = some a1
 ok:∀q,q∈l->a1 <+: q/\pS q/\zl a1.length a2 q=false
 par:∀j q,l[j]? = some q->0<j->q∈a3/\∃i p c,i<n/\l[i]? = some p/\q=p++[c]
 cl:∀j q,j<n->l[j]? = some q->q∈a3/\(q.length<1000->∀y,y∈eh a1.length a2 q 32->y∈l)
theorem Qu.len{a1:ba}{a2 a3 l:List ba}{n:Nat}(h:Qu a1 a2 a3 l n):l.length<=a3.length+1:=by
 match l,h.hd,h with
 |x::r,_,h=>
  have:=io (aa9.1 h.nd).2 fun y hy=>by
   obtain⟨j,hj⟩:=bb9 hy;exact(h.par (j+1) y (by grind) (by omega)).1
  grind
theorem wO{l:List ba}{x:ba}:(l.any fun w=>x==w)=true<->x∈l:=by
 grind
theorem nS(F:Nat)(a1:ba)(a2 a3:List ba)(k4:Option (ba×Bool))(hF:200<=F)(ha:a3.length<=1000000):∀(fuel n:Nat) (l:List ba),Qu a1 a2 a3 l n->n<=l.length->a3.length+2<=n+fuel->
  (∃t,hO F a1 a2 a3 k4 fuel (n:Int) l=some (t,true)/\dR a3 a2 a1 t)\/(hO F a1 a2 a3 k4 fuel (n:Int) l=k4/\∃l',Qu a1 a2 a3 l' l'.length)
 |0,n,l,h,hn,hf=>by have:=h.len;omega
 |fuel+1,n,l,h,hn,hf=>by
  have hll:=h.len;rw[hO];by_cases hnl:n<l.length
  ·rw[if_pos (decide_eq_true (by omega)),aF,bF hnl,bw9,tc,bw9];have hx:l[n]? = some l[n]:=ax8 hnl;obtain⟨x,hxe⟩:∃x,x=l[n]:=⟨_,rfl⟩;rw[<-hxe] at hx ⊢;have hxm:=aw8 hx;obtain⟨o1,o2,o3⟩:=h.ok x hxm;cases hm:a3.any fun w=>x==w with
   |false=>
    simp only[bu9,if_true];refine .inl ⟨x,Y,o1,o2,fun hx3=>?_,fC.1 o3⟩
    grind
   |true=>
    have hx3:=wO.1 hm;simp only[bs9,ch8,if_false];have hw:bh ((n:Int)+1)=((n+1:Nat):Int):=by rw[cm (by omega) (by omega)];rfl
    by_cases h1000:x.length=1000
    ·rw[if_pos (by grind)];rw[hw];refine nS F a1 a2 a3 k4 hF ha fuel (n+1) l ⟨h.nd,h.hd,h.ok,fun j q hj h0=>?_,fun j q hj hq=>?_⟩ hnl (by omega)
     ·obtain⟨g1,i,p,c,g2,g3⟩:=h.par j q hj h0<;>grind
     ·by_cases e:j=n
      ·grind
      ·exact h.cl j q (by omega) hq
    ·rw[if_neg (by simp;omega),aF];have hxl:x.length<=1000:=o2.1;have hin:=tf F a1 a2 a3 x (fun l19=>(fun l11=>hO F a1 a2 a3 k4 fuel (bh ((n:Int)+1)) l11) l19) hxl 95 32 rfl (by omega) F (by omega) l (by omega);rw[show((32:Nat):Int)=32 from rfl] at hin;rw[hin]
     have hok:∀y,y∈eh a1.length a2 x 32->a1 <+: y/\pS y/\zl a1.length a2 y=false:=by
      intro y hy;obtain⟨⟨c,c1,c2,rfl⟩,hb⟩:=gD.1 hy;refine⟨o1.trans (List.prefix_append _ _),⟨by simp;omega,fun d hd=>?_⟩,hb⟩;rcases bx9.1 hd with hd|hd
      ·exact o2.2 d hd
      ·grind
     cases hfd:(eh a1.length a2 x 32).find? (fun y=>!(a3.any fun w=>y==w)) with
     |some y=>
      have hy:=List.mem_of_find?_eq_some hfd;have hp:=List.find?_some hfd;obtain⟨p1,p2,p3⟩:=hok y hy;refine .inl ⟨y,Y,p1,p2,fun h3=>?_,fC.1 p3⟩
      grind
     |none=>
      dsimp only;rw[hw]
      have hall:∀y,y∈eh a1.length a2 x 32->y∈a3:=fun y hy=>by
       grind
      refine nS F a1 a2 a3 k4 hF ha fuel (n+1) (l++eh a1.length a2 x 32) ⟨?_,?_,fun q hq=>?_,fun j q hj h0=>?_,fun j q hj hq=>?_⟩ (by simp;omega) (by omega)
      ·rw[bx8];refine⟨h.nd,rZ _ _ _,fun a hal b hbk e=>?_⟩;subst e;obtain⟨⟨c,c1,c2,rfl⟩,hb⟩:=gD.1 hbk;obtain⟨j,hj⟩:=bb9 hal;by_cases h0:j=0
       ·subst h0;rw[h.hd] at hj
        grind
       ·obtain⟨_,i,p,d,g2,g3,g4⟩:=h.par j _ hj (by omega);have e2:=List.append_inj' g4 rfl;rw[<-e2.1] at g3;have hi:i<l.length:=(bb8.1 g3).1;have:=(bm8 hi h.nd).1 (g3.trans hx.symm);omega
      ·rw[as9 (by grind)];exact h.hd
      ·rcases bx9.1 hq with hq|hq
       ·exact h.ok q hq
       grind
      ·by_cases hjl:j<l.length
       ·rw[as9 hjl] at hj;obtain⟨g1,i,p,c,g2,g3,g4⟩:=h.par j q hj h0;exact⟨g1,i,p,c,by omega,by grind,g4⟩
       ·rw[as8 (by omega)] at hj;have hq:=aw8 hj;obtain⟨⟨c,c1,c2,rfl⟩,hb⟩:=gD.1 hq;exact⟨hall _ hq,n,x,c,by omega,by grind,rfl⟩
      ·by_cases e:j=n
       ·grind
       ·rw[as9 (by omega)] at hq;obtain⟨g1,g2⟩:=h.cl j q (by omega) hq<;>simp_all
  grind
theorem Qu.none{a1:ba}{a2 a3 l:List ba}(h:Qu a1 a2 a3 l l.length)(t:ba):¬dR a3 a2 a1 t:=by
 intro hf
 have key:∀k,a1.length+k<=t.length->t.take (a1.length+k)∈l:=by
  intro k
  induction k with
  |zero=>
   intro _;rw[bd9,<-List.prefix_iff_eq_take.1 hf.pre];exact aw8 h.hd
  |succ k ih=>
   intro hk;have hp:=ih (by omega);obtain⟨j,hj⟩:=bb9 hp;have hlt:a1.length+k<t.length:=by omega
   obtain⟨_,g⟩:=h.cl j _ (bb8.1 hj).1 hj;have hlen:(t.take (a1.length+k)).length<1000:=by have:=hf.ok.1;simp;omega
   refine g hlen _ (gD.2 ⟨⟨t[a1.length+k],?_,?_,?_⟩,fC.2 fun b hb hl hp=>?_⟩)
   ·exact(hf.ok.2 _ (ba8 hlt)).1
   ·exact(hf.ok.2 _ (ba8 hlt)).2
   ·grind [List.take_succ_eq_append_getElem]
   ·exact hf.no b hb hl (hp.trans (List.take_prefix _ _))
 have hle:=hf.pre.length_le;have:=key (t.length - a1.length) (by omega);rw[show a1.length+(t.length - a1.length)=t.length by omega,List.take_length] at this;obtain⟨j,hj⟩:=bb9 this;exact hf.not (h.cl j t (bb8.1 hj).1 hj).1
theorem IR(F:Nat)(a1:ba)(a2 a3:List ba)(hF:a3.length+200<=F)(ha:a3.length<=1000000)(h1:pS a1):
  (∃t,GW F a1 a2 a3=some (t,true)/\dR a3 a2 a1 t)\/(GW F a1 a2 a3=some ([],false)/\∀t,¬dR a3 a2 a1 t):=by
 have hq:Qu a1 a2 a3 [a1] 0:=by
  refine⟨by simp,rfl,fun q hq=>?_,fun j q hj h0=>?_,fun j q hj _=>by omega⟩
  ·simp only[bj8] at hq;subst hq;exact⟨List.prefix_refl _,h1,fC.2 fun b _ hl hp=>by grind⟩
  ·grind
 rcases nS F a1 a2 a3 (some (([]:B8),false)) (by omega) ha F 0 [a1] hq (by simp) (by omega) with ⟨t,e,h⟩|⟨e,l',h⟩
 ·exact .inl ⟨t,e,h⟩
 ·exact .inr ⟨e,fun t=>h.none t⟩
theorem L0(F:Nat)(l:List ba)(h:l.length<=10000000):NT F l=some l:=by
 unfold NT;refine Cq ?_ fun h0=>?_
 ·grind
 grind
theorem nX(F:Nat)(s:ae)(hF:s.is.length+200<=F)(ha:s.is.length<=1000000)(k:List ba->Option (List ba)):∀(l l15:List ba),(∀p,p∈l->pS p)->l15.length+l.length<=10000000->
  ∃fs,ic F s k l l15=k (l15++fs)/\fs.length<=l.length/\(∀p,p∈l->(∃t,dR s.is s.begins p t/\t∈fs)\/∀t,¬dR s.is s.begins p t)/\∀x,x∈fs->∃p,dR s.is s.begins p x
 |[],l15,_,_=>⟨[],by rw[ic];simp,ae9 _,by simp,by simp⟩
 |p::l,l15,h,hl=>by
  simp only[bu8] at hl;rw[ic];rcases IR F p s.begins s.is hF ha (h p (by simp)) with ⟨t,e,hf⟩|⟨e,hf⟩
  ·obtain⟨fs,g1,g2,g3,g4⟩:=nX F s hF ha k l (l15++[t]) (fun q hq=>h q (by simp[hq])) (by simp;omega);refine⟨t::fs,?_,by simp;omega,fun q hq=>?_,fun x hx=>?_⟩
   ·rw[e,bw9,aF]
    grind
   ·grind
   grind
  ·obtain⟨fs,g1,g2,g3,g4⟩:=nX F s hF ha k l l15 (fun q hq=>h q (by simp[hq])) (by omega);refine⟨fs,?_,by simp;omega,fun q hq=>?_,g4⟩
   ·simp_all[aF]
   grind
structure GD(is bg out:List ba):Prop where
 hi:∀e,e∈is->e∈out
 hb:∀p,(p∈bg\/p=[])->(∃t,dR is bg p t/\t∈out)\/∀t,¬dR is bg p t
 ok:∀x,x∈out->x∈is\/pS x
theorem Jb(F:Nat)(s:ae)(hF:s.is.length+200<=F)(ha:s.is.length<=1000000)(hb:s.begins.length<=1000000)(h:∀b,b∈s.begins->pS b):
  ∃out,qD F s=some out/\out.length<=s.is.length+s.begins.length+1/\GD s.is s.begins out:=by
 have h0:pS []:=⟨by simp,by simp⟩
 have main:∀l:List ba,(∀p,p∈l<->p∈s.begins\/p=[])->l.length<=s.begins.length+1->
   ∃out,(ic F s (fun l11=>(De F l11).bind fun y26=>if y26.length=l11.length then (Da F y26).bind fun y29=>some y29 else none) l s.is)=some out/\out.length<=s.is.length+s.begins.length+1/\GD s.is s.begins out:=by
  intro l hm hll;obtain⟨fs,g1,g2,g3,g4⟩:=nX F s hF ha (fun l11=>(De F l11).bind fun y26=>if y26.length=l11.length then (Da F y26).bind fun y29=>some y29 else none) l s.is (fun p hp=>((hm p).1 hp).elim (h p) (fun e=>e ▸ h0)) (by omega);have hs:(dT (s.is++fs)).length=(s.is++fs).length:=(cZ _).length_eq;have hc:=wr (dT (s.is++fs));have hmem:∀x,x∈BI (dT (s.is++fs))<->x∈s.is\/x∈fs:=fun x=>by grind [Ic,cZ]
  rw[bf9] at hs;refine⟨BI (dT (s.is++fs)),?_,by omega,fun e he=>(hmem e).2 (.inl he),fun p hp=>?_,fun x hx=>?_⟩
  ·rw[g1];unfold De Da
   grind
  ·grind
  ·rcases(hmem x).1 hx with hx|hx
   ·grind
   ·obtain⟨p,hp⟩:=g4 x hx;exact .inr hp.ok
 unfold qD;rw[L0 F _ (by omega),bw9,tc,bw9,aF];cases hm:s.begins.any fun w=>([]:B8)==w with
 |false=>
  simp only[bu9,if_true];rw[if_pos (by simp;omega),aF]
  simp_all[Or.comm]
 |true=>
  simp_all[aF]
def Cx(s:ae)(l:Lf):Prop:=
 (l.k=2/\(∀e,e∈l.tx->e∈s.is)/\s.asText=true)\/(l.k=3/\(∀e,e∈l.tx->e∈s.begins)/\s.asText=true)\/(l.k=4/\s.has=true)\/(l.k=5/\l.n∈s.numbers/\s.asNo=true)
structure uY(s:ae)(u v:Fd):Prop where
 tx:s.asText=true->u.isText=v.isText/\(u.isText=true->yM s.is s.begins u.text v.text)
 nx:s.asNo=true->u.isNumber=v.isNumber/\(u.isNumber=true->sX s.numbers u.number v.number)
 hx:s.has=true->(u.isText||u.isNumber)=(v.isText||v.isNumber)
theorem BN{a b:Bool}(h:a=true<->b=true):a=b:=by
 grind
theorem CU{ns:List Int}{x y n op:Int}(h:sX ns x y)(hn:n∈ns):yx x op n=yx y op n:=by
 have h1:=h.lt n hn;have h2:=h.eq n hn;unfold yx;split
 ·grind
 ·split
  ·grind
  ·split
   ·grind
   ·split<;>grind
theorem xM{s:ae}{u v:Fd}{l:Lf}(hl:Cx s l)(h:uY s u v):l.one u=l.one v:=by
 unfold Lf.one gU;rcases hl with ⟨hk,h1,h2⟩|⟨hk,h1,h2⟩|⟨hk,h2⟩|⟨hk,h1,h2⟩
 ·obtain⟨a,b⟩:=h.tx h2;rw[hk];simp only[show ¬(2:Int)=4 by decide,show ¬(2:Int)=5 by decide,if_false];rw[<-a];cases hu:u.isText with
  |false=>rfl
  |true=>
   have hs:=b hu
   show DE 2 u.text l.tx=DE 2 v.text l.tx
   rw[Hp,Hp];refine BN ?_;rw[wO,wO];constructor
   ·intro hm;rwa [<-(hs.eq _ (h1 _ hm)).1 rfl] at hm
   ·intro hm;rwa [<-(hs.eq _ (h1 _ hm)).2 rfl] at hm
 ·obtain⟨a,b⟩:=h.tx h2;rw[hk];simp only[show ¬(3:Int)=4 by decide,show ¬(3:Int)=5 by decide,if_false];rw[<-a];cases hu:u.isText with
  |false=>rfl
  |true=>
   have hs:=b hu
   show DE 3 u.text l.tx=DE 3 v.text l.tx
   rw[Ho,Ho];refine BN ?_;rw[cd9,cd9];constructor
   ·rintro⟨w,hw,hp⟩;exact⟨w,hw,mL.2 ((hs.pre w (h1 w hw)).1 (mL.1 hp))⟩
   ·rintro⟨w,hw,hp⟩;exact⟨w,hw,mL.2 ((hs.pre w (h1 w hw)).2 (mL.1 hp))⟩
 ·rw[hk];simp only[if_pos];exact h.hx h2
 ·obtain⟨a,b⟩:=h.nx h2;rw[hk];simp only[show ¬(5:Int)=4 by decide,if_false,if_true];rw[<-a];cases hu:u.isNumber with
  |false=>rfl
  |true=>exact congrArg (true&&·) (CU (b hu) h1)
def zh(v:Fd):Prop:=(v.isText=true->pS v.text)/\(v.isNumber=true->jH v.number)
theorem CV{s:ae}{nums:List Int}{txs:List ba}(hn:∀x,x∈nums<->x=0\/∃n,n∈s.numbers/\x∈qk n)(hns:∀n,n∈s.numbers->jH n)(ht:GD s.is s.begins txs)(hi:s.asText=false->s.is=[]/\s.begins=[])(v:Fd)(hv:zh v):
  ∃c,c∈eM s nums txs/\uY s (t8 c) v:=by
 -- a number that stands for the value's
 have hnum:∃y,y∈nums/\(v.isNumber=true->sX s.numbers y v.number):=by
  cases hvn:v.isNumber with
  |false=>simp_all
  |true=>
   have near_mem:∀n x,jH x->(x=n - 1\/x=n\/x=n+1)->x∈qk n:=fun n x hx h=>by
    simp_all[qk]
   obtain⟨y,h1,h2⟩:=Bf (ns:=s.numbers) (out:=nums) ⟨0,(hn 0).2 (.inl rfl)⟩ (fun n h=>(hn n).2 (.inr ⟨n,h,near_mem n n (hns n h) (.inr (.inl rfl))⟩)) (fun n h h2=>(hn _).2 (.inr ⟨n,h,near_mem n _ h2 (.inl rfl)⟩))
    (fun m h _ h2=>(hn _).2 (.inr ⟨m,h,near_mem m _ h2 (.inr (.inr rfl))⟩)) hns v.number (hv.2 hvn)
   grind
 obtain⟨y,hy,hyS⟩:=hnum;have htx:v.isText=true->∃t,t∈txs/\yM s.is s.begins t v.text:=fun h=>xH ht.hi ht.hb v.text (hv.1 h)
 -- the number's part
 have hnv:∃z,z∈m4 s nums/\z.hasText=false/\(s.asNo=true->z.hasNumber=v.isNumber/\(z.hasNumber=true->sX s.numbers z.number v.number))/\(s.has=true->z.hasNumber=v.isNumber):=by
  unfold m4;by_cases ha:(s.asNo||s.has)=true
  ·rw[if_pos ha];cases hvn:v.isNumber with
   |false=>simp_all[zV]
   |true=>grind [nv,List.mem_map_of_mem]
  ·simp_all[zV]
 obtain⟨z,hz,hz0,hz1,hz2⟩:=hnv;by_cases hvt:v.isText=true/\(s.asText||s.has)=true
 ·obtain⟨t,ht1,ht2⟩:=htx hvt.1;refine⟨Hq t z,?_,?_⟩
  ·unfold eM
   grind
  ·exact⟨fun _=>⟨hvt.1.symm,fun _=>ht2⟩,fun h=>⟨(hz1 h).1,fun h2=>(hz1 h).2 h2⟩,fun h=>by simp_all[t8,Hq]⟩
 ·refine⟨z,by simp_all[eM],?_⟩;refine⟨fun h=>?_,fun h=>⟨(hz1 h).1,fun h2=>(hz1 h).2 h2⟩,fun h=>?_⟩
  ·simp_all[t8]
  ·have:v.isText=false:=by
    cases hvt2:v.isText with
    |false=>rfl
    |true=>grind
   rw[this]
   show(z.hasText||z.hasNumber)=_
   grind
theorem Gf{s:ae}{nums:List Int}{txs:List ba}(hn:∀x,x∈nums->jH x)(ht:∀x,x∈txs->pS x){c:aa}(hc:c∈eM s nums txs):zh (t8 c):=by
 have hnums:∀z,z∈m4 s nums->z.hasText=false/\(z.hasNumber=true->jH z.number):=by
  intro z hz;unfold m4 at hz;rcases aq8.1 hz with e|hz
  ·simp_all[zV]
  ·split at hz
   ·obtain⟨n,hn2,rfl⟩:=bc9.1 hz;exact⟨Y,fun _=>hn n hn2⟩
   grind
 unfold eM at hc;rcases bx9.1 hc with hc|hc
 ·obtain⟨h1,h2⟩:=hnums c hc;exact⟨fun h=>absurd (h1.symm.trans h) (by simp),h2⟩
 ·split at hc
  ·obtain⟨t,ht2,hc⟩:=ac8.1 hc;obtain⟨z,hz,rfl⟩:=bc9.1 hc;exact⟨fun _=>ht t ht2,fun h=>(hnums z hz).2 h⟩
  grind
set_option maxRecDepth 100000
structure iX(l:Lf):Prop where
 k:2<=l.k/\l.k<=5
 nm:cV l.nm=true
 len:l.tx.length<=50
 tx:∀s,s∈l.tx->pS s
 n:l.k=5->jH l.n
 op:l.k=5->1<=l.op/\l.op<=5
 tx45:l.k=4\/l.k=5->l.tx=[]
theorem A2{s:ba}(h:jZ s=true):pS s:=by
 unfold jZ at h;rw[ap9,decide_eq_true_eq,ap8] at h;refine⟨h.1,fun c hc=>?_⟩
 simp_all[B9]
theorem DF(a:List ba):∀(l:List ba) (n:Nat),zf a l n=0->∀s,s∈l->jZ s=true
 |[],n,_,s,hs=>by simp at hs
 |x::l,n,h,s,hs=>by
  rw[zf] at h;cases hv:jZ x with
  |false=>grind
  |true=>
   rw[hv] at h;simp only[bs9,ch8,if_false] at h;split at h
   ·cases h
   ·rcases aq8.1 hs with e|hs
    ·rw[e];exact hv
    ·exact DF a l (n+1) h s hs
theorem Ka{a:List ba}(h:G9 a=0):a.length<=50/\∀s,s∈a->pS s:=by
 grind [G9,A2,DF]
theorem ux{k op n:Int}{nm:ba}{tx:List ba}{ks:List aM}(h:cc ⟨k,nm,tx,op,n,ks⟩=0)(hk:2<=k/\k<=5):iX ⟨k,nm,tx,op,n⟩/\ks=[]:=by
 unfold cc at h;dsimp only at h;rw[if_neg (by omega),if_neg (show ¬k=6 by omega),if_neg (show ¬7<=k by omega)] at h;split at h
 ·cases h
 ·rename_i h1;rw[aq9,aq9,aq9,not_or,not_or,not_or] at h1;obtain⟨⟨⟨_,h2⟩,h3⟩,h4⟩:=h1;split at h
  ·cases h
  ·rename_i h5
   have hnm:cV nm=true:=by
    cases hb:cV nm with
    |true=>rfl
    |false=>grind
   have hks:ks=[]:=by
    have:(ks.length==0)=true:=by simpa using h4
    exact ax9.1 (by grind)
   have htx:¬(k=2\/k=3)->tx=[]:=by
    intro hn;have e1:(k==2)=false:=beq_false_of_ne (by omega);have e2:(k==3)=false:=beq_false_of_ne (by omega);rw[e1,e2] at h2;simp only[Bool.or_self,bu9,ag8,decide_eq_true_eq] at h2;exact ax9.1 (by omega)
   split at h
   ·rename_i h6;obtain⟨g1,g2⟩:=Ka h;exact⟨⟨hk,hnm,g1,g2,fun h=>by grind,fun h=>by grind,fun h=>by grind⟩,hks⟩
   ·rename_i h6;have:=htx h6;subst this;split at h
    ·rename_i h7;split at h
     ·cases h
     ·rename_i h8;split at h
      ·cases h
      ·rename_i h9;unfold pf at h9;rw[aq9,decide_eq_true_eq,decide_eq_true_eq] at h9;exact⟨⟨hk,hnm,by simp,by simp,fun _=>⟨by grind,by grind⟩,fun _=>⟨by grind,by grind⟩,fun _=>rfl⟩,hks⟩
    ·rename_i h7;exact⟨⟨hk,hnm,by simp,by simp,fun h=>absurd h h7,fun h=>absurd h h7,fun _=>rfl⟩,hks⟩
theorem zR:∀t:Tr,t.flt=0->∀l,l∈t.lvs->iX l:=Tr.ind fun k nm tx op n ks ih hz l hl=>by
 obtain⟨hnode,hfl⟩:=iI hz;have hkk:=ip hnode;dsimp only at hkk;rw[Tr.lvs] at hl;split at hl
 ·simp at hl
 ·split at hl
  ·obtain⟨t,ht,h⟩:=iz.1 hl<;>grind [eU]
  grind [ux]
theorem Bu:∀t:Tr,t.lvs.length<=t.cnt:=Tr.ind fun k nm tx op n ks ih=>by
 rw[Tr.lvs,Tr.cnt]
 have:∀l:List Tr,(∀t,t∈l->t∈ks)->(Tr.lvss l).length<=Tr.cnts l:=by
  intro l
  induction l with
  |nil=>simp_all[Tr.lvss]
  |cons t r ihr=>
   grind [Tr.lvss,Tr.cnts]
 grind
theorem pU{τ:Type}{T:Nat}{enc:τ->List V}{y:τ}:(uA T enc y).t=T:=rfl
def zw:ae:=⟨[],[],[],false,false,false,2⟩
def ek(all:tB)(n:ba):ae:=match aH all n with
 |some (some s)=>s
 |_=>zw
def rq(l:Lf)(s:ae):ae:=
 if l.k=2 then ⟨s.is++l.tx,s.begins,s.numbers,true,s.asNo,s.has,bh (s.weight+((l.tx.length:Nat):Int))⟩
 else if l.k=3 then ⟨s.is,s.begins++l.tx,s.numbers,true,s.asNo,s.has,bh (s.weight+bh (2*((l.tx.length:Nat):Int)))⟩
 else if l.k=4 then ⟨s.is,s.begins,s.numbers,s.asText,s.asNo,true,s.weight⟩
 else ⟨s.is,s.begins,s.numbers++[l.n],s.asText,true,s.has,bh (s.weight+2)⟩
def jU(all:tB)(l:Lf):tB:=bI all l.nm (some (rq l (ek all l.nm)))
theorem Cs{κ τ:Type}[DecidableEq κ](m:List (κ×τ))(k:κ)(v w:τ):bI (bI m k v) k w=bI m k w:=by
 induction m with
 |nil=>simp[bI]
 |cons p r ih=>
  rw[bI];by_cases e:p.1=k
  ·simp_all[bI]
  simp_all[bI]
structure Bd(all:tB)(B:Nat):Prop where
 so:∀n,aH all n≠some none
 li:∀n,(ek all n).is.length<=B/\(ek all n).begins.length<=B/\(ek all n).numbers.length<=B
theorem ll(all:tB)(l:Lf)(n:ba):ek (jU all l) n=if l.nm=n then rq l (ek all l.nm) else ek all n:=by
 unfold jU;by_cases e:l.nm=n
 ·rw[if_pos e]
  show(match aH (bI all l.nm _) n with|some (some s)=>s|_=>zw)=_
  rw[cL,if_pos e]
 ·rw[if_neg e]
  show(match aH (bI all l.nm _) n with|some (some s)=>s|_=>zw)=_
  rw[cL,if_neg e];rfl
theorem Bd.add{all:tB}{B:Nat}(h:Bd all B){l:Lf}(hl:l.tx.length<=50):Bd (jU all l) (B+50):=by
 refine⟨fun n=>?_,fun n=>?_⟩
 ·unfold jU;rw[cL];split
  ·simp
  ·exact h.so n
 ·rw[ll];have h1:=h.li n
  grind [rq]
theorem wX(F:Nat)(all:tB)(n:ba)(h:aH all n≠some none):∃xs,GI F n all=some (xs,ek all n)/\∀v,bI xs n v=bI all n v:=by
 unfold GI ek;cases hm:aH all n with
 |none=>exact⟨_,rfl,fun v=>Cs _ _ _ _⟩
 |some q=>
  cases q<;>simp_all
theorem BA:∀(ls:List Lf) (all:tB) (B:Nat),Bd all B->(∀l,l∈ls->iX l)->Bd (ls.foldl jU all) (B+50*ls.length)
 |[],all,B,h,_=>by grind
 |l::r,all,B,h,hl=>by
  have:=BA r (jU all l) (B+50) (h.add (hl l (by simp)).len) fun m hm=>hl m (by simp[hm]);rw[bt9];refine⟨this.so,fun n=>?_⟩;have h1:=this.li n;simp only[bu8];omega
theorem LY:∀t:Tr,t.ok->t.flt=0->∀F,t.fu<=F->∀(all:tB) (B:Nat),Bd all B->B+50*t.lvs.length<=1000000->GP F t.cd all=some (t.lvs.foldl jU all):=Tr.ind fun k nm tx op n ks ih ok hz F hF all B hB hb=>by
 rw[Tr.fu] at hF;have hlo:=zR _ hz;obtain⟨hnode,hfl⟩:=iI hz;obtain⟨F,rfl⟩:∃G,F=G+1:=⟨F - 1,by omega⟩
 show kU (GP F) F (Tr.mk k nm tx op n ks).cd all=_
 have hkk:=ip hnode;dsimp only at hkk;have hk':k=1\/k=2\/k=3\/k=4\/k=5\/k=6\/k=7\/k=8:=by omega
 rw[Tr.lvs] at hb hlo ⊢;rw[Tr.cd]
 have hl1:∀(l:List Tr) (all:tB) (B:Nat),Bd all B->(∀t,t∈l->t∈ks)->B+50*(Tr.lvss l).length<=1000000->gN (GP F) F (fun m=>some m) (Tr.cds l) all=some ((Tr.lvss l).foldl jU all):=by
  intro l
  induction l with
  |nil=>intro all B _ _ _;rw[Tr.cds,Tr.lvss];rfl
  |cons t r ihr=>
   intro all B hB hm hb;rw[Tr.lvss,bf9] at hb;have ht:=hm t (by simp);rw[Tr.cds,gN,ih t ht (Tr.oks_mem (Tr.okks ok).1 ht) (eU hfl ht) F (by have:=Tr.fu_mem ht;omega) all B hB (by omega),bw9,Tr.lvss,List.foldl_append];exact ihr _ _ (BA t.lvs all B hB fun l hl=>zR t (eU hfl ht) l hl) (fun u hu=>hm u (by simp[hu])) (by omega)
 have hl2:∀(l:List Tr) (all:tB) (B:Nat),Bd all B->(∀t,t∈l->t∈ks)->B+50*(Tr.lvss l).length<=1000000->gN (GP F) F (fun m=>some m) (Tr.cds l) all=some ((Tr.lvss l).foldl jU all):=by
  intro l
  induction l with
  |nil=>grind
  |cons t r ihr=>
   grind
 rcases hk' with e|e|e|e|e|e|e|e
 ·simp_all[kU,pU]
 ·subst e;simp only[show ¬(2:Int)=1 by decide,show ¬(2:Int)=3 by decide,show ¬(2:Int)=4 by decide,show ¬(2:Int)=5 by decide,show ¬(2:Int)=6 by decide,show ¬(2:Int)=7 by decide,show ¬(2:Int)=8 by decide,show ¬((2:Int)=6\/(2:Int)=7\/(2:Int)=8) by decide,if_false,if_true,List.length_singleton] at hb hlo ⊢;unfold kU;simp only[pU];refine(if_pos (show Nat.beq 147 147=true from Y)).trans ?_;obtain⟨xs,e1,e2⟩:=wX F all nm (hB.so nm);have h1:=hB.li nm;have h2:=(hlo ⟨2,nm,tx,op,n⟩ (by simp)).len;simp only at h2;rw[cI zY,bw9,e1,bw9,if_pos (by grind)];dsimp only;rw[e2];rfl
 ·subst e;simp only[show ¬(3:Int)=1 by decide,show ¬(3:Int)=2 by decide,show ¬(3:Int)=4 by decide,show ¬(3:Int)=5 by decide,show ¬(3:Int)=6 by decide,show ¬(3:Int)=7 by decide,show ¬(3:Int)=8 by decide,show ¬((3:Int)=6\/(3:Int)=7\/(3:Int)=8) by decide,if_false,if_true,List.length_singleton] at hb hlo ⊢;unfold kU;simp only[pU];refine(if_neg (show ¬Nat.beq 148 147=true by decide)).trans ?_;refine(if_pos (show Nat.beq 148 148=true from Y)).trans ?_;obtain⟨xs,e1,e2⟩:=wX F all nm (hB.so nm);have h1:=hB.li nm;have h2:=(hlo ⟨3,nm,tx,op,n⟩ (by simp)).len;simp only at h2;rw[cI nz,bw9,e1,bw9,if_pos (by grind)];dsimp only;rw[e2];rfl
 ·subst e;simp only[show ¬(4:Int)=1 by decide,show ¬(4:Int)=2 by decide,show ¬(4:Int)=3 by decide,show ¬(4:Int)=5 by decide,show ¬(4:Int)=6 by decide,show ¬(4:Int)=7 by decide,show ¬(4:Int)=8 by decide,show ¬((4:Int)=6\/(4:Int)=7\/(4:Int)=8) by decide,if_false,if_true,List.length_singleton] at hb hlo ⊢;unfold kU;simp only[pU];refine(if_neg (show ¬Nat.beq 150 147=true by decide)).trans ?_;refine(if_neg (show ¬Nat.beq 150 148=true by decide)).trans ?_;refine(if_pos (show Nat.beq 150 150=true from Y)).trans ?_;obtain⟨xs,e1,e2⟩:=wX F all nm (hB.so nm);rw[cI v7,bw9,e1,bw9];dsimp only;rw[e2];rfl
 ·subst e;simp only[show ¬(5:Int)=1 by decide,show ¬(5:Int)=2 by decide,show ¬(5:Int)=3 by decide,show ¬(5:Int)=4 by decide,show ¬(5:Int)=6 by decide,show ¬(5:Int)=7 by decide,show ¬(5:Int)=8 by decide,show ¬((5:Int)=6\/(5:Int)=7\/(5:Int)=8) by decide,if_false,if_true,List.length_singleton] at hb hlo ⊢;unfold kU;simp only[pU];refine(if_neg (show ¬Nat.beq 152 147=true by decide)).trans ?_;refine(if_neg (show ¬Nat.beq 152 148=true by decide)).trans ?_;refine(if_neg (show ¬Nat.beq 152 150=true by decide)).trans ?_;refine(if_pos (show Nat.beq 152 152=true from Y)).trans ?_;obtain⟨xs,e1,e2⟩:=wX F all nm (hB.so nm);have h1:=hB.li nm;have h2:=(hlo ⟨5,nm,tx,op,n⟩ (by simp)).len;simp only at h2;rw[cI ny,bw9,e1,bw9,if_pos (by grind)];dsimp only;rw[e2];rfl
 ·subst e;simp only[show ¬(6:Int)=1 by decide,show ¬(6:Int)=2 by decide,show ¬(6:Int)=3 by decide,show ¬(6:Int)=4 by decide,show ¬(6:Int)=5 by decide,show ¬(6:Int)=7 by decide,show ¬(6:Int)=8 by decide,if_false,if_true,or_true,true_or,or_false,false_or] at hb hlo ⊢;unfold kU;simp only[pU];refine(if_neg (show ¬Nat.beq 154 147=true by decide)).trans ?_;refine(if_neg (show ¬Nat.beq 154 148=true by decide)).trans ?_;refine(if_neg (show ¬Nat.beq 154 150=true by decide)).trans ?_;refine(if_neg (show ¬Nat.beq 154 152=true by decide)).trans ?_;refine(if_pos (show Nat.beq 154 154=true from Y)).trans ?_;have h1:ks.length=1:=by rw[<-jJ hnode rfl];exact(Tr.toKs_len ks).symm
  match ks,h1,ih,ok,hb,hfl,hF with
  |[t],_,ih,ok,hb,hfl,hF=>
   rw[cI v6,bw9];simp only[Tr.lvss,List.append_nil] at hb ⊢
   show(GP F ((Tr.cds [t]).headD _) all).bind _=_
   rw[Tr.cds,List.headD_cons,ih t (by simp) (Tr.oks_mem (Tr.okks ok).1 (by simp)) (eU hfl (by simp)) F (by have:=Tr.fu_mem (ks:=[t]) (t:=t) (by simp);omega) all B hB hb,bw9]
 ·subst e;simp only[show ¬(7:Int)=1 by decide,show ¬(7:Int)=2 by decide,show ¬(7:Int)=3 by decide,show ¬(7:Int)=4 by decide,show ¬(7:Int)=5 by decide,show ¬(7:Int)=6 by decide,show ¬(7:Int)=8 by decide,if_false,if_true,or_true,true_or,or_false,false_or] at hb hlo ⊢;unfold kU;simp only[pU];refine(if_neg (show ¬Nat.beq 156 147=true by decide)).trans ?_;refine(if_neg (show ¬Nat.beq 156 148=true by decide)).trans ?_;refine(if_neg (show ¬Nat.beq 156 150=true by decide)).trans ?_;refine(if_neg (show ¬Nat.beq 156 152=true by decide)).trans ?_;refine(if_neg (show ¬Nat.beq 156 154=true by decide)).trans ?_;refine(if_pos (show Nat.beq 156 156=true from Y)).trans ?_
  grind [cI,wc,aF]
 ·subst e;simp only[show ¬(8:Int)=1 by decide,show ¬(8:Int)=2 by decide,show ¬(8:Int)=3 by decide,show ¬(8:Int)=4 by decide,show ¬(8:Int)=5 by decide,show ¬(8:Int)=6 by decide,show ¬(8:Int)=7 by decide,if_false,if_true,or_true,true_or,or_false,false_or] at hb hlo ⊢;unfold kU;simp only[pU];refine(if_neg (show ¬Nat.beq 157 147=true by decide)).trans ?_;refine(if_neg (show ¬Nat.beq 157 148=true by decide)).trans ?_;refine(if_neg (show ¬Nat.beq 157 150=true by decide)).trans ?_;refine(if_neg (show ¬Nat.beq 157 152=true by decide)).trans ?_;refine(if_neg (show ¬Nat.beq 157 154=true by decide)).trans ?_;refine(if_neg (show ¬Nat.beq 157 156=true by decide)).trans ?_;refine(if_pos (show Nat.beq 157 157=true from Y)).trans ?_
  grind [cI,v8,aF]
def lw(l:Lf):Nat:=if l.k=2 then l.tx.length else if l.k=3 then 2*l.tx.length else if l.k=4 then 0 else 2
def G7(ls:List Lf)(n:ba):Nat:=(ls.map fun l=>if l.nm=n then lw l else 0).sum
theorem Hg(d:List Lf)(l:Lf)(n:ba):G7 (d++[l]) n=G7 d n+(if l.nm=n then lw l else 0):=by
 unfold G7;simp
theorem Jx{l:Lf}(h:iX l):lw l<=100:=by
 have:=h.len
 grind [lw]
theorem Do{ls:List Lf}(h:∀l,l∈ls->iX l)(n:ba):G7 ls n<=100*ls.length:=by
 unfold G7
 induction ls<;>grind [Jx]
structure NG(s:ae)(w:Nat):Prop where
 is:∀e,e∈s.is->pS e
 bg:∀e,e∈s.begins->pS e
 ns:∀n,n∈s.numbers->jH n
 tx:s.asText=false->s.is=[]/\s.begins=[]
 wt:s.weight=2+(w:Int)
 sz:s.is.length+2*s.begins.length+2*s.numbers.length=w
structure Ga(all:tB)(d:List Lf):Prop where
 kn:KN all
 ke:∀n,n∈all.map (·.1)<->∃l,l∈d/\l.nm=n
 sm:∀n,n∈all.map (·.1)->aH all n=some (some (ek all n))
 lf:∀l,l∈d->Cx (ek all l.nm) l
 ok:∀n,NG (ek all n) (G7 d n)
 ln:all.length<=d.length
theorem Ft{κ τ:Type}[DecidableEq κ](m:List (κ×τ))(k:κ)(v:τ):(bI m k v).length<=m.length+1:=by
 induction m<;>grind [bI]
theorem Cw{s:ae}{l m:Lf}(h:Cx s m):Cx (rq l s) m:=by
 unfold rq;rcases h with ⟨a,b,c⟩|⟨a,b,c⟩|⟨a,b⟩|⟨a,b,c⟩
 ·refine .inl ⟨a,?_⟩
  grind
 ·refine .inr (.inl ⟨a,?_⟩)
  grind
 ·refine .inr (.inr (.inl ⟨a,?_⟩))
  grind
 ·refine .inr (.inr (.inr ⟨a,?_⟩))
  grind
theorem Fs{s:ae}{l:Lf}(h:iX l):Cx (rq l s) l:=by
 have hk:=h.k;unfold rq;by_cases h2:l.k=2
 ·rw[if_pos h2];exact .inl ⟨h2,fun e he=>List.mem_append_right _ he,Y⟩
 rw[if_neg h2];by_cases h3:l.k=3
 ·rw[if_pos h3];exact .inr (.inl ⟨h3,fun e he=>List.mem_append_right _ he,Y⟩)
 rw[if_neg h3];by_cases h4:l.k=4
 ·rw[if_pos h4];exact .inr (.inr (.inl ⟨h4,Y⟩))
 rw[if_neg h4];exact .inr (.inr (.inr ⟨by omega,by simp,Y⟩))
theorem NG.upd{s:ae}{w:Nat}(h:NG s w){l:Lf}(hl:iX l)(hw:w<=700000):NG (rq l s) (w+lw l):=by
 have hk:=hl.k;have hlen:=hl.len;have hwt:=h.wt;have hsz:=h.sz;unfold rq lw;by_cases h2:l.k=2
 ·rw[if_pos h2,if_pos h2];refine⟨fun e he=>(bx9.1 he).elim (h.is e) (hl.tx e),h.bg,h.ns,fun h=>absurd h (by simp),?_,?_⟩
  ·grind [cm]
  grind
 rw[if_neg h2,if_neg h2];by_cases h3:l.k=3
 ·rw[if_pos h3,if_pos h3];refine⟨h.is,fun e he=>(bx9.1 he).elim (h.bg e) (hl.tx e),h.ns,fun h=>absurd h (by simp),?_,?_⟩
  ·grind [cm]
  grind
 rw[if_neg h3,if_neg h3];by_cases h4:l.k=4
 ·rw[if_pos h4,if_pos h4];exact⟨h.is,h.bg,h.ns,h.tx,by grind,by grind⟩
 rw[if_neg h4,if_neg h4];refine⟨h.is,h.bg,fun n hn=>?_,h.tx,?_,?_⟩
 ·rcases bx9.1 hn with hn|hn
  ·exact h.ns n hn
  ·simp only[bj8] at hn;rw[hn];exact hl.n (by omega)
 ·grind [cm]
 grind
theorem Ga.add{all:tB}{d:List Lf}(h:Ga all d){l:Lf}(hl:iX l)(hd:∀l,l∈d->iX l)(hlen:d.length<=6100):Ga (jU all l) (d++[l]):=by
 have hke:∀n,n∈(jU all l).map (·.1)<->n=l.nm\/n∈all.map (·.1):=fun n=>uI n;refine⟨h.kn.put,fun n=>?_,fun n hn=>?_,fun m hm=>?_,fun n=>?_,?_⟩
 ·rw[hke,h.ke]
  grind
 ·rw[ll];unfold jU;rw[cL];by_cases e:l.nm=n
  ·grind
  ·rw[if_neg e,if_neg e];exact h.sm n (((hke n).1 hn).resolve_left (Ne.symm e))
 ·rw[ll];rcases bx9.1 hm with hm|hm
  ·have:=h.lf m hm
   grind [Cw]
  simp_all[Fs]
 ·rw[ll,Hg];by_cases e:l.nm=n
  ·rw[if_pos e,if_pos e,<-e];exact(h.ok l.nm).upd hl (by grind [Do])
  ·rw[if_neg e,if_neg e];exact h.ok n
 ·have:=Ft all l.nm (some (rq l (ek all l.nm)));have:=h.ln
  grind [jU]
theorem Ga.fold:∀(ls d:List Lf) (all:tB),Ga all d->(∀l,l∈ls->iX l)->(∀l,l∈d->iX l)->d.length+ls.length<=6100->Ga (ls.foldl jU all) (d++ls)
 |[],d,all,h,_,_,_=>by grind
 |l::r,d,all,h,hl,hd,hlen=>by
  simp only[bu8] at hlen
  have:=Ga.fold r (d++[l]) (jU all l) (h.add (hl l (by simp)) hd (by omega)) (fun m hm=>hl m (by simp[hm])) (fun m hm=>(bx9.1 hm).elim (hd m) fun hm=>by
   simp only[bj8] at hm;rw[hm];exact hl l (by simp)) (by simp;omega)
  rw[bt9]
  simpa using this
def c8(ls:List Lf):tB:=ls.foldl jU []
def fE(ls:List Lf):Prop:=(∀l,l∈ls->iX l)/\ls.length<=6000
def KJ(p:B8×(Option ae)):Bool:=match p.2 with|some s=>decide (1<=s.weight/\s.weight<=1000000000000)|none=>false
def Dm(s:ae):Int:=if (s.has||(s.asText&&s.asNo))=true then s.weight+1 else s.weight
def B6(p:B8×(Option ae)):Int:=match p.2 with|some s=>Dm s|none=>1
def fH:List (B8×(Option ae))->Int
 |[]=>1
 |p::l=>B6 p*fH l
theorem zE{l l':List (B8×(Option ae))}(h:l.Perm l'):fH l=fH l':=by
 induction h<;>grind [fH]
theorem Hf{p:B8×(Option ae)}(h:KJ p=true):1<=B6 p:=by
 obtain⟨k,q⟩:=p;cases q with
 |none=>cases h
 |some s=>
  have:=of_decide_eq_true (show decide (1<=s.weight/\s.weight<=1000000000000)=true from h)
  show 1<=Dm s
  grind [Dm]
theorem uk:∀{l:List (B8×(Option ae))},l.all KJ=true->1<=fH l
 |[],_=>by simp[fH]
 |p::l,h=>by
  simp only[ag9,ap9] at h;have h1:=Hf h.1;have h2:=uk h.2
  show 1<=B6 p*fH l
  have:=Int.mul_le_mul h1 h2 (by omega) (by omega)
  grind
theorem FR{n w:Int}(hn:1<=n/\n<=200000)(hw:1<=w/\w<=1000000000001):bh (n*w)=n*w/\1<=n*w:=by
 have h1:1*1<=n*w:=Int.mul_le_mul hn.1 hw.1 (by omega) (by omega);have h2:n*w<=200000*1000000000001:=Int.mul_le_mul hn.2 hw.2 (by omega) (by omega)
 grind [cm]
theorem pG(F:Nat):∀(l:List (B8×(Option ae))) (n:Int),1<=n/\n<=200000->l.all KJ=true->fM F l n=some (decide (n*fH l<=200000))
 |[],n,hn,_=>by
  simp_all[fM,fH]
 |p::l,n,hn,hl=>by
  unfold fM;have hl0:=hl;simp only[ag9,ap9] at hl;rw[if_pos ⟨hn,hl0⟩];have hp:=hl.1;obtain⟨k,q⟩:=p;cases q with
  |none=>cases hp
  |some s=>
   have hw:=of_decide_eq_true (show decide (1<=s.weight/\s.weight<=1000000000000)=true from hp);have ih:=fun m hm=>pG F l m hm hl.2;have hpos:=uk hl.2;have e1:bh (s.weight+1)=s.weight+1:=cm (by omega) (by omega)
   have key:∀w:Int,1<=w/\w<=1000000000001->B6 (k,some s)=w->(if (decide ((bh (n*w))>200000))=true then some false else fM F l (bh (n*w)))=some (decide (n*fH ((k,some s)::l)<=200000)):=by
    intro w hw hwe;obtain⟨h1,h2⟩:=FR hn hw;rw[h1]
    show _=some (decide (n*(B6 (k,some s)*fH l)<=200000))
    rw[hwe,<-Int.mul_assoc];by_cases hg:n*w>200000
    ·rw[if_pos (decide_eq_true hg)];have:n*w*1<=n*w*fH l:=Int.mul_le_mul_of_nonneg_left hpos (by omega)
     grind
    ·grind
   simp only[bw9];cases hh:s.has with
   |true=>
    simp only[if_pos]
    grind [B6,Dm]
   |false=>
    rw[if_neg (by simp)];cases ht:s.asText with
    |true=>
     simp only[if_pos,jn];cases hn2:s.asNo with
     |true=>
      simp only[if_pos]
      grind [B6,Dm]
     |false=>
      rw[if_neg (by simp)]
      grind [B6,Dm]
    |false=>
     rw[if_neg (by simp)]
     grind [B6,Dm]
theorem zG{F:Nat}{l l':List (B8×(Option ae))}{n:Int}{r:Bool}(hp:l.Perm l')(h:fM F l n=some r):fM F l' n=some r:=by
 cases l with
 |nil=>simp_all
 |cons p t=>
  grind [KJ,fM,pG,zE]
def kq{κ τ:Type}[DecidableEq κ](m:List (κ×τ))(k:κ):List τ:=(m.filter fun p=>p.1=k).map (·.2)
section
variable{κ τ:Type}[DecidableEq κ]
theorem vO(k:κ):∀m:List (κ×τ),aH m k=(kq m k).head?
 |[]=>rfl
 |p::r=>by
  have ih:=vO k r;unfold kq at *;rw[aH,aa8];by_cases h:p.1=k<;>simp[h,ih]
theorem qV(k:κ)(v:τ)(x:κ):∀m:List (κ×τ),kq (bI m k v) x=if x=k then v::(kq m k).tail else kq m x
 |[]=>by
  unfold kq;rw[bI];by_cases h:x=k
  ·subst h;simp
  ·simp[h,Ne.symm h]
 |p::r=>by
  have ih:=qV k v x r;unfold kq at *;rw[bI];by_cases h:p.1=k
  ·subst h;by_cases h2:x=p.1
   ·subst h2;simp
   ·simp[h2,Ne.symm h2]
  ·rw[if_neg h,aa8,aa8,aa8];by_cases h2:x=k
   ·subst h2
    simpa[h] using ih
   ·rw[if_neg h2] at ih ⊢;by_cases h3:p.1=x
    ·simp[h3,ih]
    ·simpa[h3] using ih
theorem vZ(k x:κ):∀m:List (κ×τ),kq (dj m k) x=if x=k then (kq m k).tail else kq m x
 |[]=>by simp[kq,dj]
 |p::r=>by
  have ih:=vZ k x r;unfold kq at *;rw[dj];by_cases h:p.1=k
  ·subst h;by_cases h2:x=p.1
   ·subst h2;simp
   ·simp[h2,Ne.symm h2]
  ·rw[if_neg h,aa8,aa8,aa8];by_cases h2:x=k
   ·subst h2
    simpa[h] using ih
   ·rw[if_neg h2] at ih ⊢;by_cases h3:p.1=x
    ·simp[h3,ih]
    ·simpa[h3] using ih
end
abbrev tW:=List (B8×aa)
def ME(m m':tW):Prop:=∀k,kq m k=kq m' k
theorem ME.get{m m':tW}(h:ME m m')(k:B8):aH m k=aH m' k:=by rw[vO,vO,h]
theorem ME.put{m m':tW}(h:ME m m')(k:B8)(v:aa):ME (bI m k v) (bI m' k v):=fun x=>by rw[qV,qV,h,h]
theorem ME.del{m m':tW}(h:ME m m')(k:B8):ME (dj m k) (dj m' k):=fun x=>by rw[vZ,vZ,h,h]
theorem vf{F:Nat}{all:List (B8×(Option ae))}{m m':tW}(h:ME m m'){k}:∀(l:List B8) a b c d,gm F all m k l a b c d=gm F all m' k l a b c d
 |[],_,_,_,_=>rfl
 |x::l,a,b,c,d=>by
  have ih:=fun a b c d=>vf h (F:=F) (all:=all) (k:=k) l a b c d;rw[gm,gm];simp only[h.get,ih]
theorem pJ{F:Nat}{y9:KV}{y11:List (B8×(Option ae))}{y16:aq}{y18:Int}{k}:∀(l:List B8) (m m':tW) a,ME m m'->gO F y9 y11 y16 y18 k l m a=gO F y9 y11 y16 y18 k l m' a
 |[],_,_,_,_=>rfl
 |x::l,m,m',a,h=>by
  have h1:=h.del x;rw[gO,gO,show Hd F y11 (y18==1) y9 (dj m x)=Hd F y11 (y18==1) y9 (dj m' x) by unfold Hd;simp only[vf h1]];have i1:=fun v a=>pJ (F:=F) (y9:=y9) (y11:=y11) (y16:=y16) (y18:=y18) (k:=k) l _ _ a (h1.put x v);have i2:=fun a=>pJ (F:=F) (y9:=y9) (y11:=y11) (y16:=y16) (y18:=y18) (k:=k) l _ _ a h1;simp only[jn,i1,i2]
def jj(y16:aq):List (B8×(Option ae))->tW->tW
 |[],m=>m
 |e::l,m=>jj y16 l (bI m e.1 ((aH y16.by_ e.1).getD (aa.mk false false ([]:B8) 0)))
theorem kF{F:Nat}{y9:KV}{y11:List (B8×(Option ae))}{y16:aq}{y18:Int}:∀(l:List (B8×(Option ae))) m,fv F y9 y11 y16 y18 l m=fv F y9 y11 y16 y18 [] (jj y16 l m)
 |[],_=>rfl
 |e::l,m=>(show fv F y9 y11 y16 y18 (e::l) m=fv F y9 y11 y16 y18 l (bI m e.1 ((aH y16.by_ e.1).getD (aa.mk false false ([]:B8) 0))) by rw[fv]).trans (kF l _)
theorem ui{y16:aq}:∀(l:List (B8×(Option ae))) {m m':tW},ME m m'->ME (jj y16 l m) (jj y16 l m')
 |[],_,_,h=>h
 |e::l,_,_,h=>ui l (h.put _ _)
theorem xK{y16:aq}{l l':List (B8×(Option ae))}(hp:l.Perm l'):∀m,ME (jj y16 l m) (jj y16 l' m):=by
 induction hp with
 |nil=>exact fun m k=>rfl
 |cons e _ ih=>exact fun m=>ih _
 |swap a b l=>
  intro m;refine ui l fun x=>?_;simp only[qV];by_cases h:a.1=b.1
  ·rw[h]
  ·by_cases h1:x=a.1
   ·subst h1;simp[h]
   ·by_cases h2:x=b.1
    ·subst h2;simp[Ne.symm h]
    ·simp[h1,h2]
 |trans _ _ i1 i2=>exact fun m k=>(i1 m k).trans (i2 m k)
theorem zH{F:Nat}{y9:KV}{y11:List (B8×(Option ae))}{y16:aq}{y18:Int}{l l':List (B8×(Option ae))}{m:tW}{r:(List B8)×Bool×Int}(hp:l.Perm l')
  (h:fv F y9 y11 y16 y18 l m=some r):fv F y9 y11 y16 y18 l' m=some r:=by
 rw[<-h,kF l,kF l',fv,fv];have i:=fun k l a=>pJ (F:=F) (y9:=y9) (y11:=y11) (y16:=y16) (y18:=y18) (k:=k) l _ _ a (xK (y16:=y16) hp m);simp only[i]
theorem Co(s:ae)(nums:List Int):(m4 s nums).length<=nums.length+1:=by
 grind [m4]
theorem ow{α β:Type}(f:α->List β)(B:Nat):∀l:List α,(∀x,x∈l->(f x).length<=B)->(l.flatMap f).length<=l.length*B
 |[],_=>by simp
 |x::l,h=>by
  have h1:=h x (by simp);have h2:=ow f B l fun y hy=>h y (by simp[hy]);simp only[ab8,bf9,bu8,al8,Nat.one_mul];omega
theorem Aq(s:ae)(nums:List Int)(txs:List ba):(eM s nums txs).length<=(nums.length+1)+txs.length*(nums.length+1):=by
 have h1:=Co s nums;unfold eM;rw[bf9]
 have h2:(if (s.asText||s.has)=true then txs.flatMap (fun t=>(m4 s nums).map (Hq t)) else []).length<=txs.length*(nums.length+1):=by
  split
  ·exact ow _ _ _ fun x _=>by grind
  ·simp
 omega
structure Gvs(F:Nat)(s:ae)(nums:List Int)(txs:List ba):Prop where
 g:Gv F s nums txs
 rep:∀v,zh v->∃c,c∈eM s nums txs/\uY s (t8 c) v
 ok:∀c,c∈eM s nums txs->zh (t8 c)
theorem K0{s:ae}{w:Nat}(h:NG s w)(hw:w<=600000)(F:Nat)(hF:700000<=F):∃nums txs,Gvs F s nums txs:=by
 have hsz:=h.sz;obtain⟨nums,a1,a2,a3⟩:=Jc F s h.ns (by omega);obtain⟨txs,b1,b2,b3⟩:=Jb F s (by omega) (by omega) (by omega) h.bg;have hl:=Aq s nums txs;have hm:txs.length*(nums.length+1)<=600001*900002:=Nat.mul_le_mul (by omega) (by omega);refine⟨nums,txs,⟨a1,b1,by omega,by omega⟩,fun v hv=>CV a3 h.ns b3 h.tx v hv,fun c hc=>Gf (fun x hx=>?_) (fun x hx=>?_) hc⟩
 ·rcases(a3 x).1 hx with e|⟨n,_,hn⟩
  ·rw[e];exact⟨by omega,by omega⟩
  simp_all[qk]
 ·exact(b3.ok x hx).elim (h.is x) id
theorem sr{ls:List Lf}(h:fE ls):Ga (c8 ls) ls:=by
 have h0:Ga [] []:=⟨by simp[KN],fun n=>by simp,fun n hn=>by simp at hn,fun l hl=>by simp at hl,fun n=>⟨by simp[ek,aH,zw],by simp[ek,aH,zw],by simp[ek,aH,zw],fun _=>⟨rfl,rfl⟩,rfl,rfl⟩,by simp⟩;have:=Ga.fold ls [] [] h0 h.1 (by simp) (by have:=h.2;simp;omega);rw[ad9] at this;exact this
def rQ(ls:List Lf):List ba:=dT ((c8 ls).map (·.1))
theorem qN{ls:List Lf}(h:fE ls){n:ba}:n∈rQ ls<->∃l,l∈ls/\l.nm=n:=by
 unfold rQ;rw[(cZ _).mem_iff];exact(sr h).ke n
theorem uv{ls:List Lf}(h:fE ls):(rQ ls).Nodup:=(cZ _).nodup_iff.2 (sr h).kn
theorem qO(ls:List Lf):(rQ ls).length=(c8 ls).length:=by
 unfold rQ;rw[(cZ _).length_eq];simp
theorem AW{ls:List Lf}(h:fE ls)(n:ba):G7 ls n<=600000:=by
 have:=Do h.1 n;have:=h.2;omega
theorem Js{ls:List Lf}(h:fE ls){p:ba×Option ae}(hp:p∈c8 ls):p.2=some (ek (c8 ls) p.1):=by
 have hg:=sr h;have h1:=Fm hg.kn hp;rw[hg.sm p.1 (bl9 hp)] at h1
 grind
theorem Jo{ls:List Lf}(h:fE ls){p:ba×Option ae}(hp:p∈c8 ls):KJ p=true/\2<=B6 p:=by
 have h1:=((sr h).ok p.1).wt
 grind [AW,KJ,B6,Dm,Js]
theorem MD{ls:List Lf}(h:fE ls):(c8 ls).all KJ=true:=ap8.2 fun p hp=>(Jo h hp).1
theorem uj:∀{l:tB},(∀p,p∈l->2<=B6 p)->((2 ^ l.length:Nat):Int)<=fH l
 |[],_=>by simp[fH]
 |p::r,h=>by
  have h1:=h p (by simp);have h2:=uj (l:=r) fun m hm=>h m (by simp[hm])
  have h3:(1:Int)<=((2 ^ r.length:Nat):Int):=by
   have:=Nat.one_le_two_pow (n:=r.length);omega
  rw[fH,bu8,Nat.pow_succ,an8];have:=Int.mul_le_mul h1 h2 (by omega) (by omega)
  grind
def yr(ls:List Lf):Bool:=decide (fH (c8 ls)<=200000)
theorem JW(F:Nat){ls:List Lf}(h:fE ls):NR F (c8 ls)=some (yr ls):=by
 simp_all[NR,yr,pG,MD]
theorem sB{ls:List Lf}(h:fE ls)(hf:yr ls=true):(rQ ls).length<=17:=by
 have h1:=uj fun p hp=>(Jo h hp).2;have h2:=of_decide_eq_true hf;rw[qO];rcases bp9 17 (c8 ls).length with h3|h3
 ·have:=Nat.pow_le_pow_right (n:=2) (by omega) h3;omega
 ·exact h3
theorem xN:zh ⟨false,false,[],0⟩:=⟨fun h=>absurd h (by simp),fun h=>absurd h (by simp)⟩
structure JZ(ls:List Lf)(P:(ba->Option Fd)->Option Bool)(A:(ba->Fd)->Bool):Prop where
 mono:∀s s' b,ext s s'->P s=some b->P s'=some b
 full:∀s a,(∀l,l∈ls->s l.nm=some (a l.nm))->P s=some (A a)
 congr:∀a b,(∀l,l∈ls->l.one (a l.nm)=l.one (b l.nm))->A a=A b
theorem Fa{s:ba}(h:cV s=true):s.length<=1000:=by
 unfold cV at h
 grind
def Ma(A:(ba->Fd)->Bool)(fx:ba->Option Fd):Prop:=∃v:ba->Fd,(∀n,zh (v n))/\(∀n x,fx n=some x->v n=x)/\A v=true
theorem Cj{ls:List Lf}(hl:fE ls)(hf17:yr ls=true){P:(ba->Option Fd)->Option Bool}{A:(ba->Fd)->Bool}(hP:JZ ls P A)(F0:Nat)(hb:Bool)(cd:KV)
  (hC:∀F m kn s,F0<=F->Dj m kn s->LV F ⟨m,some kn⟩ hb cd=some (xh (P (wC s)))) (fx:yO) (hfx:∀n x,aH fx n=some x->zh (t8 x)) (F:Nat) (hF:F0+1000000<=F):
  ∃by_ ns m kn m' kn' r,Hd F (c8 ls) hb cd fx=some (by_,ns,m,kn)/\xn F 0 by_ hb cd ns m kn=some (r,m',kn')/\(r=true<->Ma A (wC (ym (c8 ls) fx))):=by
 have hg:=sr hl;have hl17:=sB hl hf17;have hal:(c8 ls).length<=17:=by rw[<-qO];exact hl17
 have hgs:=fun n=>K0 (hg.ok n) (AW hl n) F (by omega)
 have hnm:∀n,n∈(c8 ls).map (·.1)->n.length<=1000:=fun n hn=>by
  obtain⟨l,h,e⟩:=(hg.ke n).1 hn;exact e ▸ Fa (hl.1 l h).nm
 obtain⟨by_,m,kn,e1,hs0,e2⟩:=LX F (c8 ls) hb cd fx hg.kn (by omega) (fun p hp=>hnm p.1 (bl9 hp)) (fun n hn _=>by
  obtain⟨nums,txs,h⟩:=hgs n;exact⟨ek (c8 ls) n,nums,txs,hg.sm n hn,h.g⟩)
 obtain⟨ns,hns⟩:∃ns,ns=(rQ ls).filter fun n=>(aH fx n).isNone:=⟨_,rfl⟩;have hmem:∀n,n∈ns<->n∈rQ ls/\aH fx n=none:=fun n=>by rw[hns,bw8,Option.isNone_iff_eq_none]
 have hnd:ns.Nodup:=by rw[hns];exact(uv hl).filter _
 have hnl:ns.length<=17:=by rw[hns];exact bt8 (ab9 _ _) hl17
 have hno:∀n,n∈ns->ym (c8 ls) fx n=none:=fun n hn=>by
  unfold ym;rw[((hmem n).1 hn).2];simp
 have hmono:∀(s s':Mb) b,ext s s'->P (wC s)=some b->P (wC s')=some b:=fun s s' b he h=>hP.mono _ _ b (fun n x hx=>by
  unfold wC at hx ⊢;cases hs:s n with
  |none=>grind
  |some y=>rw[hs] at hx;rw[he n y hs];exact hx) h
 obtain⟨m',kn',hf⟩:=BC (fun s=>P (wC s)) F0 hb cd hC by_ ns hnd (by omega) ns [] rfl F (by omega) m kn (ym (c8 ls) fx) hs0 hno
 have hcan:∀n,n∈ns->∃nums txs,Gvs F (ek (c8 ls) n) nums txs/\∀x,x∈(aH by_ n).getD []<->x∈eM (ek (c8 ls) n) nums txs:=fun n hn=>by
  obtain⟨nums,txs,h⟩:=hgs n;exact⟨nums,txs,h,e2 n _ nums txs ((hmem n).1 hn).2 (hg.sm n ((cZ _).mem_iff.1 ((hmem n).1 hn).1)) h.g⟩
 rw[show(([]:List ba).length:Int)=0 from rfl] at hf;rw[show(dT ((c8 ls).map (·.1))).filter (fun n=>(aH fx n).isNone)=ns from hns.symm] at e1;cases h4:qn? (fun s=>P (wC s)) (fun n=>(aH by_ n).getD []) ns (ym (c8 ls) fx) with
 |some s'=>
  rw[h4] at hf;dsimp only at hf;obtain⟨g1,g2,g3⟩:=po ns _ s' hnd hno h4
  have hs':∀n x,s' n=some x->zh (t8 x):=fun n x hx=>by
   rcases g3 n x hx with h|⟨h,h5⟩
   ·unfold ym at h;split at h
    ·exact hfx n x h
    ·cases h
   ·obtain⟨nums,txs,q1,q2⟩:=hcan n h;exact q1.ok x ((q2 x).1 h5)
  refine⟨by_,ns,m,kn,m',kn',true,e1,hf.1,⟨fun _=>?_,fun _=>Y⟩⟩;refine⟨fun n=>((wC s') n).getD ⟨false,false,[],0⟩,fun n=>?_,fun n x hx=>?_,?_⟩
  ·unfold wC;dsimp only;cases hx:s' n<;>grind [xN]
  ·unfold wC at hx ⊢;rw[ad8] at hx;obtain⟨y,h1,h2⟩:=hx
   show(Option.map t8 (s' n)).getD _=x
   rw[g2 n y h1];exact h2
  ·have h6:=hP.mono (wC s') (fun n=>some (((wC s') n).getD ⟨false,false,[],0⟩)) true (fun n x hx=>by grind) g1;rw[hP.full _ (fun n=>((wC s') n).getD ⟨false,false,[],0⟩) fun _ _=>rfl] at h6
   grind
 |none=>
  rw[h4] at hf;dsimp only at hf;refine⟨by_,ns,m,kn,m',kn',false,e1,hf.1,⟨fun h=>absurd h (by simp),fun⟨v,hv,hvx,ht⟩=>?_⟩⟩;exfalso
  have hrep:∀n,∃c:aa,n∈ns->c∈(aH by_ n).getD []/\uY (ek (c8 ls) n) (t8 c) (v n):=fun n=>by
   by_cases hn:n∈ns
   ·obtain⟨nums,txs,q1,q2⟩:=hcan n hn;obtain⟨c,c1,c2⟩:=q1.rep (v n) (hv n)<;>grind
   ·exact⟨zV,fun h=>absurd h hn⟩
  obtain⟨a,ha⟩:∃a:ba->aa,∀n,n∈ns->a n∈(aH by_ n).getD []/\uY (ek (c8 ls) n) (t8 (a n)) (v n):=⟨fun n=>(hrep n).choose,fun n hn=>(hrep n).choose_spec hn⟩;refine sw hmono ns _ hnd hno h4 a (fun n hn=>(ha n hn).1) ?_
  have hset:∀n,n∈rQ ls->ld (ym (c8 ls) fx) ns a n=some ((ym (c8 ls) fx n).getD (a n)):=fun n hn=>by
   unfold ld;cases hx:ym (c8 ls) fx n with
   |some x=>rfl
   |none=>
    have:n∈ns:=(hmem n).2 ⟨hn,by
     unfold ym at hx
     rwa [if_pos ((cZ _).mem_iff.1 hn)] at hx⟩
    simp[this]
  rw[hP.full _ (fun n=>t8 ((ym (c8 ls) fx n).getD (a n))) fun l hl2=>by
   have hn:=(qN hl).2 ⟨l,hl2,rfl⟩;unfold wC;rw[hset _ hn];rfl]
  rw[hP.congr _ v fun l hl2=>by
   have hn:=(qN hl).2 ⟨l,hl2,rfl⟩;cases hx:ym (c8 ls) fx l.nm with
   |some x=>
    rw[hvx l.nm (t8 x) (by unfold wC;rw[hx];rfl)];rfl
   |none=>
    have hns2:l.nm∈ns:=(hmem l.nm).2 ⟨hn,by
     unfold ym at hx
     rwa [if_pos ((cZ _).mem_iff.1 hn)] at hx⟩
    exact xM (hg.lf l hl2) (ha l.nm hns2).2,ht]
mutual
def Tr.gd:Tr->Prop
 | .mk k nm tx op n ks=>(cc ⟨k,nm,tx,op,n,Tr.toKs ks⟩=0\/((k=7\/k=8)/\nm=[]))/\Tr.gds ks
def Tr.gds:List Tr->Prop
 |[]=>True
 |t::r=>t.gd/\Tr.gds r
end
theorem mG:∀{ks:List Tr} {t:Tr},Tr.gds ks->t∈ks->t.gd
 |u::r,t,h,hm=>by
  rw[Tr.gds] at h;rcases aq8.1 hm with e|hm
  ·rw[e];exact h.1
  ·exact mG h.2 hm
theorem Ah:∀{ks:List Tr},(∀t,t∈ks->t.gd)->Tr.gds ks
 |[],_=>by rw[Tr.gds];trivial
 |u::r,h=>by rw[Tr.gds];exact⟨h u (by simp),Ah fun t ht=>h t (by simp[ht])⟩
theorem gX{k op n:Int}{nm:ba}{tx:List ba}{ks:List Tr}(h:(Tr.mk k nm tx op n ks).gd):(cc ⟨k,nm,tx,op,n,Tr.toKs ks⟩=0\/((k=7\/k=8)/\nm=[]))/\Tr.gds ks:=by
 simp_all[Tr.gd]
theorem sq:∀t:Tr,t.flt=0->t.gd:=Tr.ind fun k nm tx op n ks ih hz=>by
 grind [iI,Tr.gd,Ah,eU]
theorem rU{s:ba}(h:cV s=true):s≠[]:=by
 rintro rfl;cases h
theorem Bl{x:aC}(h:cc x=0)(hk:¬(2<=x.Kind/\x.Kind<=5)):x.Name=[]/\(x.Kind=1->x.Kids=[]):=by
 unfold cc at h
 grind
section
variable{k op n:Int}{nm:ba}{tx:List ba}{ks:List Tr}(h:(Tr.mk k nm tx op n ks).gd)
include h
theorem Bz:1<=k/\k<=8:=by
 rcases(gX h).1 with h|h
 ·exact ip h
 ·omega
theorem K2(h6:k=6):ks.length=1:=by
 rcases(gX h).1 with h|h
 ·rw[<-jJ h h6];grind [Tr.toKs_len]
 ·omega
theorem FN(h1:k=1):ks=[]:=by
 rcases(gX h).1 with h|h
 ·have:=Tr.toKs_len ks;have e:=(Bl h (by grind)).2 h1
  grind
 ·omega
theorem mB:
  (nm≠[]/\ks=[]/\2<=k/\k<=5/\(Tr.mk k nm tx op n ks).lvs=[⟨k,nm,tx,op,n⟩]/\iX ⟨k,nm,tx,op,n⟩)\/(nm=[]/\(Tr.mk k nm tx op n ks).lvs=Tr.lvss ks):=by
 have hkk:=Bz h;have hone:=FN h;obtain⟨hnode,hfl⟩:=gX h;rw[Tr.lvs];by_cases hk:2<=k/\k<=5
 ·rcases hnode with hnode|hnode
  ·obtain⟨h1,h2⟩:=ux hnode hk
   have hks:ks=[]:=by
    have:=Tr.toKs_len ks;rw[h2] at this;exact ax9.1 this.symm
   exact .inl ⟨rU h1.nm,hks,hk.1,hk.2,by grind,h1⟩
  ·omega
 ·have h1:nm=[]:=by
   rcases hnode with hnode|hnode
   ·exact(Bl hnode hk).1
   ·grind
  refine .inr ⟨h1,?_⟩;by_cases h1:k=1
  ·rw[if_pos h1,hone h1];rfl
  grind
end
theorem vP:∀t:Tr,t.gd->∀l,l∈t.lvs->iX l:=Tr.ind fun k nm tx op n ks ih hz l hl=>by
 rcases mB hz with ⟨_,_,_,_,h3,h4⟩|⟨_,h3⟩
 ·grind
 ·rw[h3] at hl;obtain⟨t,ht,h⟩:=iz.1 hl;exact ih t ht (mG (gX hz).2 ht) l h
abbrev kX(l:List ba):Prop:=l.Pairwise (fun a b=>Op.bytesLess a b=true)
theorem OG{i j:Nat}(h:i+j<=1000000000):bh (Int.tdiv (bh ((i:Int)+(j:Int))) 2)=(((i+j) / 2:Nat):Int):=by
 grind [cm]
theorem pK(F:Nat)(a:List ba)(x:ba)(k:Int->Option (Int×Bool))(hlen:a.length<=100000000)(hs:kX a):
  ∀(n i j:Nat),i<=j->j<=a.length->j - i<n->(∀q (h:q<a.length),q<i->Op.bytesLess a[q] x=true)->(∀q (h:q<a.length),j<=q->Op.bytesLess a[q] x=false)->
  ∃p:Nat,p<=a.length/\kH F a x k n i j=k p/\(∀q (h:q<a.length),q<p->Op.bytesLess a[q] x=true)/\∀q (h:q<a.length),p<=q->Op.bytesLess a[q] x=false
 |0,i,j,_,_,h,_,_=>by omega
 |n+1,i,j,hij,hj,hn,h1,h2=>by
  rw[kH];by_cases hc:i<j
  ·have hm:(i+j) / 2<a.length:=by omega
   rw[if_pos (decide_eq_true (by omega)),OG (by omega),bF hm,bw9,aF];by_cases hl:Op.bytesLess a[(i+j) / 2] x=true
   ·rw[if_pos hl,show bh ((((i+j) / 2:Nat):Int)+1)=(((i+j) / 2+1:Nat):Int) by grind [cm]];refine pK F a x k hlen hs n ((i+j) / 2+1) j (by omega) hj (by omega) (fun q h hq=>?_) h2;rcases bp9 q ((i+j) / 2) with hq2|hq2
    ·exact jS (au8.1 hs q ((i+j) / 2) h hm hq2) hl
    grind
   ·rw[if_neg hl];refine pK F a x k hlen hs n i ((i+j) / 2) (by omega) (by omega) (by omega) h1 (fun q h hq=>?_);have hl:Op.bytesLess a[(i+j) / 2] x=false:=by simpa using hl
    rcases bp9 ((i+j) / 2) q with hq2|hq2
    ·have:=au8.1 hs ((i+j) / 2) q hm h hq2
     grind [jS]
    grind
  grind
theorem xd(F:Nat)(a:List ba)(x:ba)(hlen:a.length<=100000000)(hs:kX a)(hF:a.length<F):
  ∃p:Nat,p<=a.length/\zb F a x=some ((p:Int),decide (x∈a))/\(∀q (h:q<a.length),q<p->Op.bytesLess a[q] x=true)/\(∀q (h:q<a.length),p<=q->Op.bytesLess a[q] x=false)/\(x∈a->a[p]? = some x):=by
 obtain⟨p,hp,he,h1,h2⟩:=pK F a x (fun(n4:Int)=>if (decide (n4<((a.length:Nat):Int)))=true then (cn a n4).bind fun x17=>some (n4,(x17==x)) else some (n4,false)) hlen hs F 0 a.length (by omega) (ae9 _) (by omega) (fun q h hq=>by omega) (fun q h hq=>by omega)
 have hin:x∈a->∃h:p<a.length,a[p]=x:=fun hx=>by
  obtain⟨q,hq,e⟩:=bg9 hx;have hpq:p<=q:=at9 fun h=>by grind [mK]
  have hpl:p<a.length:=by omega
  refine⟨hpl,?_⟩;rcases bp9 p q with h|h
  ·have:=au8.1 hs p q hpl hq h
   grind
  grind
 refine⟨p,hp,?_,h1,h2,fun hx=>?_⟩
 ·unfold zb;rw[aF,show(0:Int)=((0:Nat):Int) from rfl,he];by_cases hpl:p<a.length
  ·rw[if_pos (decide_eq_true (by omega)),bF hpl,bw9]
   have:(a[p]==x)=decide (x∈a):=by
    by_cases hx:x∈a
    ·grind
    ·grind
   rw[this]
  ·rw[if_neg (by simp;omega),decide_eq_false fun hx=>hpl (hin hx).1]
 grind
theorem AE(F:Nat)(a:List ba)(x:ba)(hlen:a.length<=100000000)(hs:kX a)(hF:a.length<F):LN F a x=some (decide (x∈a)):=by
 obtain⟨p,_,e,_⟩:=xd F a x hlen hs hF<;>simp_all[LN]
theorem ri(F:Nat)(a:List ba)(x:ba)(hlen:a.length<=90000000)(hs:kX a)(hF:a.length<F):
  ∃a',xe F a x=some a'/\kX a'/\(∀y,y∈a'<->y=x\/y∈a)/\a'.length<=a.length+1:=by
 obtain⟨p,hp,e,h1,h2,h3⟩:=xd F a x (by omega) hs hF;unfold xe;rw[e,bw9];dsimp only;by_cases hx:x∈a
 ·grind
 ·rw[decide_eq_false hx,if_neg (by simp)];have hpn:((p:Int)).toNat=p:=rfl;rw[hpn,if_pos ⟨by omega,hp⟩,if_pos (by simp;omega),if_pos (by simp;omega),if_pos ⟨by omega,hp⟩,if_pos (by simp;omega)];refine⟨_,rfl,?_,fun y=>?_,by simp;omega⟩
  ·have hlt:∀y,y∈a.take p->Op.bytesLess y x=true:=fun y hy=>by
    grind [List.getElem_of_mem]
   have hgt:∀y,y∈a.drop p->Op.bytesLess x y=true:=fun y hy=>by
    grind [List.getElem_of_mem,wy]
   refine List.pairwise_append.2 ⟨List.pairwise_append.2 ⟨hs.sublist (List.take_sublist _ _),by simp,fun b hb c hc=>?_⟩,hs.sublist (List.drop_sublist _ _),fun b hb c hc=>?_⟩
   ·grind
   grind [jS]
  grind [List.take_append_drop]
theorem LS:∀t:Tr,t.ok->t.gd->∀F,t.fu+200000000<=F->∀a:List ba,kX a->a.length+t.cnt<=10000000->
  ∃a',C8 F t.toT a=some a'/\kX a'/\(∀y,y∈a'<->y∈a\/∃l,l∈t.lvs/\l.nm=y)/\a'.length<=a.length+t.cnt:=Tr.ind fun k nm tx op n ks ih ok hz F hF a ha hl=>by
 rw[Tr.fu] at hF;rw[Tr.cnt] at hl ⊢;obtain⟨hnode,hfl⟩:=gX hz;obtain⟨F,rfl⟩:∃G,F=G+1:=⟨F - 1,by omega⟩
 show ∃a',yW (C8 F) F (Tr.mk k nm tx op n ks).toT a=some a'/\_
 rw[Tr.toT,yW];dsimp only;rcases mB hz with ⟨h1,h2,_,_,h3,_⟩|⟨h1,h3⟩
 ·rw[if_pos (by grind)];obtain⟨a',e,g1,g2,g3⟩:=ri F a nm (by omega) ha (by omega);refine⟨a',by rw[e];rfl,g1,fun y=>?_,by omega⟩;rw[g2,h3];constructor
  ·rintro(h|h)
   ·simp_all
   grind
  grind
 ·rw[if_neg (by simp[h1])];have hk:=(Tr.okks ok).2;rw[aF,Tr.toKs_len,if_pos (by omega),show(((ks.length:Nat):Int)).toNat=ks.length by omega]
  have hloop:∀m j:Nat,j+m=ks.length->∀a:List ba,kX a->a.length+Tr.cnts (ks.drop j)<=10000000->
    ∃a',mh (C8 F) F ⟨k,nm,tx,op,n,Tr.toKs ks⟩ (fun(l7:List B8)=>some l7) m (j:Int) a=some a'/\kX a'/\(∀y,y∈a'<->y∈a\/∃l,l∈Tr.lvss (ks.drop j)/\l.nm=y)/\a'.length<=a.length+Tr.cnts (ks.drop j):=by
   intro m
   induction m with
   |zero=>
    simp_all[mh,Tr.lvss]
   |succ m ihm=>
    intro j hj a ha hl;have hn:j<ks.length:=by omega
    have ht:ks[j]∈ks:=ba8 _;rw[br8 hn,Tr.cnts] at hl;obtain⟨a1,e1,p1,p2,p3⟩:=ih _ ht (Tr.oks_mem (Tr.okks ok).1 ht) (mG hfl ht) F (by have:=Tr.fu_mem ht;omega) a ha (by omega);obtain⟨a2,e2,q1,q2,q3⟩:=ihm (j+1) (by omega) a1 p1 (by omega)<;>grind [mh,ep,Tr.dec,List.drop_eq_getElem_cons,Tr.cnts,Tr.lvss]
  obtain⟨a',e,g1,g2,g3⟩:=hloop ks.length 0 (by omega) a ha (by grind);rw[bq9] at g2 g3;refine⟨a',e,g1,fun y=>by rw[g2,h3],by omega⟩
def Lf.t(l:Lf):aC:=⟨l.k,l.nm,l.tx,l.op,l.n,[]⟩
def Lf.row(l:Lf):aM:=tH ah l.t
theorem Lf.dec(l:Lf):dD ah l.row=some l.t:=Bx oz rfl
def qz(t:Tr)(n:ba):List Lf:=t.lvs.filter fun l=>l.nm==n
theorem rc(t:Tr)(n:ba):(qz t n).length<=t.cnt:=bt8 (ab9 _ _) (Bu t)
theorem q9{t:Tr}{n:ba}{l:Lf}:l∈qz t n<->l∈t.lvs/\l.nm=n:=by
 simp_all[qz]
theorem GH(nm':ba)(hne:nm'≠[]):∀t:Tr,t.ok->t.gd->∀F,t.fu<=F->∀a:List aM,a.length+t.cnt<=10000000->
  qd F t.toT nm' a=some (a++(qz t nm').map Lf.row):=Tr.ind fun k nm tx op n ks ih ok hz F hF a hl=>by
 rw[Tr.fu] at hF;rw[Tr.cnt] at hl;obtain⟨hnode,hfl⟩:=gX hz;obtain⟨F,rfl⟩:∃G,F=G+1:=⟨F - 1,by omega⟩
 show oU (qd F) F (Tr.mk k nm tx op n ks).toT nm' a=_
 have hk:=(Tr.okks ok).2
 have hloop:∀m j:Nat,j+m=ks.length->∀a:List aM,a.length+Tr.cnts (ks.drop j)<=10000000->
   gG (qd F) F ⟨k,nm,tx,op,n,Tr.toKs ks⟩ nm' (fun(l24:List aM)=>some l24) m (j:Int) a=some (a++((Tr.lvss (ks.drop j)).filter fun l=>l.nm==nm').map Lf.row):=by
  intro m
  induction m with
  |zero=>
   simp_all[gG,Tr.lvss]
  |succ m ihm=>
   intro j hj a hl;have hn:j<ks.length:=by omega
   have ht:ks[j]∈ks:=ba8 _;rw[br8 hn,Tr.cnts] at hl;have hal:=rc ks[j] nm';rw[gG,ep hn,bw9,Tr.dec,bw9,ih _ ht (Tr.oks_mem (Tr.okks ok).1 ht) (mG hfl ht) F (by have:=Tr.fu_mem ht;omega) a (by omega),bw9,show((j:Int)+1)=((j+1:Nat):Int) from rfl,ihm (j+1) (by omega) _ (by grind),br8 hn,Tr.lvss,ac9,ck8,by8];rfl
 rw[Tr.toT,oU];dsimp only;rcases mB hz with ⟨h1,h2,_,_,h3,_⟩|⟨h1,h3⟩
 ·unfold qz;rw[h3];by_cases e:nm=nm'
  ·rw[if_pos (by grind),if_pos (by simp;omega)]
   simp_all[Lf.row,Lf.t,Tr.toKs]
  ·rw[if_neg (by grind),aF,Tr.toKs_len,if_pos (by omega),show(((ks.length:Nat):Int)).toNat=ks.length by omega]
   grind [Tr.lvss]
 ·rw[if_neg (by grind),aF,Tr.toKs_len,if_pos (by omega),show(((ks.length:Nat):Int)).toNat=ks.length by omega];have:=hloop ks.length 0 (by omega) a (by grind)
  simp_all[qz]
theorem GG(nm':ba)(hne:nm'≠[]):∀t:Tr,t.ok->t.gd->t.cnt<=1500000->∀F,t.fu<=F->
  Mo F t.toT nm'=some ((qz t nm').map Lf.row):=fun t=>match t with
 | .mk k nm tx op n ks=>fun ok hz hc F hF=>by
  rw[Tr.fu] at hF;rw[Tr.cnt] at hc;obtain⟨hnode,hfl⟩:=gX hz;have hk:=(Tr.okks ok).2
  have hloop:∀m j:Nat,j+m=ks.length->∀a:List aM,a.length+Tr.cnts (ks.drop j)<=10000000->
    lY F ⟨k,nm,tx,op,n,Tr.toKs ks⟩ nm' (fun(l23:List aM)=>some l23) m (j:Int) a=some (a++((Tr.lvss (ks.drop j)).filter fun l=>l.nm==nm').map Lf.row):=by
   intro m
   induction m with
   |zero=>
    simp_all[lY,Tr.lvss]
   |succ m ihm=>
    intro j hj a hl;have hn:j<ks.length:=by omega
    have ht:ks[j]∈ks:=ba8 _;rw[br8 hn,Tr.cnts] at hl;have hal:=rc ks[j] nm';rw[lY,ep hn,bw9,Tr.dec,bw9,GH nm' hne _ (Tr.oks_mem (Tr.okks ok).1 ht) (mG hfl ht) F (by have:=Tr.fu_mem ht;omega) a (by omega),bw9,show((j:Int)+1)=((j+1:Nat):Int) from rfl,ihm (j+1) (by omega) _ (by grind),br8 hn,Tr.lvss,ac9,ck8,by8];rfl
  rw[Tr.toT,Mo];dsimp only;rcases mB hz with ⟨h1,h2,_,_,h3,_⟩|⟨h1,h3⟩
  ·unfold qz;rw[h3];by_cases e:nm=nm'
   ·simp_all[Lf.row,Lf.t,Tr.toKs]
   ·rw[if_neg (by grind),aF,Tr.toKs_len,if_pos (by omega),show(((ks.length:Nat):Int)).toNat=ks.length by omega]
    grind [Tr.lvss]
  ·rw[if_neg (by grind),aF,Tr.toKs_len,if_pos (by omega),show(((ks.length:Nat):Int)).toNat=ks.length by omega];have:=hloop ks.length 0 (by omega) [] (by grind)
   simp_all[qz]
end Go.Proofs.YtelmfadihfcgnaaGreatDoor
