/- Part of the proof. -/
import Derived.Test.YtelmfadihfcgnaaGreatDoorHD8RE
set_option linter.unusedSimpArgs false
set_option linter.unusedVariables false
namespace Go.Proofs.YtelmfadihfcgnaaGreatDoor
open Go Go.Pv
set_option maxRecDepth 100000
def FZ(ls:List Lf)(x:bb):Prop:=∃l,l∈ls/\l.k=2/\x∈l.tx
def GL(ls:List Lf)(x:bb):Prop:=∃l,l∈ls/\l.k≠2/\x∈l.tx
theorem oh(F:Nat)(ls:List Lf)(j:Nat)(hj:j<ls.length)(k:List bb->List bb->Option (List bb))(hF:200000000<=F)(htx:ls[j].tx.length<=50):∀(fuel i:Nat),ls[j].tx.length<fuel+i->i<=ls[j].tx.length->∀A B:List bb,jD A->jD B->A.length+B.length+(ls[j].tx.length - i)<=80000000->
  ∃A' B',kL F (ls.map Lf.row) (j:Int) k fuel A B (i:Int)=k A' B'/\jD A'/\jD B'/\(∀x,x∈A'<->x∈A\/(ls[j].k=2/\x∈ls[j].tx.drop i))/\(∀x,x∈B'<->x∈B\/(ls[j].k≠2/\x∈ls[j].tx.drop i))/\A'.length+B'.length<=A.length+B.length+(ls[j].tx.length - i)
 |0,i,h,h2,A,B,_,_,_=>by omega
 |fuel+1,i,h,h2,A,B,hA,hB,hl=>by
  rw[kL];simp only[sF hj,Lf.dec,by8]
  show ∃A' B',(if (decide ((i:Int)<((ls[j].tx.length:Nat):Int)))=true then _ else _)=_/\_
  by_cases hi:i<ls[j].tx.length
  ·rw[if_pos (decide_eq_true (by omega)),aH];have hix:ct ls[j].t.Texts (i:Int)=some ls[j].tx[i]:=bQ hi;rw[hix];simp only[by8];have hw:bE ((i:Int)+1)=((i+1:Nat):Int):=by rw[cS (by omega) (by omega)];rfl
   rw[hw,show ls[j].t.Kind=ls[j].k from rfl];by_cases k2:ls[j].k=2
   ·rw[if_pos (by grind)];obtain⟨A1,e1,p1,p2,p3⟩:=rG F A ls[j].tx[i] (by omega) hA (by omega);obtain⟨A',B',g1,g2,g3,g4,g5,g6⟩:=oh F ls j hj k hF htx fuel (i+1) (by omega) (by omega) A1 B p1 hB (by omega);refine⟨A',B',by grind,g2,g3,fun x=>?_,fun x=>?_,by omega⟩
    ·grind [List.drop_eq_getElem_cons]
    grind
   ·rw[if_neg (by grind)];obtain⟨B1,e1,p1,p2,p3⟩:=rG F B ls[j].tx[i] (by omega) hB (by omega);obtain⟨A',B',g1,g2,g3,g4,g5,g6⟩:=oh F ls j hj k hF htx fuel (i+1) (by omega) (by omega) A B1 hA p1 (by omega);refine⟨A',B',by grind,g2,g3,fun x=>?_,fun x=>?_,by omega⟩
    ·grind
    grind [List.drop_eq_getElem_cons]
  ·rw[if_neg (by simp;omega)]
   grind
theorem tI(F:Nat)(ls:List Lf)(k:List bb->List bb->Option (List bb))(hF:200000000<=F)(htx:∀l,l∈ls->l.tx.length<=50):∀(m j:Nat),j+m=ls.length->∀A B:List bb,jD A->jD B->A.length+B.length+50*m<=80000000->
  ∃A' B',ij F (ls.map Lf.row) k m (j:Int) A B=k A' B'/\jD A'/\jD B'/\(∀x,x∈A'<->x∈A\/FZ (ls.drop j) x)/\(∀x,x∈B'<->x∈B\/GL (ls.drop j) x)/\A'.length+B'.length<=A.length+B.length+50*m
 |0,j,hj,A,B,hA,hB,hl=>by
  rw[ij,al8 (by omega)]
  grind [FZ,GL]
 |m+1,j,hj,A,B,hA,hB,hl=>by
  have hn:j<ls.length:=by omega
  have ht:=htx ls[j] (bc9 _);rw[ij,aH,aH];obtain⟨A1,B1,e1,p1,p2,p3,p4,p5⟩:=oh F ls j hn (fun l16 l17=>(fun l13 l14=>ij F (ls.map Lf.row) k m ((j:Int)+1) l13 l14) l16 l17) hF ht F 0 (by omega) (by omega) A B hA hB (by omega);obtain⟨A',B',g1,g2,g3,g4,g5,g6⟩:=tI F ls k hF htx m (j+1) (by omega) A1 B1 p1 p2 (by omega);rw[show((0:Nat):Int)=0 from rfl] at e1;refine⟨A',B',e1.trans g1,g2,g3,fun x=>?_,fun x=>?_,by omega⟩
  ·rw[g4,p3,bt8,bu8 hn];unfold FZ
   grind
  ·rw[g5,p4,bt8,bu8 hn];unfold GL
   grind
structure Sm(ls sm:List Lf):Prop where
 sub:∀l,l∈ls->l∈sm
 ok:∀l,l∈sm->kR l
 ln:sm.length<=12000
theorem og(F:Nat)(is bg:List bb)(hi:jD is)(hb:jD bg)(hF:200000000<=F)(hl1:is.length<=600000)(hl2:bg.length<=600000)(k:List bb->Option (List bb)):∀(l acc:List bb),(∀p,p∈l->qf p)->acc.length+l.length<=10000000->
  ∃fs,ii F is bg k l acc=k (acc++fs)/\fs.length<=l.length/\(∀p,p∈l->(∃t,dT is bg p t/\t∈fs)\/∀t,¬dT is bg p t)/\∀x,x∈fs->∃p,dT is bg p x
 |[],acc,_,_=>⟨[],by rw[ii];simp,ae9 _,by simp,by simp⟩
 |p::l,acc,h,hl=>by
  simp only[bx9] at hl;rw[ii];rcases Jk F p bg is hb hi (by omega) (by omega) (by omega) (by omega) (h p (by simp)) with ⟨t,e,hf⟩|⟨e,hf⟩
  ·obtain⟨fs,g1,g2,g3,g4⟩:=og F is bg hi hb hF hl1 hl2 k l (acc++[t]) (fun q hq=>h q (by simp[hq])) (by simp;omega);refine⟨t::fs,?_,by simp;omega,fun q hq=>?_,fun x hx=>?_⟩
   ·rw[e,by8,aH]
    grind
   ·grind
   grind
  ·obtain⟨fs,g1,g2,g3,g4⟩:=og F is bg hi hb hF hl1 hl2 k l acc (fun q hq=>h q (by simp[hq])) (by omega);refine⟨fs,?_,by simp;omega,fun q hq=>?_,g4⟩
   ·simp_all[aH]
   grind
theorem Jp(F:Nat)(ls:List Lf)(hF:200000000<=F)(hlo:∀l,l∈ls->kR l)(hlen:ls.length<=1500000){sm:List Lf}(hsm:Sm ls sm):
  ∃is bg out,A7 F (ls.map Lf.row)=some out/\(∀x,x∈is<->FZ ls x)/\(∀x,x∈bg<->GL ls x)/\G3 is bg out/\out.length<=1300000:=by
 unfold A7;rw[aH,bj9,show(((ls.length:Nat):Int)).toNat=ls.length by omega];obtain⟨is,bg,e,h1,h2,h3,h4,h5⟩:=tI F ls (fun(l3:List B8) (l4:List B8)=>if l3.length*16<=140737488355328 then (xv F l4 ([]:B8)).bind fun y55=>jn (fun(l58:List B8)=>some l58) (fun k57=>ii F l3 l4 k57 y55 l3) else none) hF (fun l hl=>(hlo l hl).len) ls.length 0 (by omega) [] [] (by simp) (by simp) (by simp;omega);simp only[bs9,ce9,bt8,List.not_mem_nil,false_or] at h3 h4 h5;rw[show((0:Nat):Int)=0 from rfl] at e
 have hU:(sm.flatMap Lf.tx).length<=600000:=by
  have:=oF Lf.tx 50 sm fun l hl=>(hsm.ok l hl).len;have:=hsm.ln;omega
 have hi6:is.length<=600000:=bw9 (iw (h1.imp nr) fun x hx=>by
  obtain⟨l,hl,_,hx⟩:=(h3 x).1 hx;exact ac8.2 ⟨l,hsm.sub l hl,hx⟩) hU
 have hb6:bg.length<=600000:=bw9 (iw (h2.imp nr) fun x hx=>by
  obtain⟨l,hl,_,hx⟩:=(h4 x).1 hx;exact ac8.2 ⟨l,hsm.sub l hl,hx⟩) hU
 obtain⟨b2,e2,q1,q2,q3⟩:=rG F bg [] (by omega) h2 (by omega)
 have hbo:∀b,b∈bg->qf b:=fun b hb=>by
  obtain⟨l,hl,_,hx⟩:=(h4 b).1 hb;exact(hlo l hl).tx b hx
 have h0:qf []:=⟨by simp,by simp⟩;obtain⟨fs,g1,g2,g3,g4⟩:=og F is bg h1 h2 hF (by omega) (by omega) (fun l58=>some l58) b2 is (fun p hp=>((q2 p).1 hp).elim (fun e=>e ▸ h0) (hbo p)) (by omega);refine⟨is,bg,is++fs,?_,h3,h4,⟨fun e he=>ch8 _ he,fun p hp=>?_,fun x hx=>?_⟩,by grind⟩
 ·rw[e,if_pos (by omega),e2,by8,aH];exact g1
 ·grind
 ·rcases bz8.1 hx with hx|hx
  ·grind
  ·obtain⟨p,hp⟩:=g4 x hx;exact .inr hp.ok
abbrev AU(l:List Int):Prop:=l.Pairwise (fun a b=>a<b)
theorem tE(F:Nat)(a:List Int)(x:Int)(ha:AU a)(hl:a.length<=10000000):∀(m j:Nat),j+m=a.length->(∀y,y∈a.take j->y<x)->
  ∃out,jl F a x (fun(l4:List Int)=>if (l4++([x]:List Int)).length*8<=140737488355328 then some (l4++([x]:List Int)) else none) (a.drop j) (j:Int) (a.take j)=some out/\AU out/\(∀y,y∈out<->y=x\/y∈a)/\out.length<=a.length+1
 |0,j,hj,h=>by
  rw[al8 (by omega),jl,List.take_of_length_le (by omega),if_pos (by simp;omega)]
  grind
 |m+1,j,hj,h=>by
  have hn:j<a.length:=by omega
  rw[bu8 hn,jl];by_cases e:a[j]=x
  ·grind
  ·rw[if_neg (by grind),bQ hn,by8];by_cases hg:a[j]>x
   ·rw[if_pos (decide_eq_true hg),if_pos (by simp;omega),show((j:Int)).toNat=j from rfl,if_pos ⟨by omega,by omega⟩,if_pos (by simp;omega)];refine⟨_,rfl,?_,fun y=>?_,by simp;omega⟩
    ·have hgt:∀y,y∈a.drop j->x<y:=fun y hy=>by
      obtain⟨q,hq,e⟩:=bj8 hy;rw[List.getElem_drop] at e;rw[am8] at hq;by_cases h0:q=0
      ·grind
      ·have:=aw9.1 ha j (j+q) hn (by omega) (by omega);omega
     grind
    ·rw[bz8,bz8,bn9]
     grind [List.take_append_drop]
   ·rw[if_neg (by grind),by8,if_pos (by grind),<-List.take_succ_eq_append_getElem hn,show((j:Int)+1)=((j+1:Nat):Int) from rfl];refine tE F a x ha hl m (j+1) (by omega) fun y hy=>?_
    grind [List.take_succ_eq_append_getElem]
theorem Jj(F:Nat)(a:List Int)(x:Int)(ha:AU a)(hl:a.length<=10000000):∃out,Hh F a x=some out/\AU out/\(∀y,y∈out<->y=x\/y∈a)/\out.length<=a.length+1:=by
 unfold Hh;rw[aH];have:=tE F a x ha hl a.length 0 (by omega) (by simp)
 grind
def CH(ls:List Lf)(x:Int):Prop:=∃l,l∈ls/\l.k=5/\l.n=x
theorem oe(F:Nat)(ls:List Lf)(k:List Int->Option (List Int)):∀(m j:Nat),j+m=ls.length->∀A:List Int,AU A->A.length+m<=10000000->
  ∃A',jo F (ls.map Lf.row) k ((ls.drop j).map Lf.row) (j:Int) A=k A'/\AU A'/\(∀x,x∈A'<->x∈A\/CH (ls.drop j) x)/\A'.length<=A.length+m
 |0,j,hj,A,hA,hl=>by
  grind [jo,CH]
 |m+1,j,hj,A,hA,hl=>by
  have hn:j<ls.length:=by omega
  rw[bu8 hn,bm9,jo];simp only[sF hn,Lf.dec,by8,aH];rw[show ls[j].t.Kind=ls[j].k from rfl,show ls[j].t.N=ls[j].n from rfl];by_cases k5:ls[j].k=5
  ·rw[if_pos (by grind)];obtain⟨A1,e1,p1,p2,p3⟩:=Jj F A ls[j].n hA (by omega);obtain⟨A',g1,g2,g3,g4⟩:=oe F ls k m (j+1) (by omega) A1 p1 (by omega);refine⟨A',by grind,g2,fun x=>?_,by omega⟩;rw[g3,p2];unfold CH
   grind
  ·rw[if_neg (by grind)];obtain⟨A',g1,g2,g3,g4⟩:=oe F ls k m (j+1) (by omega) A hA (by omega);refine⟨A',g1,g2,fun x=>?_,by omega⟩;rw[g3];unfold CH
   grind
def zC:Option Int->List Int->List Int
 |_,[]=>[]
 |p,x::r=>(if -1000000000000<=x - 1/\(∀q,p=some q->q<x - 1) then [x - 1] else [])++x::zC (some x) r
theorem BE:∀(l:List Int) (p:Option Int),(zC p l).length<=2*l.length
 |[],p=>by simp[zC]
 |x::r,p=>by
  have:=BE r (some x);rw[zC,bi8,bx9,bx9];split<;>simp<;>omega
theorem Ad:∀(l:List Int) (p:Option Int) (x:Int),x∈l->x∈zC p l
 |y::r,p,x,h=>by
  rw[zC];rcases as9.1 h with e|h
  ·subst e;simp
  ·exact List.mem_append_right _ (by9 _ (Ad r (some y) x h))
theorem FD:∀(l:List Int) (p:Option Int),(∀x,x∈l->jT x)->∀y,y∈zC p l->jT y
 |[],p,h,y,hy=>by simp[zC] at hy
 |x::r,p,h,y,hy=>by
  rw[zC] at hy;have hx:=h x (by simp);unfold jT at hx;rcases bz8.1 hy with hy|hy
  ·split at hy
   ·rename_i hc;simp only[bn9] at hy;rw[hy];exact⟨hc.1,by omega⟩
   ·simp at hy
  ·rcases as9.1 hy with e|hy
   ·rw[e];exact hx
   ·exact FD r (some x) (fun z hz=>h z (by simp[hz])) y hy
theorem BD:∀(l:List Int) (p:Option Int),AU l->(∀q,p=some q->∀x,x∈l->q<x)->∀x,x∈l->jT (x - 1)->x - 1∈zC p l\/p=some (x - 1)
 |y::r,p,hs,hp,x,hx,ho=>by
  rw[zC];rcases as9.1 hx with e|hx
  ·subst e;by_cases hc : -1000000000000<=x - 1/\∀q,p=some q->q<x - 1
   ·grind
   ·right
    cases p with
    |none=>exact absurd ⟨ho.1,fun q hq=>by cases hq⟩ hc
    |some q=>
     have h1:=hp q rfl x (by simp);have h2:¬q<x - 1:=fun h=>hc ⟨ho.1,fun q' hq=>by grind⟩
     grind
  ·left
   have hs':=List.pairwise_cons.1 hs;rcases BD r (some y) hs'.2 (fun q hq=>by cases hq;exact hs'.1) x hx ho with h|h
   ·exact List.mem_append_right _ (by9 _ h)
   ·have:y=x - 1:=ah8 h;rw[<-this];simp
theorem tH(F:Nat)(l3:List Int)(hok:∀x,x∈l3->jT x)(hl:l3.length<=10000000)(k:List Int->Option (List Int)):∀(m j:Nat),j+m=l3.length->∀A:List Int,A.length+2*m<=100000000->
  gy F l3 k (l3.drop j) (j:Int) A=k (A++zC (if j=0 then none else l3[j - 1]?) (l3.drop j))
 |0,j,hj,A,hA=>by
  simp_all[gy,zC]
 |m+1,j,hj,A,hA=>by
  have hn:j<l3.length:=by omega
  have hx:=hok l3[j] (bc9 _);unfold jT at hx;have hw:bE (l3[j] - 1)=l3[j] - 1:=cS (by omega) (by omega);have ih:=fun A hA=>tH F l3 hok hl k m (j+1) (by omega) A hA;rw[if_neg (by omega),bv8,az9 hn,show((j+1:Nat):Int)=(j:Int)+1 from rfl] at ih;rw[bu8 hn,gy,aH,hw,zC]
  have fin:∀B:List Int,B.length<=1->(∀C:List Int,C=A++(B++[l3[j]])->gy F l3 k (l3.drop (j+1)) ((j:Int)+1) C=k (A++(B++l3[j]::zC (some l3[j]) (l3.drop (j+1))))):=by
   intro B hB C hC;rw[hC,ih _ (by simp;omega)];simp
  by_cases h1:l3[j] - 1 ≥ -1000000000000
  ·rw[if_pos (decide_eq_true h1)];by_cases h0:j=0
   ·rw[if_pos (by simp[h0]),if_pos (by simp;omega),bQ hn,by8,if_pos (by simp;omega)];rw[if_pos (⟨h1,fun q hq=>by grind⟩:_/\_)]
    grind
   ·have hj1:bE ((j:Int) - 1)=((j - 1:Nat):Int):=by rw[cS (by omega) (by omega)];omega
    rw[if_neg (by simp;omega),hj1,bQ (show j - 1<l3.length by omega),by8,aH,bQ hn,if_neg h0,az9 (show j - 1<l3.length by omega)];simp only[by8];by_cases h2:l3[j - 1]<l3[j] - 1
    ·rw[if_pos (decide_eq_true h2),if_pos (by simp;omega),if_pos (by simp;omega)];rw[if_pos (⟨h1,fun q hq=>by grind⟩:_/\_)]
     grind
    ·rw[if_neg (by grind),if_pos (by simp;omega)];rw[if_neg (fun hc=>h2 (hc.2 _ rfl))]
     grind
  ·rw[if_neg (by grind),bQ hn,by8,if_pos (by simp;omega)]
   grind
structure LY(ns out:List Int):Prop where
 h0:∃z,z∈out
 h1:∀n,n∈ns->n∈out
 h2:∀n,n∈ns->jT (n - 1)->n - 1∈out
 h3:∀m,m∈ns->(∀n,n∈ns->n<=m)->jT (m+1)->m+1∈out
 ok:∀x,x∈out->jT x
theorem Jo(F:Nat)(ls:List Lf)(hlo:∀l,l∈ls->kR l)(hlen:ls.length<=1500000){sm:List Lf}(hsm:Sm ls sm):
  ∃ns out,xr F (ls.map Lf.row)=some out/\(∀x,x∈ns<->CH ls x)/\LY ns out/\out.length<=30000:=by
 unfold xr;rw[aH];obtain⟨ns,e,h1,h2,h3⟩:=oe F ls (fun(l3:List Int)=>if (((l3.length:Nat):Int)==0)=true then some ([0]:List Int)
 else jn (fun(l25:List Int)=>(ct l3 (bE (((l3.length:Nat):Int) - 1))).bind fun x54=>jn (fun(l57:List Int)=>some l57) (fun k56=>if (decide ((bE (x54+1))<=1000000000000))=true then if (l25++([(bE (x54+1))]:List Int)).length*8<=140737488355328 then k56 (l25++([(bE (x54+1))]:List Int)) else none
 else k56 l25)) (fun k24=>gy F l3 k24 l3 0 ([]:List Int))) ls.length 0 (by omega) [] (by simp) (by simp;omega)
 simp only[bs9,ce9,bt8,List.not_mem_nil,false_or] at h2 h3;rw[bt8,show((0:Nat):Int)=0 from rfl] at e
 have hok:∀x,x∈ns->jT x:=fun x hx=>by
  obtain⟨l,hl,h5,e⟩:=(h2 x).1 hx;exact e ▸ (hlo l hl).n h5
 have hn6:ns.length<=12000:=by
  have q:=iw (m:=sm.map Lf.n) (h1.imp fun h=>Int.ne_of_lt h) fun x hx=>by
   obtain⟨l,hl,_,e⟩:=(h2 x).1 hx;exact bf9.2 ⟨l,hsm.sub l hl,e⟩
  rw[bj9] at q;exact bw9 q hsm.ln
 refine⟨ns,?_⟩;rw[e];by_cases h0:ns=[]
 ·subst h0;exact⟨[0],rfl,h2,⟨⟨0,by simp⟩,by simp,by simp,by simp,fun x hx=>by simp only[bn9] at hx;subst hx;exact⟨by omega,by omega⟩⟩,by simp⟩
 ·have hpos:0<ns.length:=bd8.2 h0;rw[if_neg (by grind),aH];have hL2:=tH F ns hok (by omega) (fun(l25:List Int)=>(ct ns (bE (((ns.length:Nat):Int) - 1))).bind fun x54=>jn (fun(l57:List Int)=>some l57) (fun k56=>if (decide ((bE (x54+1))<=1000000000000))=true then if (l25++([(bE (x54+1))]:List Int)).length*8<=140737488355328 then k56 (l25++([(bE (x54+1))]:List Int)) else none
 else k56 l25)) ns.length 0 (by omega) [] (by simp;omega)
  rw[bt8,if_pos rfl,ad9,show((0:Nat):Int)=0 from rfl] at hL2;rw[hL2];have hw:bE (((ns.length:Nat):Int) - 1)=((ns.length - 1:Nat):Int):=by rw[cS (by omega) (by omega)];omega
  have hll:ns.length - 1<ns.length:=by omega
  rw[hw,bQ hll,by8,aH];have hlast:=hok _ (bc9 hll);have hlast':=hlast;unfold jT at hlast';have hw2:bE (ns[ns.length - 1]+1)=ns[ns.length - 1]+1:=cS (by omega) (by omega);rw[hw2];have hnl:=BE ns none
  have key:∀ex:List Int,(∀x,x∈ex->jT x)->(jT (ns[ns.length - 1]+1)->ns[ns.length - 1]+1∈ex)->LY ns (zC none ns++ex):=by
   intro ex h1' h2';refine⟨⟨ns[ns.length - 1],ch8 _ (Ad _ _ _ (bc9 _))⟩,fun n hn=>ch8 _ (Ad _ _ _ hn),fun n hn ho=>?_,fun m hm hmax ho=>?_,fun x hx=>?_⟩
   ·grind [BD]
   ·have hme:m=ns[ns.length - 1]:=by
     obtain⟨i,hi,e⟩:=bj8 hm;have h5:=hmax _ (bc9 hll);rcases bs8 i (ns.length - 1) with h6|h6
     ·have:=aw9.1 h1 i (ns.length - 1) hi hll h6;omega
     ·grind
    grind
   ·grind [FD]
  by_cases hc:ns[ns.length - 1]+1<=1000000000000
  ·rw[if_pos (decide_eq_true hc),if_pos (by simp;omega)];exact⟨_,rfl,h2,key [ns[ns.length - 1]+1] (fun x hx=>by simp only[bn9] at hx;subst hx;exact⟨by omega,hc⟩) (fun _=>by simp),by simp;omega⟩
  ·rw[if_neg (by grind)];have:=key [] (by simp) fun ho=>absurd ho.2 hc
   grind
def fz:Fd:=⟨false,false,[],0⟩
def ft(t:bb):Fd:=⟨true,false,t,0⟩
def fn(n:Int):Fd:=⟨false,true,[],n⟩
def fb(t:bb)(n:Int):Fd:=⟨true,true,t,n⟩
section
variable(F:Nat)(k:List Fd->Option (List Fd))
theorem dS:∀(l:List bb) (acc:List Fd),acc.length+l.length<=100000000000->cZ F k l acc=k (acc++l.map ft)
 |[],acc,_=>by rw[cZ];simp
 |x::l,acc,h=>by
  simp only[bx9] at h;rw[cZ,if_pos (by simp;omega),dS l _ (by simp;omega)];simp[ft]
theorem dR:∀(l:List Int) (acc:List Fd),acc.length+l.length<=100000000000->cY F k l acc=k (acc++l.map fn)
 |[],acc,_=>by rw[cY];simp
 |x::l,acc,h=>by
  simp only[bx9] at h;rw[cY,if_pos (by simp;omega),dR l _ (by simp;omega)];simp[fn]
theorem tM(ts:List bb)(ns:List Int)(i:Nat)(hi:i<ts.length):∀(m j:Nat),j+m=ns.length->∀acc:List Fd,acc.length+m<=1000000000000->jq F ts ns (i:Int) k m (j:Int) acc=k (acc++(ns.drop j).map (fb ts[i]))
 |0,j,hj,acc,_=>by simp_all[jq]
 |m+1,j,hj,acc,h=>by
  have hn:j<ns.length:=by omega
  rw[jq,bQ hi,by8,bQ hn,by8,if_pos (by simp;omega),show((j:Int)+1)=((j+1:Nat):Int) from rfl,tM ts ns i hi m (j+1) (by omega) _ (by simp;omega),bu8 hn,bm9,cb9,List.singleton_append];rfl
theorem oj(ts:List bb)(ns:List Int):∀(m i:Nat),i+m=ts.length->∀acc:List Fd,acc.length+m*ns.length<=1000000000000->ip F ts ns k m (i:Int) acc=k (acc++(ts.drop i).flatMap fun t=>ns.map (fb t))
 |0,i,hi,acc,_=>by simp_all[ip]
 |m+1,i,hi,acc,h=>by
  have hn:i<ts.length:=by omega
  have h4:=tM F (fun l42=>(fun l40=>ip F ts ns k m ((i:Int)+1) l40) l42) ts ns i hn ns.length 0 (by omega) acc (by rw[am9] at h;omega);rw[show((0:Nat):Int)=0 from rfl,bt8] at h4;rw[ip,aH,aH,show(((ns.length:Nat):Int)).toNat=ns.length by omega];refine h4.trans ?_;dsimp only;rw[show((i:Int)+1)=((i+1:Nat):Int) from rfl,oj ts ns m (i+1) (by omega) _ (by rw[bi8,bj9];rw[am9] at h;omega),bu8 hn,ab8,cb9]
end
def lm(a b c:Bool)(ts:List bb)(ns:List Int):List Fd:=
 fz::((if (a||c)=true then ts.map ft else [])++((if (b||c)=true then ns.map fn else [])++(if (a&&b)=true then ts.flatMap fun t=>ns.map (fb t) else [])))
theorem JA(F:Nat)(ls:List Lf)(ts:List bb)(ns:List Int)(h1:A7 F (ls.map Lf.row)=some ts)(h2:xr F (ls.map Lf.row)=some ns)(hl1:ts.length<=1300000)(hl2:ns.length<=30000):
  zx F (ls.map Lf.row)=some (lm (uT ls) (uN ls) (uH ls) ts ns):=by
 unfold zx;have hm:ts.length*ns.length<=1300000*30000:=Nat.mul_le_mul hl1 hl2;rw[LZ,by8,h1,h2];simp only[by8,aH];unfold lm;cases uT ls<;>cases uN ls<;>cases uH ls<;>simp only[cj8,if_false,if_true,Bool.or_false,Bool.or_true,Bool.and_false,Bool.and_true,Bool.false_and,Bool.true_or,Bool.false_or,Bool.or_self,Bool.and_self,ah9]
 ·simp_all[dS,dR,fz]
 ·grind [dS,dR,fz]
 ·grind [dS,dR,fz]
 ·grind [dS,dR,fz]
 ·grind [dS,dR,fz]
 ·grind [dS,dR,fz]
 ·rw[dS F _ ts _ (by grind)];rw[dR F _ ns _ (by grind)];rw[show(((ts.length:Nat):Int)).toNat=ts.length by omega];have:=oj F (fun l33=>some l33) ts ns ts.length 0 (by omega) ([(⟨false,false,[],0⟩:Fd)]++ts.map ft++ns.map fn) (by simp;omega)
  simp_all[fz]
 ·rw[dS F _ ts _ (by grind)];rw[dR F _ ns _ (by grind)];rw[show(((ts.length:Nat):Int)).toNat=ts.length by omega];have:=oj F (fun l33=>some l33) ts ns ts.length 0 (by omega) ([(⟨false,false,[],0⟩:Fd)]++ts.map ft++ns.map fn) (by simp;omega)
  simp_all[fz]
def rsb(ls:List Lf)(is bg:List bb)(ns:List Int):ae:=⟨is,bg,ns,uT ls,uN ls,uH ls,0⟩
theorem K4{ls:List Lf}{is bg:List bb}{ns:List Int}(hi:∀x,x∈is<->FZ ls x)(hb:∀x,x∈bg<->GL ls x)(hn:∀x,x∈ns<->CH ls x){l:Lf}(hl:l∈ls)(ho:kR l):CP (rsb ls is bg ns) l:=by
 have hk:=ho.k;have hT:l.k=2\/l.k=3->uT ls=true:=fun h=>cf9.2 ⟨l,hl,by grind⟩;by_cases k2:l.k=2
 ·exact .inl ⟨k2,fun e he=>(hi e).2 ⟨l,hl,k2,he⟩,hT (.inl k2)⟩
 by_cases k3:l.k=3
 ·exact .inr (.inl ⟨k3,fun e he=>(hb e).2 ⟨l,hl,k2,he⟩,hT (.inr k3)⟩)
 by_cases k4:l.k=4
 ·exact .inr (.inr (.inl ⟨k4,cf9.2 ⟨l,hl,by simp[k4]⟩⟩))
 ·have k5:l.k=5:=by omega
  exact .inr (.inr (.inr ⟨k5,(hn _).2 ⟨l,hl,k5,Y⟩,cf9.2 ⟨l,hl,by simp[k5]⟩⟩))
theorem Iv{ls:List Lf}{is bg ts:List bb}{nn ns:List Int}(ht:G3 is bg ts)(hn:LY nn ns)(hnn:∀n,n∈nn->jT n)(v:Fd)(hv:zA v):
  ∃c,c∈lm (uT ls) (uN ls) (uH ls) ts ns/\vh (rsb ls is bg nn) c v:=by
 have hT:v.isText=true->∃t,t∈ts/\zj is bg t v.text:=fun h=>xZ ht.hi ht.hb v.text (hv.1 h);have hN:v.isNumber=true->∃y,y∈ns/\tw nn y v.number:=fun h=>Bw hn.h0 hn.h1 hn.h2 hn.h3 hnn v.number (hv.2 h)
 have mk:∀(a b c:Bool),∃x,x∈lm a b c ts ns/\(a=true->x.isText=v.isText/\(x.isText=true->zj is bg x.text v.text))/\(b=true->x.isNumber=v.isNumber/\(x.isNumber=true->tw nn x.number v.number))/\(c=true->(x.isText||x.isNumber)=(v.isText||v.isNumber)):=by
  intro a b c;cases hvt:v.isText with
  |true=>
   obtain⟨t,t1,t2⟩:=hT hvt
   have hft:(a||c)=true->ft t∈lm a b c ts ns:=fun h=>by
    simp_all[lm,bo8]
   cases hvn:v.isNumber with
   |true=>
    obtain⟨y,y1,y2⟩:=hN hvn
    have hfn:(b||c)=true->fn y∈lm a b c ts ns:=fun h=>by
     simp_all[lm,bo8]
    cases a with
    |true=>
     cases b with
     |true=>
      refine⟨fb t y,?_,fun _=>⟨Y,fun _=>t2⟩,fun _=>⟨Y,fun _=>y2⟩,fun _=>Y⟩;unfold lm
      grind
     |false=>grind [ft]
    |false=>
     cases b with
     |true=>grind [fn]
     |false=>
      cases c with
      |true=>grind [ft]
      |false=>simp_all[lm]
   |false=>
    cases hac:a||c with
    |true=>grind [ft]
    |false=>
     simp_all[fz,lm]
  |false=>
   cases hvn:v.isNumber with
   |true=>
    obtain⟨y,y1,y2⟩:=hN hvn
    have hfn:(b||c)=true->fn y∈lm a b c ts ns:=fun h=>by
     simp_all[lm,bo8]
    cases hbc:b||c with
    |true=>grind [fn]
    |false=>
     simp_all[fz,lm]
   |false=>simp_all[fz,lm]
 obtain⟨x,h1,h2,h3,h4⟩:=mk (uT ls) (uN ls) (uH ls);exact⟨x,h1,h2,h3,h4⟩
theorem Lp{a b c:Bool}{ts:List bb}{ns:List Int}(ht:∀x,x∈ts->qf x)(hn:∀x,x∈ns->jT x){x:Fd}(hx:x∈lm a b c ts ns):zA x:=by
 unfold lm at hx;rcases as9.1 hx with e|hx
 ·rw[e];exact⟨fun h=>(by cases h),fun h=>(by cases h)⟩
 rcases bz8.1 hx with hx|hx
 ·split at hx
  ·obtain⟨t,h,rfl⟩:=bf9.1 hx;exact⟨fun _=>ht t h,fun h=>(by cases h)⟩
  grind
 rcases bz8.1 hx with hx|hx
 ·split at hx
  ·obtain⟨n,h,rfl⟩:=bf9.1 hx;exact⟨fun h=>(by cases h),fun _=>hn n h⟩
  grind
 ·split at hx
  ·obtain⟨t,h,hx⟩:=ac8.1 hx;obtain⟨n,h2,rfl⟩:=bf9.1 hx;exact⟨fun _=>ht t h,fun _=>hn n h2⟩
  grind
structure Fds(ls:List Lf)(cs:List Fd):Prop where
 rep:∀v,zA v->∃c,c∈cs/\∀l,l∈ls->l.one c=l.one v
 ok:∀c,c∈cs->zA c
 ln:cs.length<=100000000000
theorem Jz(F:Nat)(ls:List Lf)(hF:200000000<=F)(hlo:∀l,l∈ls->kR l)(hlen:ls.length<=1500000){sm:List Lf}(hsm:Sm ls sm):∃cs,zx F (ls.map Lf.row)=some cs/\Fds ls cs:=by
 obtain⟨is,bg,ts,e1,a1,a2,a3,a4⟩:=Jp F ls hF hlo hlen hsm;obtain⟨nn,ns,e2,b1,b2,b3⟩:=Jo F ls hlo hlen hsm;refine⟨_,JA F ls ts ns e1 e2 a4 b3,⟨fun v hv=>?_,fun c hc=>?_,?_⟩⟩
 ·obtain⟨c,h1,h2⟩:=Iv (ls:=ls) a3 b2 (fun n hn=>by
   obtain⟨l,hl,h5,e⟩:=(b1 n).1 hn;exact e ▸ (hlo l hl).n h5) v hv
  exact⟨c,h1,fun l hl=>yd (K4 a1 a2 b1 hl (hlo l hl)) h2⟩
 ·refine Lp (fun x hx=>(a3.ok x hx).elim (fun h=>?_) id) b2.ok hc;obtain⟨l,hl,_,hx⟩:=(a1 x).1 h;exact(hlo l hl).tx x hx
 ·have hm:ts.length*ns.length<=1300000*30000:=Nat.mul_le_mul a4 b3;have hfm:(ts.flatMap fun t=>ns.map (fb t)).length<=ts.length*ns.length:=oF _ _ _ fun x _=>by grind
  grind [lm]
def kv:Option Bool->Int
 |none=>2
 |some true=>1
 |some false=>0
structure Kb(ns:List bb)(S:List Bool)(I:List Fd)(s:bb->Option Fd):Prop where
 l1:S.length=ns.length
 l2:I.length=ns.length
 at_:∀(i:Nat) (h:i<ns.length),s ns[i]=if S[i]'(by omega)=true then some (I[i]'(by omega)) else none
theorem xq(F:Nat)(b:Bool):Dt F b=some (kv (some b)):=by cases b<;>rfl
theorem Jy(tt:aV)(ns:List bb)(cans:List (List Fd))(S:List Bool)(I:List Fd)(s:bb->Option Fd)(hs:jD ns)(hlen:ns.length<=1000)(h:Kb ns S I s):
  ∀t:Tr,t.ok->t.gd->∀F,t.fu+2000<=F->(∀l,l∈t.lvs->l.nm∈ns)->uq F ⟨tt,ns,cans,S,I⟩ t.toT=some (kv (t.tr3 s)):=Tr.ind fun k nm tx op n ks ih ok hz F hF hm=>by
 rw[Tr.fu] at hF;have hfl:=(g8 hz).2;obtain⟨F,rfl⟩:∃G,F=G+1:=⟨F - 1,by omega⟩
 show tL (uq F) F ⟨tt,ns,cans,S,I⟩ (Tr.mk k nm tx op n ks).toT=_
 have hkk:=BP hz;have hkids:=(Tr.okks ok).2
 have hm':¬(2<=k/\k<=5)->∀t,t∈ks->∀l,l∈t.lvs->l.nm∈ns:=fun hk t ht l hl=>hm l (by
  rw[Tr.lvs];by_cases h1:k=1
  ·grind [Gd]
  ·rw[if_neg h1,if_pos (by omega)];exact iJ.2 ⟨t,ht,hl⟩)
 have hkid:¬(2<=k/\k<=5)->∀t,t∈ks->uq F ⟨tt,ns,cans,S,I⟩ t.toT=some (kv (t.tr3 s)):=fun hk t ht=>ih t ht (Tr.oks_mem (Tr.okks ok).1 ht) (mM hfl ht) F (by have:=Tr.fu_mem ht;omega) (hm' hk t ht)
 have hall:¬(2<=k/\k<=5)->∀(m j:Nat),j+m=ks.length->∀A:Option Bool,A≠some false->eN (uq F) F ⟨tt,ns,cans,S,I⟩ (Tr.mk k nm tx op n ks).toT 0 (fun n20=>some n20) m (j:Int) (kv A)=some (kv (G1 A (Tr.all3 s (ks.drop j)))):=by
  intro hk m
  induction m with
  |zero=>
   intro j hj A hA;rw[eN,al8 (by omega),Tr.all3];cases A with
   |none=>rfl
   |some b=>cases b<;>rfl
  |succ m ihm=>
   intro j hj A hA;have hn:j<ks.length:=by omega
   have hix:ct (Tr.mk k nm tx op n ks).toT.Kids (j:Int)=some ks[j].toK:=gF hn;rw[eN,hix,by8,Tr.dec,by8,hkid hk _ (bc9 _),by8,bu8 hn,Tr.all3,aH];have hr:=fun B hB=>ihm (j+1) (by omega) B hB;rw[show((j+1:Nat):Int)=(j:Int)+1 from rfl] at hr;cases ks[j].tr3 s with
   |none=>
    show eN _ _ _ _ _ _ _ _ 2=_
    rw[show(2:Int)=kv none from rfl,hr none (by simp)];cases A with
    |none=>cases Tr.all3 s (ks.drop (j+1)) with
     |none=>rfl
     |some b=>cases b<;>rfl
    |some a=>cases a with
     |false=>grind
     |true=>rfl
   |some b=>
    cases b with
    |false=>
     cases A with
     |none=>rfl
     |some a=>cases a with
      |false=>grind
      |true=>rfl
    |true=>exact hr A hA
 have hany:¬(2<=k/\k<=5)->∀(m j:Nat),j+m=ks.length->∀A:Option Bool,A≠some true->eN (uq F) F ⟨tt,ns,cans,S,I⟩ (Tr.mk k nm tx op n ks).toT 1 (fun n20=>some n20) m (j:Int) (kv A)=some (kv (M5 A (Tr.any3 s (ks.drop j)))):=by
  intro hk m
  induction m with
  |zero=>
   intro j hj A hA;rw[eN,al8 (by omega),Tr.any3];cases A with
   |none=>rfl
   |some b=>cases b<;>rfl
  |succ m ihm=>
   intro j hj A hA;have hn:j<ks.length:=by omega
   have hix:ct (Tr.mk k nm tx op n ks).toT.Kids (j:Int)=some ks[j].toK:=gF hn;rw[eN,hix,by8,Tr.dec,by8,hkid hk _ (bc9 _),by8,bu8 hn,Tr.any3,aH];have hr:=fun B hB=>ihm (j+1) (by omega) B hB;rw[show((j+1:Nat):Int)=(j:Int)+1 from rfl] at hr;cases ks[j].tr3 s with
   |none=>
    show eN _ _ _ _ _ _ _ _ 2=_
    rw[show(2:Int)=kv none from rfl,hr none (by simp)];cases A with
    |none=>cases Tr.any3 s (ks.drop (j+1)) with
     |none=>rfl
     |some b=>cases b<;>rfl
    |some a=>cases a with
     |true=>grind
     |false=>rfl
   |some b=>
    cases b with
    |true=>
     cases A with
     |none=>rfl
     |some a=>cases a with
      |true=>grind
      |false=>rfl
    |false=>exact hr A hA
 have hleaf:(2<=k/\k<=5)->((zw F ns nm).bind fun y37=>(ct S (y37.1)).bind fun x39=>if (!x39)=true then some 2
 else (ct I (y37.1)).bind fun x42=>(A9 F (Tr.mk k nm tx op n ks).toT x42).bind fun y44=>(Dt F y44).bind fun y46=>some y46)=some (kv ((s nm).map (gZ k op n tx))):=by
  intro hk;have hnm:nm∈ns:=hm ⟨k,nm,tx,op,n⟩ (by rw[Tr.lvs,if_neg (by omega),if_neg (by omega)];simp);obtain⟨p,hp,e,_,_,h3⟩:=xu F ns nm (by omega) hs (by omega);obtain⟨hpl,hpe⟩:=bd9.1 (h3 hnm);have hat:=h.at_ p hpl;rw[hpe] at hat;have hS:p<S.length:=by rw[h.l1];exact hpl
  have hI:p<I.length:=by rw[h.l2];exact hpl
  rw[e,by8];dsimp only;rw[bQ hS,by8,hat];cases hb:S[p] with
  |false=>rfl
  |true=>
   have htx:tx.length<=9223372036854775807:=(Tr.okX ok).2.2.1;rw[if_neg (by simp),bQ hI,by8,Co F _ _ htx (show tx.length<F by omega),by8,xq,by8,if_pos rfl];rfl
 unfold tL;simp only[aH];have hK:(Tr.mk k nm tx op n ks).toT.Kind=k:=rfl;have hKl:(Tr.mk k nm tx op n ks).toT.Kids.length=ks.length:=Tr.toKs_len ks;rw[hK,hKl,Tr.tr3];have hk':k=1\/(2<=k/\k<=5)\/k=6\/k=7\/k=8:=by omega
 rcases hk' with e|e|e|e|e
 ·subst e;rfl
 ·have f1:¬((k==1)=true):=by rw[beq_iff_eq];omega
  have f6:¬((k==6)=true):=by rw[beq_iff_eq];omega
  have f7:¬((k==7)=true):=by rw[beq_iff_eq];omega
  have f8:¬((k==8)=true):=by rw[beq_iff_eq];omega
  rw[if_neg f1,if_neg f6,if_neg f7,if_neg f8,if_neg (by omega),if_neg (by omega),if_neg (by omega),if_neg (by omega)];exact hleaf e
 ·subst e;have hk:¬(2<=(6:Int)/\(6:Int)<=5):=by omega
  rw[if_neg (by decide),if_pos (by decide),if_neg (by decide),if_pos rfl];have h1:ks.length=1:=Ln hz rfl;obtain⟨t,rfl⟩:=List.length_eq_one_iff.1 h1;have hix:ct (Tr.mk 6 nm tx op n [t]).toT.Kids 0=some (t.toK):=gF (ks:=[t]) (n:=0) (by simp);rw[hix,by8,Tr.dec,by8,hkid hk t (by simp),by8,Tr.all3,Tr.all3];cases t.tr3 s with
  |none=>rfl
  |some b=>cases b<;>rfl
 ·subst e;have hk:¬(2<=(7:Int)/\(7:Int)<=5):=by omega
  have:=hall hk ks.length 0 (by omega) (some true) (by simp);rw[bt8] at this;rw[if_neg (by decide),if_neg (by decide),if_pos (by decide),if_pos (by decide),if_neg (by decide),if_neg (by decide),if_pos rfl,xq,by8,if_pos (by omega),show(((ks.length:Nat):Int)).toNat=ks.length by omega];exact this
 ·subst e;have hk:¬(2<=(8:Int)/\(8:Int)<=5):=by omega
  have:=hany hk ks.length 0 (by omega) (some false) (by simp);rw[bt8] at this;rw[if_neg (by decide),if_neg (by decide),if_neg (by decide),if_pos (by decide),if_neg (by decide),if_neg (by decide),if_neg (by decide),if_pos rfl,xq,by8,if_pos (by omega),show(((ks.length:Nat):Int)).toNat=ks.length by omega];exact this
theorem tK(F:Nat)(tt:aV)(ns:List bb)(cans:List (List Fd))(S:List Bool)(I:List Fd)(h1:S.length=ns.length)(h2:I.length=ns.length)(k:Int->Int->Option Bool):∀(m j:Nat),j+m=ns.length->∀a b:Nat,a+m<=1000->b+m<=1000->
  ∃a' b':Nat,jp F ⟨tt,ns,cans,S,I⟩ k m (j:Int) (a:Int) (b:Int)=k (a':Int) (b':Int)/\a'<=a+m/\b'<=b+m
 |0,j,hj,a,b,_,_=>⟨a,b,by rw[jp],by omega,by omega⟩
 |m+1,j,hj,a,b,ha,hb=>by
  have hS:j<S.length:=by omega
  have hI:j<I.length:=by omega
  have wa:bE ((a:Int)+1)=((a+1:Nat):Int):=by rw[cS (by omega) (by omega)];rfl
  have wb:bE ((b:Int)+1)=((b+1:Nat):Int):=by rw[cS (by omega) (by omega)];rfl
  have ih:=fun a b ha hb=>tK F tt ns cans S I h1 h2 k m (j+1) (by omega) a b ha hb;rw[show((j+1:Nat):Int)=(j:Int)+1 from rfl] at ih;rw[jp];simp only[bQ hS,bQ hI,by8,aH,wa,wb];split
  ·split
   ·split
    ·obtain⟨x,y,e,p,q⟩:=ih (a+1) (b+1) (by omega) (by omega);exact⟨x,y,e,by omega,by omega⟩
    ·obtain⟨x,y,e,p,q⟩:=ih (a+1) b (by omega) (by omega);exact⟨x,y,e,by omega,by omega⟩
   ·split
    ·obtain⟨x,y,e,p,q⟩:=ih a (b+1) (by omega) (by omega);exact⟨x,y,e,by omega,by omega⟩
    ·obtain⟨x,y,e,p,q⟩:=ih a b (by omega) (by omega);exact⟨x,y,e,by omega,by omega⟩
  ·obtain⟨x,y,e,p,q⟩:=ih a b (by omega) (by omega);exact⟨x,y,e,by omega,by omega⟩
theorem Cm(F:Nat)(tt:aV)(ns:List bb)(cans:List (List Fd))(S:List Bool)(I:List Fd)(h1:S.length=ns.length)(h2:I.length=ns.length)(hlen:ns.length<=30):Ho F ⟨tt,ns,cans,S,I⟩=some true:=by
 unfold Ho;rw[aH];dsimp only;rw[if_pos (by omega),show(((ns.length:Nat):Int)).toNat=ns.length by omega];obtain⟨x,y,e,p,q⟩:=tK F tt ns cans S I h1 h2 (fun(n3:Int) (n4:Int)=>if (decide (n3<=30))=true then some (decide (n4<=30)) else some false) ns.length 0 (by omega) 0 0 (by omega) (by omega);rw[show((0:Nat):Int)=0 from rfl] at e;rw[e,if_pos (decide_eq_true (by omega)),decide_eq_true (by omega)]
theorem Kb.set{ns:List bb}{S:List Bool}{I:List Fd}{s:bb->Option Fd}(h:Kb ns S I s)(hn:ns.Nodup){j:Nat}(hj:j<ns.length)(x:Fd):Kb ns (S.set j true) (I.set j x) (om s ns[j] x):=by
 refine⟨by rw[an9];exact h.l1,by rw[an9];exact h.l2,fun i hi=>?_⟩;unfold om;rw[List.getElem_set,List.getElem_set];by_cases e:j=i
 ·subst e;simp
 ·rw[if_neg (show ¬ns[i]=ns[j] from fun h=>e ((List.getElem_inj hn).1 h).symm),if_neg e,if_neg e];exact h.at_ i hi
theorem sR{α:Type}(p:α->Bool)(ns:List α):∀(m j:Nat),j+m=ns.length->
  ((ns.drop j).filter p=[]/\∀i (h:i<ns.length),j<=i->p ns[i]=false) ∨
  ∃(d:Nat) (h:j+d<ns.length),p ns[j+d]=true/\(∀i (h:i<ns.length),j<=i->i<j+d->p ns[i]=false)/\(ns.drop j).filter p=ns[j+d]::(ns.drop (j+d+1)).filter p
 |0,j,hj=>.inl ⟨by rw[al8 (by omega)];rfl,fun i h h2=>by omega⟩
 |m+1,j,hj=>by
  have hn:j<ns.length:=by omega
  rw[bu8 hn,aa8];cases hp:p ns[j] with
  |true=>exact .inr ⟨0,hn,hp,fun i h h1 h2=>by omega,by simp⟩
  |false=>
   rw[if_neg (by simp)];rcases sR p ns m (j+1) (by omega) with ⟨h1,h2⟩|⟨d,h,h1,h2,h3⟩
   ·refine .inl ⟨h1,fun i hi hle=>?_⟩;rcases Nat.lt_or_eq_of_le hle with h|h
    ·exact h2 i hi h
    ·subst h;exact hp
   ·refine .inr ⟨d+1,by omega,?_,fun i hi hle hlt=>?_,?_⟩
    ·simpa[show j+(d+1)=j+1+d by omega] using h1
    ·rcases Nat.lt_or_eq_of_le hle with h|h
     ·exact h2 i hi h (by omega)
     ·subst h;exact hp
    ·simpa[show j+(d+1)=j+1+d by omega] using h3
theorem vl(F:Nat)(S:List Bool)(k:Int->Option (Bool×(List Bool)×(List Fd)))(hl:S.length<=1000):∀(d j f:Nat) (h:j+d<S.length),d<f->(∀i (h:i<S.length),j<=i->i<j+d->S[i]=true)->S[j+d]=false->kG F S k f (j:Int)=k ((j+d:Nat):Int)
 |0,j,f,h,hf,_,h2=>by
  obtain⟨f,rfl⟩:∃g,f=g+1:=⟨f - 1,by omega⟩;rw[kG,bQ (show j<S.length by omega),by8,show S[j]=false from h2,if_neg (by simp)];rfl
 |d+1,j,f,h,hf,h1,h2=>by
  obtain⟨f,rfl⟩:∃g,f=g+1:=⟨f - 1,by omega⟩;have w1:bE ((j:Int)+1)=((j+1:Nat):Int):=by rw[cS (by omega) (by omega)];rfl
  rw[kG,bQ (show j<S.length by omega),by8,h1 j (by omega) (ae9 _) (by omega),if_pos rfl,w1,vl F S k hl d (j+1) f (by omega) (by omega) (fun i hi a b=>h1 i hi (by omega) (by omega)) (by simpa[show j+1+d=j+(d+1) by omega] using h2),show j+1+d=j+(d+1) by omega]
def Ct(s:bb->Option Fd)(n:bb):Bool:=(s n).isNone
section
variable(t:Tr)(ok:t.ok)(hz:t.gd)(ns:List bb)(hs:jD ns)(hlen:ns.length<=17)(hm:∀l,l∈t.lvs->l.nm∈ns)(can:bb->List Fd)(hcan:∀n,(can n).length<=100000000000)
noncomputable abbrev Ie(F:Nat)(t:Tr)(ns:List bb)(can:bb->List Fd)(j:Int)(S:List Bool)(I:List Fd):Option (Bool×(List Bool)×(List Fd)):=zn F j t.toT.Kind t.toT.Name t.toT.Texts t.toT.Op t.toT.N t.toT.Kids ns (ns.map can) S I
include ok hz hs hlen hm hcan
theorem L9:∀(m j:Nat),j+m=ns.length->∀F,t.fu+200000000000+m<=F->∀(S:List Bool) (I:List Fd) (s:bb->Option Fd),Kb ns S I s->(∀i (h:i<I.length) (h':i<S.length),S[i]=false->I[i]=fz)->(∀i (h:i<S.length),i<j->S[i]=true)->
  match qH? (fun s=>t.tr3 s) can ((ns.drop j).filter (Ct s)) s with
  |none=>Ie F t ns can (j:Int) S I=some (false,S,I)
  |some s'=>∃S' I',Ie F t ns can (j:Int) S I=some (true,S',I')/\S'.length=ns.length/\I'.length=ns.length:=by
 intro m
 induction m using Nat.strongRecOn with
 |_ m ih=>
  intro j hj F hF S I s h hI hS2;obtain⟨F,rfl⟩:∃G,F=G+1:=⟨F - 1,by omega⟩;have hk:=Jy t.toT ns (ns.map can) S I s hs (by omega) h t ok hz F (by omega) hm;have e:Ie (F+1) t ns can (j:Int) S I=tC (zn F) F (j:Int) t.toT.Kind t.toT.Name t.toT.Texts t.toT.Op t.toT.N t.toT.Kids ns (ns.map can) S I:=rfl
  have huns:∀i (hi:i<ns.length),Ct s ns[i] = !(S[i]'(by rw[h.l1];exact hi)):=fun i hi=>by
   unfold Ct;rw[h.at_ i hi];cases S[i]'(by rw[h.l1];exact hi)<;>rfl
  have known:∀b:Bool,t.tr3 s=some b->(b=false->Ie (F+1) t ns can (j:Int) S I=some (false,S,I))/\(b=true->Ie (F+1) t ns can (j:Int) S I=some (true,S,I)):=fun b hb=>by
   rw[hb] at hk;refine⟨fun hb=>?_,fun hb=>?_⟩
   ·subst hb;rw[e,tC,hk,by8,if_pos (by rfl)]
   ·subst hb;rw[e,tC,hk,by8,if_neg (by decide),Cm F t.toT ns (ns.map can) S I h.l1 h.l2 (by omega),by8,if_neg (by simp),if_pos (by rfl)]
  rcases sR (Ct s) ns m j hj with ⟨f1,f2⟩|⟨d,hn,f1,f2,f3⟩
  ·-- all names are settled
   have hfull:∃b,t.tr3 s=some b:=by
    refine⟨_,ot (a:=fun n=>(s n).getD fz) t fun l hl=>?_⟩;obtain⟨i,hi,e⟩:=bj8 (hm l hl);have h1:=h.at_ i hi
    have h2:S[i]'(by rw[h.l1];exact hi)=true:=by
     rcases bs8 i j with q|q
     ·exact hS2 i _ q
     ·have:=f2 i hi q;rw[huns i hi] at this
      simpa using this
    rw[h2,if_pos rfl,e] at h1;rw[h1];rfl
   obtain⟨b,hb⟩:=hfull;rw[f1,qH?];cases b with
   |false=>
    rw[if_neg (by rw[hb];simp)];exact(known false hb).1 Y
   |true=>
    rw[if_pos hb];exact⟨S,I,(known true hb).2 Y,h.l1,h.l2⟩
  ·rw[f3,qH?];cases hb:t.tr3 s with
   |some b=>
    cases b with
    |false=>exact(known false hb).1 rfl
    |true=>exact⟨S,I,(known true hb).2 rfl,h.l1,h.l2⟩
   |none=>
    rw[hb] at hk;dsimp only;obtain⟨j',hj'⟩:∃j',j'=j+d:=⟨_,rfl⟩;have hn':j'<ns.length:=by omega
    have hSj:j'<S.length:=by rw[h.l1];exact hn'
    have hIj:j'<I.length:=by rw[h.l2];exact hn'
    have hnd:ns.Nodup:=hs.imp nr
    have hSf:S[j']=false:=by
     have:=huns j' hn';rw[show Ct s ns[j']=true by subst hj';exact f1] at this
     simpa using this
    have hIf:I[j']=fz:=hI j' hIj hSj hSf
    have hL1:∀k64,kG F S k64 F (j:Int)=k64 (j':Int):=fun k64=>by
     subst hj';refine vl F S k64 (by rw[h.l1];omega) d j F hSj (by omega) (fun i hi a b=>?_) hSf;have:=f2 i (by rw[<-h.l1];exact hi) a b;rw[huns i (by rw[<-h.l1];exact hi)] at this
     simpa using this
    have hrest:∀x,(ns.drop (j'+1)).filter (Ct (om s ns[j'] x))=(ns.drop (j'+1)).filter (Ct s):=fun x=>by
     refine List.filter_congr fun n hn=>?_
     have:n≠ns[j']:=by
      obtain⟨i,hi,e⟩:=bj8 hn;rw[List.getElem_drop] at e;intro e2;rw[<-e] at e2;have:=(List.getElem_inj hnd).1 e2;omega
     unfold Ct om;rw[if_neg this]
    rw[show ns[j+d]=ns[j'] by subst hj';rfl,show j+d+1=j'+1 by omega];have ecan:ct (ns.map can) (j':Int)=some (can ns[j']):=by rw[bQ (by simpa using hn')];simp
    -- the rounds over the values
    have hloop:∀(k73:List Bool->List Fd->Option (Bool×(List Bool)×(List Fd))) (d i:Nat),i+d=(can ns[j']).length->∀fuel,d<fuel->∀z:Fd,
      match ((can ns[j']).drop i).findSome? (fun x=>qH? (fun s=>t.tr3 s) can ((ns.drop (j'+1)).filter (Ct s)) (om s ns[j'] x)) with
      |none=>∃z',gQ (zn F) F t.toT.Kind t.toT.Name t.toT.Texts t.toT.Op t.toT.N t.toT.Kids ns (ns.map can) (j':Int) k73 fuel (i:Int) (S.set j' true) (I.set j' z)=k73 (S.set j' true) (I.set j' z')
      |some s'=>∃S' I',gQ (zn F) F t.toT.Kind t.toT.Name t.toT.Texts t.toT.Op t.toT.N t.toT.Kids ns (ns.map can) (j':Int) k73 fuel (i:Int) (S.set j' true) (I.set j' z)=some (true,S',I')/\S'.length=ns.length/\I'.length=ns.length:=by
     intro k73 d
     induction d with
     |zero=>
      intro i hi fuel hf z;obtain⟨fuel,rfl⟩:∃g,fuel=g+1:=⟨fuel - 1,by omega⟩;rw[show(can ns[j']).drop i=[] from al8 (by omega),List.findSome?_nil];dsimp only;refine⟨z,?_⟩;rw[gQ,ecan,by8,if_neg (by simp;omega)]
     |succ d ihd=>
      intro i hi fuel hf z;obtain⟨fuel,rfl⟩:∃g,fuel=g+1:=⟨fuel - 1,by omega⟩;have hic:i<(can ns[j']).length:=by omega
      have hcl:=hcan ns[j'];have w1:bE ((j':Int)+1)=((j'+1:Nat):Int):=by rw[cS (by omega) (by omega)];rfl
      have w2:bE ((i:Int)+1)=((i+1:Nat):Int):=by rw[cS (by omega) (by omega)];rfl
      have hrec:=ih (ns.length - (j'+1)) (by omega) (j'+1) (by omega) F (by omega) (S.set j' true) (I.set j' (can ns[j'])[i]) (om s ns[j'] (can ns[j'])[i]) (h.set hnd hn' _) (fun q hq hq' hle=>by
       rw[an9] at hq hq';rw[List.getElem_set] at hle ⊢;by_cases e:j'=q
       ·rw[if_pos e] at hle;cases hle
       ·rw[if_neg e] at hle ⊢;exact hI q hq hq' hle) (fun q hq hle=>by
       rw[an9] at hq;rw[List.getElem_set];by_cases e:j'=q
       ·rw[if_pos e]
       ·rw[if_neg e];rcases bs8 q j with c|c
        ·exact hS2 q hq c
        ·have:=f2 q (by rw[<-h.l1];exact hq) c (by omega);rw[huns q (by rw[<-h.l1];exact hq)] at this
         simpa using this)
      rw[hrest] at hrec;rw[bu8 hic,List.findSome?_cons]
      have hstep:gQ (zn F) F t.toT.Kind t.toT.Name t.toT.Texts t.toT.Op t.toT.N t.toT.Kids ns (ns.map can) (j':Int) k73 (fuel+1) (i:Int) (S.set j' true) (I.set j' z)=(Ie F t ns can ((j'+1:Nat):Int) (S.set j' true) (I.set j' (can ns[j'])[i])).bind fun y91=>if (y91.2.2).length=(I.set j' z).length then if (y91.1)=true then some (true,(y91.2.1),(y91.2.2))
       else gQ (zn F) F t.toT.Kind t.toT.Name t.toT.Texts t.toT.Op t.toT.N t.toT.Kids ns (ns.map can) (j':Int) k73 fuel ((i+1:Nat):Int) (y91.2.1) (y91.2.2) else none:=by
       rw[gQ,ecan,by8,if_pos (decide_eq_true (by omega)),by8,bQ hic,by8,bQ (show j'<(I.set j' z).length by rw[an9];exact hIj),by8,w1,w2,show((j':Int)).toNat=j' from rfl,List.set_set]
      rw[hstep];cases hfd:qH? (fun s=>t.tr3 s) can ((ns.drop (j'+1)).filter (Ct s)) (om s ns[j'] (can ns[j'])[i]) with
      |some s'=>
       rw[hfd] at hrec;dsimp only at hrec ⊢;obtain⟨S',I',e1,e2,e3⟩:=hrec;rw[e1,by8];dsimp only;rw[if_pos (by rw[an9,e3,h.l2]),if_pos rfl];exact⟨S',I',Y,e2,e3⟩
      |none=>
       rw[hfd] at hrec;dsimp only at hrec ⊢;rw[hrec,by8];dsimp only;rw[if_pos (by rw[an9,an9]),if_neg (by simp)];exact ihd (i+1) (by omega) fuel (by omega) _
    have hcl:=hcan ns[j'];have:=hloop (fun l74 l75=>(ct l74 (j':Int)).bind fun x95=>(ct l75 (j':Int)).bind fun x97=>some (false,(l74.set ((j':Int)).toNat false),(l75.set ((j':Int)).toNat (ab.mk false false ([]:B8) 0)))) (can ns[j']).length 0 (by omega) F (by omega) I[j'];rw[bt8,List.set_getElem_self,show((0:Nat):Int)=0 from rfl] at this
    have hB:Ie (F+1) t ns can (j:Int) S I=gQ (zn F) F t.toT.Kind t.toT.Name t.toT.Texts t.toT.Op t.toT.N t.toT.Kids ns (ns.map can) (j':Int) (fun l74 l75=>(ct l74 (j':Int)).bind fun x95=>(ct l75 (j':Int)).bind fun x97=>some (false,(l74.set ((j':Int)).toNat false),(l75.set ((j':Int)).toNat (ab.mk false false ([]:B8) 0)))) F 0 (S.set j' true) I:=by
     rw[e,tC,hk,by8,if_neg (by decide),Cm F t.toT ns (ns.map can) S I h.l1 h.l2 (by omega),by8,if_neg (by simp),if_neg (by decide),aH,hL1,bQ hSj,by8,aH];rfl
    cases hfd:(can ns[j']).findSome? (fun x=>qH? (fun s=>t.tr3 s) can ((ns.drop (j'+1)).filter (Ct s)) (om s ns[j'] x)) with
    |some s'=>
     rw[hfd] at this;dsimp only at this ⊢;rw[hB];exact this
    |none=>
     rw[hfd] at this;dsimp only at this ⊢;obtain⟨z',hz'⟩:=this;rw[hB,hz',bQ (show j'<(S.set j' true).length by rw[an9];exact hSj),by8,bQ (show j'<(I.set j' z').length by rw[an9];exact hIj),by8,show((j':Int)).toNat=j' from rfl,List.set_set,List.set_set]
     have q1:S.set j' false=S:=by
      rw[<-hSf];exact List.set_getElem_self hSj
     have q2:I.set j' (ab.mk false false ([]:B8) 0)=I:=by
      rw[show(ab.mk false false ([]:B8) 0)=I[j'] from hIf.symm];exact List.set_getElem_self hIj
     rw[q1,q2]
end
noncomputable def qN(F:Nat)(t:Tr)(n:bb):List Fd:=(zx F ((Ce t n).map Lf.row)).getD []
theorem B6{t:Tr}(hz:t.gd)(hc:t.cnt<=1500000){sm:List Lf}(hsm:Sm t.lvs sm){F:Nat}(hF:200000000<=F)(n:bb):zx F ((Ce t n).map Lf.row)=some (qN F t n)/\Fds (Ce t n) (qN F t n):=by
 obtain⟨cs,e,h⟩:=Jz F (Ce t n) hF (fun l hl=>If t hz l (xe.1 hl).1) (by grind [xf]) (sm:=sm) ⟨fun l hl=>hsm.sub l (xe.1 hl).1,hsm.ok,hsm.ln⟩
 simp_all[qN]
theorem vm{t:Tr}(ok:t.ok)(hz:t.gd)(hc:t.cnt<=1500000){sm:List Lf}(hsm:Sm t.lvs sm){F:Nat}(hF:t.fu+200000000<=F)(k:List (List Fd)->Option ((List bb)×(List (List Fd))×(List Bool)×(List Fd))):∀(l:List bb) (acc:List (List Fd)),(∀n,n∈l->n≠[])->acc.length+l.length<=1000->
  ml F t.toT k l acc=k (acc++l.map (qN F t))
 |[],acc,_,_=>by rw[ml];simp
 |n::l,acc,h,hl=>by
  simp only[bx9] at hl;rw[ml,L0 n (h n (by simp)) t ok hz hc F (by omega),by8,(B6 hz hc hsm (by omega) n).1,by8,if_pos (by simp;omega),vm ok hz hc hsm hF k l _ (fun m hm=>h m (by simp[hm])) (by simp;omega)];simp
theorem Mb{t:Tr}(ok:t.ok)(hz:t.gd)(hc:t.cnt<=1500000){sm:List Lf}(hsm:Sm t.lvs sm){F:Nat}(hF:t.fu+200000000<=F){ns:List bb}(e:G9 F t.toT []=some ns)(hn:∀n,n∈ns->n≠[])(hlen:ns.length<=60):
  Mc F t.toT=some (ns,ns.map (qN F t),List.replicate ns.length false,List.replicate ns.length fz):=by
 unfold Mc;rw[e,by8,aH,vm ok hz hc hsm hF _ ns [] hn (by simp;omega),if_pos ⟨by omega,by omega,by omega⟩,if_pos ⟨by omega,by omega,by omega⟩];rfl
theorem pU(F:Nat)(f:aZ)(hf:okTFact' f)(kept:List bb)(hk:jD kept)(hkl:kept.length<=1000)(hF:2000<=F)(ns:List bb)(hnd:ns.Nodup)(cans:List (List Fd))(S0:List Bool)(I0:List Fd)(k:List Bool->List Fd->Option Bool):
  ∀(m j:Nat),j+m=ns.length->∀(S:List Bool) (I:List Fd) (s:bb->Option Fd),Kb ns S I s->(∀i (h:i<I.length) (h':i<S.length),S[i]=false->I[i]=fz)->
   ∃S' I',jH F f kept (ns,cans,S0,I0) k m (j:Int) S I=k S' I'/\Kb ns S' I' (fun n=>if n∈ns.drop j/\n∈kept then some (jJ f n) else s n)/\(∀i (h:i<I'.length) (h':i<S'.length),S'[i]=false->I'[i]=fz)
 |0,j,hj,S,I,s,h,hI=>by
  refine⟨S,I,by rw[jH],?_,hI⟩;rw[al8 (by omega)]
  simpa using h
 |m+1,j,hj,S,I,s,h,hI=>by
  have hn:j<ns.length:=by omega
  have hSj:j<S.length:=by rw[h.l1];exact hn
  have hIj:j<I.length:=by rw[h.l2];exact hn
  have hd:=bu8 hn;rw[jH];dsimp only;rw[bQ hn,by8,AX F kept _ (by omega) hk (by omega),by8,aH];by_cases hm:ns[j]∈kept
  ·rw[if_pos (decide_eq_true hm),by8,G7 F f _ hf,by8,bQ hSj,by8,bQ hIj,by8,show((j:Int)).toNat=j from rfl]
   obtain⟨S',I',e1,e2,e3⟩:=pU F f hf kept hk hkl hF ns hnd cans S0 I0 k m (j+1) (by omega) (S.set j true) (I.set j (jJ f ns[j])) (om s ns[j] (jJ f ns[j])) (h.set hnd hn _) (fun i hi hi' hs=>by
    rw[an9] at hi hi';rw[List.getElem_set] at hs ⊢;by_cases e:j=i
    ·rw[if_pos e] at hs;cases hs
    ·rw[if_neg e] at hs ⊢;exact hI i hi hi' hs)
   refine⟨S',I',e1,?_,e3⟩
   have:(fun n=>if n∈ns.drop (j+1)/\n∈kept then some (jJ f n) else om s ns[j] (jJ f ns[j]) n)=fun n=>if n∈ns.drop j/\n∈kept then some (jJ f n) else s n:=by
    funext n
    simp only[hd,as9];unfold om;by_cases e:n=ns[j]
    ·subst e;simp[hm]
    ·simp[e]
   rw[<-this];exact e2
  ·rw[if_neg (by simpa using hm)];obtain⟨S',I',e1,e2,e3⟩:=pU F f hf kept hk hkl hF ns hnd cans S0 I0 k m (j+1) (by omega) S I s h hI;refine⟨S',I',e1,?_,e3⟩
   have:(fun n=>if n∈ns.drop (j+1)/\n∈kept then some (jJ f n) else s n)=fun n=>if n∈ns.drop j/\n∈kept then some (jJ f n) else s n:=by
    funext n
    simp only[hd,as9];by_cases e:n=ns[j]
    ·subst e;simp[hm]
    ·simp[e]
   rw[<-this];exact e2
def py(f:aZ)(ns kept:List bb):bb->Option Fd:=fun n=>if n∈ns/\n∈kept then some (jJ f n) else none
theorem C8(t:Tr)(ok:t.ok)(hz:t.gd)(hc:t.cnt<=1500000){sm:List Lf}(hsm:Sm t.lvs sm)(f:aZ)(hf:okTFact' f)(hfv:∀n,zA (jJ f n))(kept:List bb)(hk:jD kept)(hkl:kept.length<=1000)(F:Nat)(hF:t.fu+300000000000<=F)
  (ns:List bb) (e:G9 F t.toT []=some ns) (h1:jD ns) (h2:∀y,y∈ns<->∃l,l∈t.lvs/\l.nm=y) (hlen:ns.length<=17):
  ∃b,((Mc F t.toT).bind fun y16=>jn (fun(l19:List Bool) (l20:List Fd)=>(zn F 0 t.toT.Kind t.toT.Name t.toT.Texts t.toT.Op t.toT.N t.toT.Kids (y16.1) (y16.2.1) l19 l20).bind fun y45=>some (!(y45.1))) (fun k18=>if (((y16.1).length:Nat):Int)<=9223372036854775807 then jH F f kept y16 k18 (((((y16.1).length:Nat):Int):Int).toNat) 0 (y16.2.2.1) (y16.2.2.2) else none))=some b/\(b=false<->zI (fun v=>t.truA v) (py f ns kept)):=by
 have hm:∀l,l∈t.lvs->l.nm∈ns:=fun l hl=>(h2 l.nm).2 ⟨l,hl,rfl⟩;have hcan:=fun n=>B6 (t:=t) hz hc hsm (F:=F) (by omega) n;have hnd:ns.Nodup:=h1.imp nr
 rw[Mb ok hz hc hsm (by omega) e (fun n hn=>by
  obtain⟨l,hl,e⟩:=(h2 n).1 hn;exact e ▸ yi (hsm.ok l (hsm.sub l hl)).nm) (by omega),by8,aH]
 dsimp only;rw[if_pos (by omega),show(((ns.length:Nat):Int)).toNat=ns.length by omega]
 obtain⟨S',I',e1,e2,e3⟩:=pU F f hf kept hk hkl (by omega) ns hnd (ns.map (qN F t)) (List.replicate ns.length false) (List.replicate ns.length fz) (fun(l19:List Bool) (l20:List Fd)=>(zn F 0 t.toT.Kind t.toT.Name t.toT.Texts t.toT.Op t.toT.N t.toT.Kids ns (ns.map (qN F t)) l19 l20).bind fun y45=>some (!(y45.1))) ns.length 0 (by omega) (List.replicate ns.length false) (List.replicate ns.length fz) (fun _=>none)
  ⟨by simp,by simp,fun i hi=>by simp⟩ (fun i hi _ _=>by simp)
 rw[show((0:Nat):Int)=0 from rfl] at e1;rw[e1];rw[bt8] at e2;have e2:Kb ns S' I' (py f ns kept):=e2;have hf:=L9 t ok hz ns h1 hlen hm (qN F t) (fun n=>(hcan n).2.ln) ns.length 0 (by omega) F (by omega) S' I' (py f ns kept) e2 e3 (fun i hi h=>by omega);rw[bt8,show((0:Nat):Int)=0 from rfl] at hf;obtain⟨rs,hrs⟩:∃rs,rs=ns.filter (Ct (py f ns kept)):=⟨_,rfl⟩;rw[<-hrs] at hf;have hrn:rs.Nodup:=by rw[hrs];exact hnd.filter _
 have hno:∀n,n∈rs->py f ns kept n=none:=fun n hn=>by
  rw[hrs,bz9] at hn;exact Option.isNone_iff_eq_none.1 hn.2
 have hsf:∀n x,py f ns kept n=some x->zA x:=fun n x hx=>by
  unfold py at hx;split at hx
  ·cases hx;exact hfv n
  ·cases hx
 cases h4:qH? (fun s=>t.tr3 s) (qN F t) rs (py f ns kept) with
 |some s'=>
  rw[h4] at hf;dsimp only at hf;obtain⟨S2,I2,q1,q2,q3⟩:=hf;obtain⟨g1,g2,g3⟩:=pC rs _ s' hrn hno h4;have q1':zn F 0 t.toT.Kind t.toT.Name t.toT.Texts t.toT.Op t.toT.N t.toT.Kids ns (ns.map (qN F t)) S' I'=some (true,S2,I2):=q1;rw[q1',by8];refine⟨false,Y,⟨fun _=>?_,fun _=>Y⟩⟩
  have hs':∀n x,s' n=some x->zA x:=fun n x hx=>by
   rcases g3 n x hx with h|⟨h,h5⟩
   ·exact hsf n x h
   ·exact(hcan n).2.ok x h5
  refine⟨fun n=>(s' n).getD fz,fun n=>?_,fun n x hx=>?_,?_⟩
  ·dsimp only;cases hx:s' n with
   |none=>exact ye
   |some x=>exact hs' n x hx
  ·dsimp only;rw[g2 n x hx];rfl
  ·have h6:t.tr3 (fun n=>some ((s' n).getD fz))=some true:=rQ (fun n x hx=>by grind) t true g1
   grind [ot,Option.some.inj]
 |none=>
  rw[h4] at hf;dsimp only at hf;have q1':zn F 0 t.toT.Kind t.toT.Name t.toT.Texts t.toT.Op t.toT.N t.toT.Kids ns (ns.map (qN F t)) S' I'=some (false,S',I'):=hf;rw[q1',by8];refine⟨true,rfl,⟨fun h=>(by cases h),fun⟨v,hv,hvx,ht⟩=>?_⟩⟩;have ht:t.truA v=true:=ht;exfalso;have hrep:∀n,∃c,c∈qN F t n/\∀l,l∈Ce t n->l.one c=l.one (v n):=fun n=>(hcan n).2.rep (v n) (hv n);refine sP (P:=fun s=>t.tr3 s) (fun s s' b he h=>rQ he t b h) rs _ hrn hno h4 (fun n=>(hrep n).choose) (fun n _=>(hrep n).choose_spec.1) ?_
  rw[ot (a:=fun n=>(py f ns kept n).getD (hrep n).choose) t fun l hl=>by
   unfold lq;cases hx:py f ns kept l.nm with
   |some x=>rfl
   |none=>
    have:l.nm∈rs:=by rw[hrs,bz9];exact⟨hm l hl,by unfold Ct;rw[hx];rfl⟩
    simp[this]]
  rw[nE t (b:=v) fun l hl=>by
   cases hx:py f ns kept l.nm with
   |some x=>exact congrArg l.one (hvx l.nm x hx).symm
   |none=>exact(hrep l.nm).choose_spec.2 l (xe.2 ⟨hl,rfl⟩),ht]
theorem Me(f:aZ)(hf:okTFact' f):∀t:Tr,t.ok->t.flt=0->∀F,t.fu<=F->I9 F t.toT f=some (t.tru f):=Tr.ind fun k nm tx op n ks ih ok hz F hF=>by
 rw[Tr.fu] at hF;obtain⟨hnode,hfl⟩:=iQ hz;have hx:=Tr.okX ok;obtain⟨F,rfl⟩:∃G,F=G+1:=⟨F - 1,by omega⟩
 show zo (I9 F) F (Tr.mk k nm tx op n ks).toT f=_
 have hk:=(Tr.okks ok).2;have hkid:∀t,t∈ks->I9 F t.toT f=some (t.tru f):=fun t ht=>ih t ht (Tr.oks_mem (Tr.okks ok).1 ht) (fe hfl ht) F (by have:=Tr.fu_mem ht;omega)
 have hl:∀m j:Nat,j+m=ks.length->mn (I9 F) F ⟨k,nm,tx,op,n,Tr.toKs ks⟩ f (some (k==7)) m (j:Int)=some (if k=7 then Tr.allT f (ks.drop j) else if k=8 then Tr.anyT f (ks.drop j) else if (ks.drop j).all (fun t=>!t.tru f) then false else false)\/¬(k=7\/k=8):=by
  intro m;by_cases hk78:k=7\/k=8
  case neg=>intro j _;exact Or.inr hk78
  induction m with
  |zero=>
   intro j h
   left
   rw[mn,al8 (by omega),Tr.allT,Tr.anyT];rcases hk78 with e|e<;>subst e<;>rfl
  |succ m ihm=>
   intro j h
   left
   have hj:j<ks.length:=by omega
   have ht:ks[j]∈ks:=bc9 _;have ih2:=(ihm (j+1) (by omega)).resolve_right (fun h=>h hk78);rw[mn,gF hj,by8,Tr.dec,by8,hkid _ ht,by8,show((j:Int)+1)=((j+1:Nat):Int) from rfl,ih2,bu8 hj,Tr.allT,Tr.anyT];rcases hk78 with e|e
   ·subst e;cases ks[j].tru f<;>simp
   ·subst e;cases ks[j].tru f<;>simp
 have hlen:(aV.mk k nm tx op n (Tr.toKs ks)).Kids.length=ks.length:=Tr.toKs_len ks;rw[Tr.toT,zo,Tr.tru];simp only[aH,hlen];rw[G7 F f nm hf,by8,Co F _ _ (by have:=hx.2.2.1;rw[iy] at this;exact this) (by show tx.length<F;omega),by8];dsimp only;have hkk:=ix hnode;dsimp only at hkk;have hk':k=1\/k=6\/k=7\/k=8\/(k=2\/k=3\/k=4\/k=5):=by omega
 have hrun:=hl ks.length 0 (by omega);rw[show((0:Nat):Int)=0 from rfl,bt8] at hrun;rcases hk' with e|e|e|e|e
 ·subst e;rfl
 ·subst e;have h1:ks.length=1:=by rw[<-jV hnode rfl];exact(Tr.toKs_len ks).symm
  match ks,h1,hkid with
  |[t],_,hkid=>
   have:ct (Tr.toKs [t]) 0=some t.toK:=gF (ks:=[t]) (n:=0) (by simp);rw[if_neg (by decide),if_pos (by decide),this,by8,Tr.dec,by8,hkid t (by simp),if_neg (by decide),if_pos rfl,Tr.allT,Tr.allT];simp
 ·subst e;have h2:=hrun.resolve_right (fun h=>h (Or.inl rfl));rw[if_neg (by decide),if_neg (by decide),if_pos (by decide),if_pos (by decide),if_pos (by omega),show(((ks.length:Nat):Int)).toNat=ks.length by omega,h2];rfl
 ·subst e;have h2:=hrun.resolve_right (fun h=>h (Or.inr rfl));rw[if_neg (by decide),if_neg (by decide),if_neg (by decide),if_pos (by decide),if_pos (by omega),show(((ks.length:Nat):Int)).toNat=ks.length by omega,h2];rfl
 ·rcases e with e|e|e|e<;>subst e<;>rfl
noncomputable def ll(t:Tr):Tr:=.mk 6 [] [] 0 0 [t]
theorem BI(t:Tr):(ll t).lvs=t.lvs:=by
 simp[ll,Tr.lvs,Tr.lvss]
theorem xR(v:bb->Fd)(t:Tr):(ll t).truA v = !(t.truA v):=by
 simp[ll,Tr.truA,Tr.allA]
theorem HQ(s:bb->Option Fd)(t:Tr):(ll t).tr3 s=(t.tr3 s).map (!·):=by
 rw[ll,Tr.tr3,if_neg (by decide),if_pos rfl,Tr.all3,Tr.all3];cases t.tr3 s with
 |none=>rfl
 |some b=>cases b<;>rfl
theorem K7{t:Tr}(h:t.ok):(ll t).ok:=by
 have:M9 6:=⟨by decide,by decide⟩;have:M9 0:=⟨by decide,by decide⟩;have:uL []:=by unfold uL;simp
 simp_all[ll,Tr.ok,Tr.oks_of,iy]
theorem Iu{t:Tr}(h:t.gd):(ll t).gd:=by
 unfold ll;rw[Tr.gd];refine⟨.inl ?_,Ay (by simp[h])⟩;rw[Tr.toKs,Tr.toKs];rfl
theorem II(t:Tr):(ll t).cnt=1+t.cnt:=by simp_all[ll,Tr.cnt,Tr.cnts]
theorem Lo(t:Tr):(ll t).fu=3+t.fu:=by simp_all[ll,Tr.fu,Tr.fus]
theorem HR(t:Tr):(ll t).toT=⟨6,[],[],0,0,[t.toK]⟩:=by
 rw[ll,Tr.toT,Tr.toKs,Tr.toKs];rfl
noncomputable def vw(b:Bool)(t:Tr):Tr:=if b=true then ll t else t
theorem Ld(b:Bool)(t:Tr):(vw b t).lvs=t.lvs:=by
 unfold vw;split
 ·exact BI t
 ·rfl
theorem HP(o:Option Bool)(F:Nat):Om F (xy o)=some (xy (o.map (!·))):=by
 cases o with
 |none=>rfl
 |some b=>cases b<;>rfl
theorem Mh(F:Nat){m:zl}{kn:HC}{s:Mx}(hs:DE m kn s)(t:Tr)(ok:t.ok)(hz:t.flt=0)(hF:t.fu<=F)(hb:Bool):Mi F ⟨m,some kn⟩ hb t.cd=some (xy ((vw hb t).tr3 (wU s))):=by
 have h:=Ns m kn t ok hz F hF;rw[hs.sgm] at h;unfold Mi vw;cases hb with
 |true=>rw[if_pos rfl,h,by8,HP,by8,if_pos rfl,HQ]
 |false=>rw[if_neg (by simp),h,by8,if_neg (by simp)]
theorem IG(b:Bool)(t:Tr):Kh t.lvs (fun s=>(vw b t).tr3 s) (fun v=>(vw b t).truA v):=by
 have hl:=Ld b t;refine⟨fun s s' c he h=>rQ he _ c h,fun s a h=>ot _ fun l hl'=>h l (hl ▸ hl'),fun u v h=>nE _ fun l hl'=>h l (hl ▸ hl')⟩
theorem C6{A:(bb->Fd)->Bool}{f g:bb->Option Fd}(h:∀n,f n=g n):zI A f<->zI A g:=by
 rw[show f=g from funext h]
theorem Ei{a:List bC}:∀{l:List bC} {n:Nat},xU a l n=0->∀x,x∈l->kc x.Value=true
 |y::l,n,h,x,hx=>by
  rw[xU] at h;split at h
  ·cases h
  ·split at h
   ·cases h
   ·rename_i hv;split at h
    ·cases h
    ·rcases as9.1 hx with e|hx
     ·subst e;simpa using hv
     ·exact Ei h x hx
theorem FB{a:List aT}:∀{l:List aT} {n:Nat},zB a l n=0->∀x,x∈l->sf x.N=false
 |y::l,n,h,x,hx=>by
  rw[zB] at h;split at h
  ·cases h
  ·split at h
   ·cases h
   ·rename_i hv;split at h
    ·cases h
    ·rcases as9.1 hx with e|hx
     ·subst e;simpa using hv
     ·exact FB h x hx
theorem Gj(nm:bb):∀(l:List bC) (p:Bool×bb),(∀x,x∈l->qf x.Value)->(p.1=true->qf p.2)->(fT nm l p).1=true->qf (fT nm l p).2
 |[],p,_,hp,h=>hp h
 |x::l,p,hl,hp,h=>by
  rw[fT] at h ⊢;split at h
  ·rename_i c;rw[if_pos c];exact Gj nm l _ (fun y hy=>hl y (by simp[hy])) (fun _=>hl x (by simp)) h
  ·rename_i c;rw[if_neg c];exact Gj nm l _ (fun y hy=>hl y (by simp[hy])) hp h
theorem Gn(nm:bb):∀(l:List aT) (p:Bool×Int),(∀x,x∈l->jT x.N)->(p.1=true->jT p.2)->(fN nm l p).1=true->jT (fN nm l p).2
 |[],p,_,hp,h=>hp h
 |x::l,p,hl,hp,h=>by
  rw[fN] at h ⊢;split at h
  ·rename_i c;rw[if_pos c];exact Gn nm l _ (fun y hy=>hl y (by simp[hy])) (fun _=>hl x (by simp)) h
  ·rename_i c;rw[if_neg c];exact Gn nm l _ (fun y hy=>hl y (by simp[hy])) hp h
theorem Lq{f:aZ}(h:vF f=0)(n:bb):zA (jJ f n):=by
 unfold vF at h;split at h
 ·cases h
 ·split at h
  ·cases h
  ·split at h
   ·cases h
   ·split at h
    ·rename_i ht;split at h
     ·cases h
     ·refine⟨fun q=>Gj n f.Texts _ (fun x hx=>Bh (Ei ht x hx)) (fun c=>by cases c) q,fun q=>Gn n f.Numbers _ (fun x hx=>?_) (fun c=>by cases c) q⟩;have:=FB h x hx;unfold sf at this;rw[Bool.or_eq_false_iff,decide_eq_false_iff_not,decide_eq_false_iff_not] at this;exact⟨by omega,by omega⟩
    ·rename_i h0;exact absurd h h0
theorem Cw{l:List bb}(h:l.Nodup):jD (dU l):=by
 rw[Ec];exact wg (EO l) ((Cx l).nodup_iff.2 h)
theorem BA{ls:List Lf}(hg:gU ls):jD (pd ls):=Cw (yI hg).kn
theorem Na{t:Tr}(hg:gU t.lvs){ns:List bb}(h1:jD ns)(h2:∀y,y∈ns<->∃l,l∈t.lvs/\l.nm=y):ns=pd t.lvs:=
 List.Perm.eq_of_pairwise (fun a b _ _ x y=>absurd y (by rw[oP x];simp)) h1 (BA hg) (H8 hg h1 h2)
theorem xS(f:aZ)(n:bb):uv (gV (eV f).by_ n)=jJ f n:=by
 rw[xI];rfl
section
variable(t:Tr)(ok:t.ok)(hz:t.flt=0)(hc:t.cnt<=60)(hg:gU t.lvs)(hw:Az t.lvs=true)(f:aZ)(hf:okTFact' f)(hv:vF f=0)
include ok hz hc hg hw hf hv
omit hc hf in
theorem CD(hb:Bool)(fx:zl)(kept:List bb)(hfx:∀n,aG fx n=if n∈kept then some (gV (eV f).by_ n) else none)(F:Nat)(hF:t.fu+1000000<=F):
  ∃by_ ns m kn m' kn' r,HD F (dQ t.lvs) hb t.cd fx=some (by_,ns,m,kn)/\xF F 0 by_ hb t.cd ns m kn=some (r,m',kn')/\(r=true<->zI (fun v=>(vw hb t).truA v) (py f (pd t.lvs) kept)):=by
 obtain⟨by_,ns,m,kn,m',kn',r,e1,e2,e3⟩:=CE hg hw (IG hb t) t.fu hb t.cd (fun F m kn s hF hs=>Mh F hs t ok hz hF hb) fx (fun n x hx=>by
  rw[hfx] at hx;split at hx
  ·cases hx;rw[xS];exact Lq hv n
  ·cases hx) F hF
 refine⟨by_,ns,m,kn,m',kn',r,e1,e2,e3.trans (C6 fun n=>?_)⟩;unfold wU yJ py;rw[hfx];have:n∈pd t.lvs<->n∈(dQ t.lvs).map (·.1):=(dg _).mem_iff;simp only[this];by_cases h1:n∈(dQ t.lvs).map (·.1)<;>by_cases h2:n∈kept<;>simp[h1,h2,xS]
theorem E5(kept:List bb)(hk:jD kept)(hkl:kept.length<=1000)(F:Nat)(hF:t.fu+400000000000<=F):∃b,Oo F t.toT f kept=some b/\(b=false<->zI (fun v=>(vw (t.tru f) t).truA v) (py f (pd t.lvs) kept)):=by
 have main:∀u:Tr,u.ok->u.gd->u.cnt<=100->u.lvs=t.lvs->u.fu+300000000000<=F->∃b,((Mc F u.toT).bind fun y16=>jn (fun(l19:List Bool) (l20:List Fd)=>(zn F 0 u.toT.Kind u.toT.Name u.toT.Texts u.toT.Op u.toT.N u.toT.Kids (y16.1) (y16.2.1) l19 l20).bind fun y45=>some (!(y45.1))) (fun k18=>if (((y16.1).length:Nat):Int)<=9223372036854775807 then jH F f kept y16 k18 (((((y16.1).length:Nat):Int):Int).toNat) 0 (y16.2.2.1) (y16.2.2.2) else none))=some b/\(b=false<->zI (fun v=>u.truA v) (py f (pd t.lvs) kept)):=by
  intro u uok ugd uc ul uF;obtain⟨ns,e,h1,h2⟩:=Mg u uok ugd (by omega) F (by omega);have hns:ns=pd u.lvs:=Na (by rw[ul];exact hg) h1 h2;rw[ul] at hns;obtain⟨b,e1,e2⟩:=C8 u uok ugd (by omega) (sm:=t.lvs) ⟨fun l hl=>ul ▸ hl,fun l hl=>hg.1 l hl,by have:=hg.2;omega⟩ f hf (fun n=>Lq hv n) kept hk hkl F uF ns e h1 h2 (by rw[hns];exact sS hg hw);exact⟨b,e1,by rw[<-hns];exact e2⟩
 unfold Oo;rw[Me f hf t ok hz F (by omega),by8,aH];cases ht:t.tru f with
 |false=>
  rw[if_neg (by simp)];exact main t ok (Ge t hz) (by omega) Y (by omega)
 |true=>
  rw[if_pos rfl];unfold OM;rw[by8];have:=main (ll t) (K7 ok) (Iu (Ge t hz)) (by rw[II];omega) (BI t) (by rw[Lo];omega);rw[HR] at this;exact this
end
theorem r9(f:aZ):∀(l:vi) (m:zl),KN m->KN (jt (eV f) l m)/\∀n,aG (jt (eV f) l m) n=if n∈l.map (·.1) then some (gV (eV f).by_ n) else aG m n
 |[],m,h=>⟨h,fun n=>by simp[jt]⟩
 |e::l,m,h=>by
  obtain⟨h1,h2⟩:=r9 f l (bM m e.1 ((aG (eV f).by_ e.1).getD zV)) h.put;refine⟨h1,fun n=>?_⟩;refine(h2 n).trans ?_;rw[cL];by_cases e1:n∈l.map (·.1)
  ·simp[e1]
  ·by_cases e2:e.1=n
   ·subst e2;simp[gV]
   ·simp[e1,e2,Ne.symm e2]
end Go.Proofs.YtelmfadihfcgnaaGreatDoor
