/- Part of the proof: C9RG, C9RH, C9RI, C9RJ, C9RK, C9RL. -/
import Derived.Test.YtelmfadihfcgnaaGreatDoorXC9RF
set_option linter.unusedSimpArgs false
set_option linter.unusedVariables false
namespace Go.Proofs.YtelmfadihfcgnaaGreatDoor
open Go Go.Pv
set_option maxRecDepth 100000
abbrev y5e(l:List Int):Prop:=l.Pairwise (fun a b=>a<b)
theorem j7k(F:Nat)(a:List Int)(x:Int)(ha:y5e a)(hl:a.length<=10000):∀(m j:Nat),j+m=a.length->(∀y,y∈a.take j->y<x)->
  ∃out,z8f F a x (fun(l4:List Int)=>if (l4++([x]:List Int)).length*8<=140737488355328 then some (l4++([x]:List Int)) else none) (a.drop j) (j:Int) (a.take j)=some out/\y5e out/\(∀y,y∈out<->y=x\/y∈a)/\out.length<=a.length+1
 |0,j,hj,h=>by
  rw[an9 (by omega),z8f,List.take_of_length_le (by omega),if_pos (by simp;omega)];rw[List.take_of_length_le (by omega)] at h;refine⟨_,rfl,bw8.2 ⟨ha,by simp,fun b hb c hc=>?_⟩,fun y=>by simp[or_comm],by simp⟩;simp only[bp9] at hc;rw[hc];exact h b hb
 |m+1,j,hj,h=>by
  have hn:j<a.length:=by omega
  rw[bx9 hn,z8f];by_cases e:a[j]=x
  ·rw[if_pos (by simpa using e)];exact⟨a,rfl,ha,fun y=>⟨.inr,fun h=>h.elim (fun e2=>by rw[e2,<-e];exact be9 hn) id⟩,by omega⟩
  ·rw[if_neg (by simpa using e),q5h hn,cb8];by_cases hg:a[j]>x
   ·rw[if_pos (decide_eq_true hg),if_pos (by simp;omega),show((j:Int)).toNat=j from rfl,if_pos ⟨by omega,by omega⟩,if_pos (by simp;omega)];refine⟨_,rfl,?_,fun y=>?_,by simp;omega⟩
    ·have hgt:∀y,y∈a.drop j->x<y:=fun y hy=>by
      obtain⟨q,hq,e⟩:=bl9 hy;rw[List.getElem_drop] at e;rw[ao9] at hq;by_cases h0:q=0
      ·subst h0;have:a[j]=y:=e;omega
      ·have:=ax8.1 ha j (j+q) hn (by omega) (by omega);omega
     refine bw8.2 ⟨bw8.2 ⟨ha.sublist (List.take_sublist _ _),by simp,fun b hb c hc=>?_⟩,ha.sublist (List.drop_sublist _ _),fun b hb c hc=>?_⟩
     ·simp only[bp9] at hc;rw[hc];exact h b hb
     ·have:=hgt c hc;rcases cc8.1 hb with hb|hb
      ·have:=h b hb;omega
      ·simp only[bp9] at hb;omega
    ·rw[cc8,cc8,bp9]
     conv=>rhs;rw[<-cn9 j a]
     rw[cc8];constructor
     ·rintro((h|h)|h)
      ·exact .inr (.inl h)
      ·exact .inl h
      ·exact .inr (.inr h)
     ·rintro(h|h|h)
      ·exact .inl (.inr h)
      ·exact .inl (.inl h)
      ·exact .inr h
   ·rw[if_neg (by simpa using hg),cb8,if_pos (by rw[bj8,bl8,List.length_singleton];omega),<-List.take_succ_eq_append_getElem hn,show((j:Int)+1)=((j+1:Nat):Int) from rfl];refine j7k F a x ha hl m (j+1) (by omega) fun y hy=>?_;rw[List.take_succ_eq_append_getElem hn] at hy;rcases cc8.1 hy with hy|hy
    ·exact h y hy
    ·simp only[bp9] at hy;omega
theorem y0g(F:Nat)(a:List Int)(x:Int)(ha:y5e a)(hl:a.length<=10000):∃out,y8w F a x=some out/\y5e out/\(∀y,y∈out<->y=x\/y∈a)/\out.length<=a.length+1:=by
 unfold y8w;rw[q3c];have:=j7k F a x ha hl a.length 0 (by omega) (by simp);rw[bv9,List.take_zero] at this;exact this
def y2j(ls:List Lf)(x:Int):Prop:=∃l,l∈ls/\l.k=5/\l.n=x
theorem z1t(F:Nat)(ls:List Lf)(k:List Int->Option (List Int)):∀(m j:Nat),j+m=ls.length->∀A:List Int,y5e A->A.length+m<=10000->
  ∃A',z0g F (ls.map Lf.row) k ((ls.drop j).map Lf.row) (j:Int) A=k A'/\y5e A'/\(∀x,x∈A'<->x∈A\/y2j (ls.drop j) x)/\A'.length<=A.length+m
 |0,j,hj,A,hA,hl=>by
  rw[an9 (by omega),ar8,z0g];exact⟨A,rfl,hA,fun x=>by simp[y2j],by omega⟩
 |m+1,j,hj,A,hA,hl=>by
  have hn:j<ls.length:=by omega
  rw[bx9 hn,bo9,z0g];simp only[z4y hn,Lf.dec,cb8,q3c];rw[show ls[j].t.Kind=ls[j].k from rfl,show ls[j].t.N=ls[j].n from rfl];by_cases k5:ls[j].k=5
  ·rw[if_pos (by rw[k5];rfl)];obtain⟨A1,e1,p1,p2,p3⟩:=y0g F A ls[j].n hA (by omega);obtain⟨A',g1,g2,g3,g4⟩:=z1t F ls k m (j+1) (by omega) A1 p1 (by omega);refine⟨A',by rw[e1];exact g1,g2,fun x=>?_,by omega⟩;rw[g3,p2];unfold y2j;simp only[at8,exists_eq_or_imp];constructor
   ·rintro((h|h)|h)
    ·exact .inr (.inl ⟨k5,h.symm⟩)
    ·exact .inl h
    ·exact .inr (.inr h)
   ·rintro(h|h|h)
    ·exact .inl (.inr h)
    ·exact .inl (.inl h.2.symm)
    ·exact .inr h
  ·rw[if_neg (by simpa using k5)];obtain⟨A',g1,g2,g3,g4⟩:=z1t F ls k m (j+1) (by omega) A hA (by omega);refine⟨A',g1,g2,fun x=>?_,by omega⟩;rw[g3];unfold y2j;simp only[at8,exists_eq_or_imp];exact or_congr Iff.rfl ⟨.inr,fun h=>h.elim (fun h=>absurd h.1 k5) id⟩
def nbr:Option Int->List Int->List Int
 |_,[]=>[]
 |p,x::r=>(if -1000000000000<=x - 1/\(∀q,p=some q->q<x - 1) then [x - 1] else [])++x::nbr (some x) r
theorem v4x:∀(l:List Int) (p:Option Int),(nbr p l).length<=2*l.length
 |[],p=>by simp[nbr]
 |x::r,p=>by
  have:=v4x r (some x);rw[nbr,bj8,ca9,ca9];split<;>simp<;>omega
theorem v5x:∀(l:List Int) (p:Option Int) (x:Int),x∈l->x∈nbr p l
 |y::r,p,x,h=>by
  rw[nbr];rcases at8.1 h with e|h
  ·subst e;simp
  ·exact List.mem_append_right _ (cb9 _ (v5x r (some y) x h))
theorem w1u:∀(l:List Int) (p:Option Int),(∀x,x∈l->okN x)->∀y,y∈nbr p l->okN y
 |[],p,h,y,hy=>by simp[nbr] at hy
 |x::r,p,h,y,hy=>by
  rw[nbr] at hy;have hx:=h x (by simp);unfold okN at hx;rcases cc8.1 hy with hy|hy
  ·split at hy
   ·rename_i hc;simp only[bp9] at hy;rw[hy];exact⟨hc.1,by omega⟩
   ·simp at hy
  ·rcases at8.1 hy with e|hy
   ·rw[e];exact hx
   ·exact w1u r (some x) (fun z hz=>h z (by simp[hz])) y hy
theorem v3x:∀(l:List Int) (p:Option Int),y5e l->(∀q,p=some q->∀x,x∈l->q<x)->∀x,x∈l->okN (x - 1)->x - 1∈nbr p l\/p=some (x - 1)
 |y::r,p,hs,hp,x,hx,ho=>by
  rw[nbr];rcases at8.1 hx with e|hx
  ·subst e;by_cases hc : -1000000000000<=x - 1/\∀q,p=some q->q<x - 1
   ·rw[if_pos hc];exact .inl (by simp)
   ·right
    cases p with
    |none=>exact absurd ⟨ho.1,fun q hq=>by cases hq⟩ hc
    |some q=>
     have h1:=hp q rfl x (by simp);have h2:¬q<x - 1:=fun h=>hc ⟨ho.1,fun q' hq=>by cases hq;exact h⟩
     congr 1;omega
  ·left
   have hs':=bw9.1 hs;rcases v3x r (some y) hs'.2 (fun q hq=>by cases hq;exact hs'.1) x hx ho with h|h
   ·exact List.mem_append_right _ (cb9 _ h)
   ·have:y=x - 1:=aj9 h;rw[<-this];simp
theorem j0l(F:Nat)(l3:List Int)(hok:∀x,x∈l3->okN x)(hl:l3.length<=10000)(k:List Int->Option (List Int)):∀(m j:Nat),j+m=l3.length->∀A:List Int,A.length+2*m<=100000->
  q3x F l3 k (l3.drop j) (j:Int) A=k (A++nbr (if j=0 then none else l3[j - 1]?) (l3.drop j))
 |0,j,hj,A,hA=>by
  rw[an9 (by omega),q3x,nbr,aa8]
 |m+1,j,hj,A,hA=>by
  have hn:j<l3.length:=by omega
  have hx:=hok l3[j] (be9 _);unfold okN at hx;have hw:w64 (l3[j] - 1)=l3[j] - 1:=q9i (by omega) (by omega);have ih:=fun A hA=>j0l F l3 hok hl k m (j+1) (by omega) A hA;rw[if_neg (by omega),by9,bb9 hn,show((j+1:Nat):Int)=(j:Int)+1 from rfl] at ih;rw[bx9 hn,q3x,q3c,hw,nbr]
  have fin:∀B:List Int,B.length<=1->(∀C:List Int,C=A++(B++[l3[j]])->q3x F l3 k (l3.drop (j+1)) ((j:Int)+1) C=k (A++(B++l3[j]::nbr (some l3[j]) (l3.drop (j+1))))):=by
   intro B hB C hC;rw[hC,ih _ (by simp;omega)];simp
  by_cases h1:l3[j] - 1 ≥ -1000000000000
  ·rw[if_pos (decide_eq_true h1)];by_cases h0:j=0
   ·rw[if_pos (by simp[h0]),if_pos (by simp;omega),q5h hn,cb8,if_pos (by simp;omega)];rw[if_pos (⟨h1,fun q hq=>by rw[if_pos h0] at hq;cases hq⟩:_/\_)];exact fin [l3[j] - 1] (by simp) _ (by simp)
   ·have hj1:w64 ((j:Int) - 1)=((j - 1:Nat):Int):=by rw[q9i (by omega) (by omega)];omega
    rw[if_neg (by simp;omega),hj1,q5h (show j - 1<l3.length by omega),cb8,q3c,q5h hn,if_neg h0,bb9 (show j - 1<l3.length by omega)];simp only[cb8];by_cases h2:l3[j - 1]<l3[j] - 1
    ·rw[if_pos (decide_eq_true h2),if_pos (by simp;omega),if_pos (by simp;omega)];rw[if_pos (⟨h1,fun q hq=>by cases hq;exact h2⟩:_/\_)];exact fin [l3[j] - 1] (by simp) _ (by simp)
    ·rw[if_neg (by simpa using h2),if_pos (by simp;omega)];rw[if_neg (fun hc=>h2 (hc.2 _ rfl))];exact fin [] (by simp) _ (by simp)
  ·rw[if_neg (by simpa using h1),q5h hn,cb8,if_pos (by simp;omega)];rw[if_neg (fun hc=>h1 hc.1)];exact fin [] (by simp) _ (by simp)
structure RepN(ns out:List Int):Prop where
 h0:∃z,z∈out
 h1:∀n,n∈ns->n∈out
 h2:∀n,n∈ns->okN (n - 1)->n - 1∈out
 h3:∀m,m∈ns->(∀n,n∈ns->n<=m)->okN (m+1)->m+1∈out
 ok:∀x,x∈out->okN x
theorem y6g(F:Nat)(ls:List Lf)(hlo:∀l,l∈ls->v2b l)(hlen:ls.length<=60):
  ∃ns out,w9q F (ls.map Lf.row)=some out/\(∀x,x∈ns<->y2j ls x)/\RepN ns out/\out.length<=200:=by
 unfold w9q;rw[q3c];obtain⟨ns,e,h1,h2,h3⟩:=z1t F ls (fun(l3:List Int)=>if (((l3.length:Nat):Int)==0)=true then some ([0]:List Int)
 else jn (fun(l25:List Int)=>(idx l3 (w64 (((l3.length:Nat):Int) - 1))).bind fun x54=>jn (fun(l57:List Int)=>some l57) (fun k56=>if (decide ((w64 (x54+1))<=1000000000000))=true then if (l25++([(w64 (x54+1))]:List Int)).length*8<=140737488355328 then k56 (l25++([(w64 (x54+1))]:List Int)) else none
 else k56 l25)) (fun k24=>q3x F l3 k24 l3 0 ([]:List Int))) ls.length 0 (by omega) [] (by simp) (by simp;omega)
 simp only[bt8,ch8,bv9,List.not_mem_nil,false_or] at h2 h3;rw[bv9,show((0:Nat):Int)=0 from rfl] at e
 have hok:∀x,x∈ns->okN x:=fun x hx=>by
  obtain⟨l,hl,h5,e⟩:=(h2 x).1 hx;exact e ▸ (hlo l hl).n h5
 refine⟨ns,?_⟩;rw[e];by_cases h0:ns=[]
 ·subst h0;exact⟨[0],rfl,h2,⟨⟨0,by simp⟩,by simp,by simp,by simp,fun x hx=>by simp only[bp9] at hx;subst hx;exact⟨by omega,by omega⟩⟩,by simp⟩
 ·have hpos:0<ns.length:=List.length_pos_iff.2 h0;rw[if_neg (by simp;exact h0),q3c];have hL2:=j0l F ns hok (by omega) (fun(l25:List Int)=>(idx ns (w64 (((ns.length:Nat):Int) - 1))).bind fun x54=>jn (fun(l57:List Int)=>some l57) (fun k56=>if (decide ((w64 (x54+1))<=1000000000000))=true then if (l25++([(w64 (x54+1))]:List Int)).length*8<=140737488355328 then k56 (l25++([(w64 (x54+1))]:List Int)) else none
 else k56 l25)) ns.length 0 (by omega) [] (by simp;omega)
  rw[bv9,if_pos rfl,ad8,show((0:Nat):Int)=0 from rfl] at hL2;rw[hL2];have hw:w64 (((ns.length:Nat):Int) - 1)=((ns.length - 1:Nat):Int):=by rw[q9i (by omega) (by omega)];omega
  have hll:ns.length - 1<ns.length:=by omega
  rw[hw,q5h hll,cb8,q3c];have hlast:=hok _ (be9 hll);have hlast':=hlast;unfold okN at hlast';have hw2:w64 (ns[ns.length - 1]+1)=ns[ns.length - 1]+1:=q9i (by omega) (by omega);rw[hw2];have hnl:=v4x ns none
  have key:∀ex:List Int,(∀x,x∈ex->okN x)->(okN (ns[ns.length - 1]+1)->ns[ns.length - 1]+1∈ex)->RepN ns (nbr none ns++ex):=by
   intro ex h1' h2';refine⟨⟨ns[ns.length - 1],cn8 _ (v5x _ _ _ (be9 _))⟩,fun n hn=>cn8 _ (v5x _ _ _ hn),fun n hn ho=>?_,fun m hm hmax ho=>?_,fun x hx=>?_⟩
   ·rcases v3x ns none h1 (fun q hq=>by cases hq) n hn ho with h|h
    ·exact cn8 _ h
    ·cases h
   ·have hme:m=ns[ns.length - 1]:=by
     obtain⟨i,hi,e⟩:=bl9 hm;have h5:=hmax _ (be9 hll);rcases bu9 i (ns.length - 1) with h6|h6
     ·have:=ax8.1 h1 i (ns.length - 1) hi hll h6;omega
     ·have:i=ns.length - 1:=by omega
      subst this;exact e.symm
    rw[hme] at ho ⊢;exact List.mem_append_right _ (h2' ho)
   ·rcases cc8.1 hx with hx|hx
    ·exact w1u ns none hok x hx
    ·exact h1' x hx
  by_cases hc:ns[ns.length - 1]+1<=1000000000000
  ·rw[if_pos (decide_eq_true hc),if_pos (by simp;omega)];exact⟨_,rfl,h2,key [ns[ns.length - 1]+1] (fun x hx=>by simp only[bp9] at hx;subst hx;exact⟨by omega,hc⟩) (fun _=>by simp),by simp;omega⟩
  ·rw[if_neg (by simpa using hc)];have:=key [] (by simp) fun ho=>absurd ho.2 hc;rw[aa8] at this;exact⟨_,rfl,h2,this,by omega⟩
def fz:Fd:=⟨false,false,[],0⟩
def ft(t:Txt):Fd:=⟨true,false,t,0⟩
def fn(n:Int):Fd:=⟨false,true,[],n⟩
def fb(t:Txt)(n:Int):Fd:=⟨true,true,t,n⟩
section
variable(F:Nat)(k:List Fd->Option (List Fd))
theorem q0o:∀(l:List Txt) (acc:List Fd),acc.length+l.length<=1000000->q7l F k l acc=k (acc++l.map ft)
 |[],acc,_=>by rw[q7l];simp
 |x::l,acc,h=>by
  simp only[ca9] at h;rw[q7l,if_pos (by simp;omega),q0o l _ (by simp;omega)];simp[ft]
theorem q9n:∀(l:List Int) (acc:List Fd),acc.length+l.length<=1000000->q6l F k l acc=k (acc++l.map fn)
 |[],acc,_=>by rw[q6l];simp
 |x::l,acc,h=>by
  simp only[ca9] at h;rw[q6l,if_pos (by simp;omega),q9n l _ (by simp;omega)];simp[fn]
theorem j5l(ts:List Txt)(ns:List Int)(i:Nat)(hi:i<ts.length):∀(m j:Nat),j+m=ns.length->∀acc:List Fd,acc.length+m<=10000000->z2g F ts ns (i:Int) k m (j:Int) acc=k (acc++(ns.drop j).map (fb ts[i]))
 |0,j,hj,acc,_=>by rw[z2g,an9 (by omega)];simp
 |m+1,j,hj,acc,h=>by
  have hn:j<ns.length:=by omega
  rw[z2g,q5h hi,cb8,q5h hn,cb8,if_pos (by simp;omega),show((j:Int)+1)=((j+1:Nat):Int) from rfl,j5l ts ns i hi m (j+1) (by omega) _ (by simp;omega),bx9 hn,bo9,ce9,List.singleton_append];rfl
theorem z5t(ts:List Txt)(ns:List Int):∀(m i:Nat),i+m=ts.length->∀acc:List Fd,acc.length+m*ns.length<=10000000->z6b F ts ns k m (i:Int) acc=k (acc++(ts.drop i).flatMap fun t=>ns.map (fb t))
 |0,i,hi,acc,_=>by rw[z6b,an9 (by omega)];simp
 |m+1,i,hi,acc,h=>by
  have hn:i<ts.length:=by omega
  have h4:=j5l F (fun l42=>(fun l40=>z6b F ts ns k m ((i:Int)+1) l40) l42) ts ns i hn ns.length 0 (by omega) acc (by rw[an8] at h;omega);rw[show((0:Nat):Int)=0 from rfl,bv9] at h4;rw[z6b,q3c,q3c,show(((ns.length:Nat):Int)).toNat=ns.length by omega];refine h4.trans ?_;dsimp only;rw[show((i:Int)+1)=((i+1:Nat):Int) from rfl,z5t ts ns m (i+1) (by omega) _ (by rw[bj8,bk8];rw[an8] at h;omega),bx9 hn,ac9,ce9]
end
def j0s(a b c:Bool)(ts:List Txt)(ns:List Int):List Fd:=
 fz::((if (a||c)=true then ts.map ft else [])++((if (b||c)=true then ns.map fn else [])++(if (a&&b)=true then ts.flatMap fun t=>ns.map (fb t) else [])))
theorem y4i(F:Nat)(ls:List Lf)(ts:List Txt)(ns:List Int)(h1:y8g F (ls.map Lf.row)=some ts)(h2:w9q F (ls.map Lf.row)=some ns)(hl1:ts.length<=4000)(hl2:ns.length<=200):
  w5x F (ls.map Lf.row)=some (j0s (uT ls) (uN ls) (uH ls) ts ns):=by
 unfold w5x;have hm:ts.length*ns.length<=4000*200:=Nat.mul_le_mul hl1 hl2;rw[w4w,cb8,h1,h2];simp only[cb8,q3c];unfold j0s;cases uT ls<;>cases uN ls<;>cases uH ls<;>simp only[cp8,if_false,if_true,Bool.or_false,Bool.or_true,Bool.and_false,Bool.and_true,cm8,Bool.true_or,ck9,Bool.or_self,Bool.and_self,ai8]
 ·rw[q0o F _ [] _ (by simp<;>omega)];rw[q9n F _ [] _ (by simp<;>omega)];simp[fz]
 ·rw[q0o F _ ts _ (by simp<;>omega)];rw[q9n F _ ns _ (by simp<;>omega)];simp[fz]
 ·rw[q0o F _ [] _ (by simp<;>omega)];rw[q9n F _ ns _ (by simp<;>omega)];simp[fz]
 ·rw[q0o F _ ts _ (by simp<;>omega)];rw[q9n F _ ns _ (by simp<;>omega)];simp[fz]
 ·rw[q0o F _ ts _ (by simp<;>omega)];rw[q9n F _ [] _ (by simp<;>omega)];simp[fz]
 ·rw[q0o F _ ts _ (by simp<;>omega)];rw[q9n F _ ns _ (by simp<;>omega)];simp[fz]
 ·rw[q0o F _ ts _ (by simp<;>omega)];rw[q9n F _ ns _ (by simp<;>omega)];rw[show(((ts.length:Nat):Int)).toNat=ts.length by omega];have:=z5t F (fun l33=>some l33) ts ns ts.length 0 (by omega) ([(⟨false,false,[],0⟩:Fd)]++ts.map ft++ns.map fn) (by simp;omega);rw[show((0:Nat):Int)=0 from rfl,bv9] at this;refine this.trans ?_;simp[fz]
 ·rw[q0o F _ ts _ (by simp<;>omega)];rw[q9n F _ ns _ (by simp<;>omega)];rw[show(((ts.length:Nat):Int)).toNat=ts.length by omega];have:=z5t F (fun l33=>some l33) ts ns ts.length 0 (by omega) ([(⟨false,false,[],0⟩:Fd)]++ts.map ft++ns.map fn) (by simp;omega);rw[show((0:Nat):Int)=0 from rfl,bv9] at this;refine this.trans ?_;simp[fz]
def rsb(ls:List Lf)(is bg:List Txt)(ns:List Int):q4a:=⟨is,bg,ns,uT ls,uN ls,uH ls,0⟩
theorem y1o{ls:List Lf}{is bg:List Txt}{ns:List Int}(hi:∀x,x∈is<->y8p ls x)(hb:∀x,x∈bg<->y7s ls x)(hn:∀x,x∈ns<->y2j ls x){l:Lf}(hl:l∈ls)(ho:v2b l):y3j (rsb ls is bg ns) l:=by
 have hk:=ho.k;have hT:l.k=2\/l.k=3->uT ls=true:=fun h=>cj8.2 ⟨l,hl,by rcases h with h|h<;>simp[h]⟩;by_cases k2:l.k=2
 ·exact .inl ⟨k2,fun e he=>(hi e).2 ⟨l,hl,k2,he⟩,hT (.inl k2)⟩
 by_cases k3:l.k=3
 ·exact .inr (.inl ⟨k3,fun e he=>(hb e).2 ⟨l,hl,k2,he⟩,hT (.inr k3)⟩)
 by_cases k4:l.k=4
 ·exact .inr (.inr (.inl ⟨k4,cj8.2 ⟨l,hl,by simp[k4]⟩⟩))
 ·have k5:l.k=5:=by omega
  exact .inr (.inr (.inr ⟨k5,(hn _).2 ⟨l,hl,k5,rfl⟩,cj8.2 ⟨l,hl,by simp[k5]⟩⟩))
theorem y3c{ls:List Lf}{is bg ts:List Txt}{nn ns:List Int}(ht:y8t is bg ts)(hn:RepN nn ns)(hnn:∀n,n∈nn->okN n)(v:Fd)(hv:okV v):
  ∃c,c∈j0s (uT ls) (uN ls) (uH ls) ts ns/\v8r (rsb ls is bg nn) c v:=by
 have hT:v.isText=true->∃t,t∈ts/\w6e is bg t v.text:=fun h=>v8i ht.hi ht.hb v.text (hv.1 h);have hN:v.isNumber=true->∃y,y∈ns/\v2h nn y v.number:=fun h=>v6v hn.h0 hn.h1 hn.h2 hn.h3 hnn v.number (hv.2 h)
 have mk:∀(a b c:Bool),∃x,x∈j0s a b c ts ns/\(a=true->x.isText=v.isText/\(x.isText=true->w6e is bg x.text v.text))/\(b=true->x.isNumber=v.isNumber/\(x.isNumber=true->v2h nn x.number v.number))/\(c=true->(x.isText||x.isNumber)=(v.isText||v.isNumber)):=by
  intro a b c;cases hvt:v.isText with
  |true=>
   obtain⟨t,t1,t2⟩:=hT hvt
   have hft:(a||c)=true->ft t∈j0s a b c ts ns:=fun h=>by
    unfold j0s;rw[if_pos h];exact cb9 _ (cn8 _ (bq8 t1))
   cases hvn:v.isNumber with
   |true=>
    obtain⟨y,y1,y2⟩:=hN hvn
    have hfn:(b||c)=true->fn y∈j0s a b c ts ns:=fun h=>by
     unfold j0s;rw[if_pos h];exact cb9 _ (List.mem_append_right _ (cn8 _ (bq8 y1)))
    cases a with
    |true=>
     cases b with
     |true=>
      refine⟨fb t y,?_,fun _=>⟨rfl,fun _=>t2⟩,fun _=>⟨rfl,fun _=>y2⟩,fun _=>rfl⟩;unfold j0s;rw[if_pos (show(true&&true)=true from rfl)];exact cb9 _ (List.mem_append_right _ (List.mem_append_right _ (ad9.2 ⟨t,t1,bq8 y1⟩)))
     |false=>exact⟨ft t,hft rfl,fun _=>⟨rfl,fun _=>t2⟩,fun h=>(by cases h),fun _=>rfl⟩
    |false=>
     cases b with
     |true=>exact⟨fn y,hfn rfl,fun h=>(by cases h),fun _=>⟨rfl,fun _=>y2⟩,fun _=>rfl⟩
     |false=>
      cases c with
      |true=>exact⟨ft t,hft rfl,fun h=>(by cases h),fun h=>(by cases h),fun _=>rfl⟩
      |false=>exact⟨fz,by unfold j0s;simp,fun h=>(by cases h),fun h=>(by cases h),fun h=>(by cases h)⟩
   |false=>
    cases hac:a||c with
    |true=>exact⟨ft t,hft hac,fun _=>⟨rfl,fun _=>t2⟩,fun _=>⟨rfl,fun h=>(by cases h)⟩,fun _=>rfl⟩
    |false=>
     rw[Bool.or_eq_false_iff] at hac;exact⟨fz,by unfold j0s;simp,fun h=>(by rw[hac.1] at h;cases h),fun _=>⟨rfl,fun h=>(by cases h)⟩,fun h=>(by rw[hac.2] at h;cases h)⟩
  |false=>
   cases hvn:v.isNumber with
   |true=>
    obtain⟨y,y1,y2⟩:=hN hvn
    have hfn:(b||c)=true->fn y∈j0s a b c ts ns:=fun h=>by
     unfold j0s;rw[if_pos h];exact cb9 _ (List.mem_append_right _ (cn8 _ (bq8 y1)))
    cases hbc:b||c with
    |true=>exact⟨fn y,hfn hbc,fun _=>⟨rfl,fun h=>(by cases h)⟩,fun _=>⟨rfl,fun _=>y2⟩,fun _=>rfl⟩
    |false=>
     rw[Bool.or_eq_false_iff] at hbc;exact⟨fz,by unfold j0s;simp,fun _=>⟨rfl,fun h=>(by cases h)⟩,fun h=>(by rw[hbc.1] at h;cases h),fun h=>(by rw[hbc.2] at h;cases h)⟩
   |false=>exact⟨fz,by unfold j0s;simp,fun _=>⟨rfl,fun h=>(by cases h)⟩,fun _=>⟨rfl,fun h=>(by cases h)⟩,fun _=>rfl⟩
 obtain⟨x,h1,h2,h3,h4⟩:=mk (uT ls) (uN ls) (uH ls);exact⟨x,h1,h2,h3,h4⟩
theorem y6q{a b c:Bool}{ts:List Txt}{ns:List Int}(ht:∀x,x∈ts->okT x)(hn:∀x,x∈ns->okN x){x:Fd}(hx:x∈j0s a b c ts ns):okV x:=by
 unfold j0s at hx;rcases at8.1 hx with e|hx
 ·rw[e];exact⟨fun h=>(by cases h),fun h=>(by cases h)⟩
 rcases cc8.1 hx with hx|hx
 ·split at hx
  ·obtain⟨t,h,rfl⟩:=bg9.1 hx;exact⟨fun _=>ht t h,fun h=>(by cases h)⟩
  ·simp at hx
 rcases cc8.1 hx with hx|hx
 ·split at hx
  ·obtain⟨n,h,rfl⟩:=bg9.1 hx;exact⟨fun h=>(by cases h),fun _=>hn n h⟩
  ·simp at hx
 ·split at hx
  ·obtain⟨t,h,hx⟩:=ad9.1 hx;obtain⟨n,h2,rfl⟩:=bg9.1 hx;exact⟨fun _=>ht t h,fun _=>hn n h2⟩
  ·simp at hx
structure Fds(ls:List Lf)(cs:List Fd):Prop where
 rep:∀v,okV v->∃c,c∈cs/\∀l,l∈ls->l.one c=l.one v
 ok:∀c,c∈cs->okV c
 ln:cs.length<=1000000
theorem y3i(F:Nat)(ls:List Lf)(hF:20000<=F)(hlo:∀l,l∈ls->v2b l)(hlen:ls.length<=60):∃cs,w5x F (ls.map Lf.row)=some cs/\Fds ls cs:=by
 obtain⟨is,bg,ts,e1,a1,a2,a3,a4⟩:=y7g F ls hF hlo hlen;obtain⟨nn,ns,e2,b1,b2,b3⟩:=y6g F ls hlo hlen;refine⟨_,y4i F ls ts ns e1 e2 a4 b3,⟨fun v hv=>?_,fun c hc=>?_,?_⟩⟩
 ·obtain⟨c,h1,h2⟩:=y3c (ls:=ls) a3 b2 (fun n hn=>by
   obtain⟨l,hl,h5,e⟩:=(b1 n).1 hn;exact e ▸ (hlo l hl).n h5) v hv
  exact⟨c,h1,fun l hl=>v1j (y1o a1 a2 b1 hl (hlo l hl)) h2⟩
 ·refine y6q (fun x hx=>(a3.ok x hx).elim (fun h=>?_) id) b2.ok hc;obtain⟨l,hl,_,hx⟩:=(a1 x).1 h;exact(hlo l hl).tx x hx
 ·have hm:ts.length*ns.length<=4000*200:=Nat.mul_le_mul a4 b3;have hfm:(ts.flatMap fun t=>ns.map (fb t)).length<=ts.length*ns.length:=z9o _ _ _ fun x _=>by rw[bk8];exact ae8 _
  unfold j0s;rw[ca9,bj8,bj8];have q1:(if (uT ls||uH ls)=true then ts.map ft else []).length<=4000:=by split<;>simp<;>omega
  have q2:(if (uN ls||uH ls)=true then ns.map fn else []).length<=200:=by split<;>simp<;>omega
  have q3:(if (uT ls&&uN ls)=true then ts.flatMap fun t=>ns.map (fb t) else []).length<=4000*200:=by
   split
   ·omega
   ·simp
  omega
def kv:Option Bool->Int
 |none=>2
 |some true=>1
 |some false=>0
structure Stn(ns:List Txt)(S:List Bool)(I:List Fd)(s:Txt->Option Fd):Prop where
 l1:S.length=ns.length
 l2:I.length=ns.length
 at_:∀(i:Nat) (h:i<ns.length),s ns[i]=if S[i]'(by omega)=true then some (I[i]'(by omega)) else none
theorem v4h(F:Nat)(b:Bool):y8j F b=some (kv (some b)):=by cases b<;>rfl
theorem w2g(tt:q0c)(ns:List Txt)(cans:List (List Fd))(S:List Bool)(I:List Fd)(s:Txt->Option Fd)(hs:Srt ns)(hlen:ns.length<=1000)(h:Stn ns S I s):
  ∀t:Tr,t.ok->t.flt=0->∀F,t.fu+2000<=F->(∀l,l∈t.lvs->l.nm∈ns)->w9g F ⟨tt,ns,cans,S,I⟩ t.toT=some (kv (t.tr3 s)):=Tr.ind fun k nm tx op n ks ih ok hz F hF hm=>by
 rw[Tr.fu] at hF;obtain⟨hnode,hfl⟩:=q2r hz;obtain⟨F,rfl⟩:∃G,F=G+1:=⟨F - 1,by omega⟩
 show v1b (w9g F) F ⟨tt,ns,cans,S,I⟩ (Tr.mk k nm tx op n ks).toT=_
 have hkk:=q2y hnode;dsimp only at hkk;have hkids:=(Tr.okks ok).2
 have hm':¬(2<=k/\k<=5)->∀t,t∈ks->∀l,l∈t.lvs->l.nm∈ns:=fun hk t ht l hl=>hm l (by
  rw[Tr.lvs];by_cases h1:k=1
  ·have:=(v0x hnode hk).2 h1;have h2:=Tr.toKs_len ks;dsimp only at this;rw[this] at h2;have:=ba8.1 h2.symm;rw[this] at ht;simp at ht
  ·rw[if_neg h1,if_pos (by omega)];exact q4z.2 ⟨t,ht,hl⟩)
 have hkid:¬(2<=k/\k<=5)->∀t,t∈ks->w9g F ⟨tt,ns,cans,S,I⟩ t.toT=some (kv (t.tr3 s)):=fun hk t ht=>ih t ht (Tr.oks_mem (Tr.okks ok).1 ht) (q1n hfl ht) F (by have:=Tr.fu_mem ht;omega) (hm' hk t ht)
 have hall:¬(2<=k/\k<=5)->∀(m j:Nat),j+m=ks.length->∀A:Option Bool,A≠some false->q9q (w9g F) F ⟨tt,ns,cans,S,I⟩ (Tr.mk k nm tx op n ks).toT 0 (fun n20=>some n20) m (j:Int) (kv A)=some (kv (y2t A (Tr.all3 s (ks.drop j)))):=by
  intro hk m
  induction m with
  |zero=>
   intro j hj A hA;rw[q9q,an9 (by omega),Tr.all3];cases A with
   |none=>rfl
   |some b=>cases b<;>rfl
  |succ m ihm=>
   intro j hj A hA;have hn:j<ks.length:=by omega
   have hix:idx (Tr.mk k nm tx op n ks).toT.Kids (j:Int)=some ks[j].toK:=q6t hn;rw[q9q,hix,cb8,Tr.dec,cb8,hkid hk _ (be9 _),cb8,bx9 hn,Tr.all3,q3c];have hr:=fun B hB=>ihm (j+1) (by omega) B hB;rw[show((j+1:Nat):Int)=(j:Int)+1 from rfl] at hr;cases ks[j].tr3 s with
   |none=>
    show q9q _ _ _ _ _ _ _ _ 2=_
    rw[show(2:Int)=kv none from rfl,hr none (by simp)];cases A with
    |none=>cases Tr.all3 s (ks.drop (j+1)) with
     |none=>rfl
     |some b=>cases b<;>rfl
    |some a=>cases a with
     |false=>exact absurd rfl hA
     |true=>rfl
   |some b=>
    cases b with
    |false=>
     cases A with
     |none=>rfl
     |some a=>cases a with
      |false=>exact absurd rfl hA
      |true=>rfl
    |true=>exact hr A hA
 have hany:¬(2<=k/\k<=5)->∀(m j:Nat),j+m=ks.length->∀A:Option Bool,A≠some true->q9q (w9g F) F ⟨tt,ns,cans,S,I⟩ (Tr.mk k nm tx op n ks).toT 1 (fun n20=>some n20) m (j:Int) (kv A)=some (kv (or3 A (Tr.any3 s (ks.drop j)))):=by
  intro hk m
  induction m with
  |zero=>
   intro j hj A hA;rw[q9q,an9 (by omega),Tr.any3];cases A with
   |none=>rfl
   |some b=>cases b<;>rfl
  |succ m ihm=>
   intro j hj A hA;have hn:j<ks.length:=by omega
   have hix:idx (Tr.mk k nm tx op n ks).toT.Kids (j:Int)=some ks[j].toK:=q6t hn;rw[q9q,hix,cb8,Tr.dec,cb8,hkid hk _ (be9 _),cb8,bx9 hn,Tr.any3,q3c];have hr:=fun B hB=>ihm (j+1) (by omega) B hB;rw[show((j+1:Nat):Int)=(j:Int)+1 from rfl] at hr;cases ks[j].tr3 s with
   |none=>
    show q9q _ _ _ _ _ _ _ _ 2=_
    rw[show(2:Int)=kv none from rfl,hr none (by simp)];cases A with
    |none=>cases Tr.any3 s (ks.drop (j+1)) with
     |none=>rfl
     |some b=>cases b<;>rfl
    |some a=>cases a with
     |true=>exact absurd rfl hA
     |false=>rfl
   |some b=>
    cases b with
    |true=>
     cases A with
     |none=>rfl
     |some a=>cases a with
      |true=>exact absurd rfl hA
      |false=>rfl
    |false=>exact hr A hA
 have hleaf:(2<=k/\k<=5)->((w4x F ns nm).bind fun y37=>(idx S (y37.1)).bind fun x39=>if (!x39)=true then some 2
 else (idx I (y37.1)).bind fun x42=>(y1k F (Tr.mk k nm tx op n ks).toT x42).bind fun y44=>(y8j F y44).bind fun y46=>some y46)=some (kv ((s nm).map (z5w k op n tx))):=by
  intro hk;have hnm:nm∈ns:=hm ⟨k,nm,tx,op,n⟩ (by rw[Tr.lvs,if_neg (by omega),if_neg (by omega)];simp);obtain⟨p,hp,e,_,_,h3⟩:=v6h F ns nm (by omega) hs (by omega);obtain⟨hpl,hpe⟩:=bf9.1 (h3 hnm);have hat:=h.at_ p hpl;rw[hpe] at hat;have hS:p<S.length:=by rw[h.l1];exact hpl
  have hI:p<I.length:=by rw[h.l2];exact hpl
  rw[e,cb8];dsimp only;rw[q5h hS,cb8,hat];cases hb:S[p] with
  |false=>rfl
  |true=>
   have htx:tx.length<=9223372036854775807:=(Tr.okX ok).2.2.1;rw[if_neg (by simp),q5h hI,cb8,y5i F _ _ htx (show tx.length<F by omega),cb8,v4h,cb8,if_pos rfl];rfl
 unfold v1b;simp only[q3c];have hK:(Tr.mk k nm tx op n ks).toT.Kind=k:=rfl;have hKl:(Tr.mk k nm tx op n ks).toT.Kids.length=ks.length:=Tr.toKs_len ks;rw[hK,hKl,Tr.tr3];have hk':k=1\/(2<=k/\k<=5)\/k=6\/k=7\/k=8:=by omega
 rcases hk' with e|e|e|e|e
 ·subst e;rfl
 ·have f1:¬((k==1)=true):=by rw[beq_iff_eq];omega
  have f6:¬((k==6)=true):=by rw[beq_iff_eq];omega
  have f7:¬((k==7)=true):=by rw[beq_iff_eq];omega
  have f8:¬((k==8)=true):=by rw[beq_iff_eq];omega
  rw[if_neg f1,if_neg f6,if_neg f7,if_neg f8,if_neg (by omega),if_neg (by omega),if_neg (by omega),if_neg (by omega)];exact hleaf e
 ·subst e;have hk:¬(2<=(6:Int)/\(6:Int)<=5):=by omega
  rw[if_neg (by decide),if_pos (by decide),if_neg (by decide),if_pos rfl];have h1:ks.length=1:=by rw[<-z7n hnode rfl];exact(Tr.toKs_len ks).symm
  obtain⟨t,rfl⟩:=List.length_eq_one_iff.1 h1;have hix:idx (Tr.mk 6 nm tx op n [t]).toT.Kids 0=some (t.toK):=q6t (ks:=[t]) (n:=0) (by simp);rw[hix,cb8,Tr.dec,cb8,hkid hk t (by simp),cb8,Tr.all3,Tr.all3];cases t.tr3 s with
  |none=>rfl
  |some b=>cases b<;>rfl
 ·subst e;have hk:¬(2<=(7:Int)/\(7:Int)<=5):=by omega
  have:=hall hk ks.length 0 (by omega) (some true) (by simp);rw[bv9] at this;rw[if_neg (by decide),if_neg (by decide),if_pos (by decide),if_pos (by decide),if_neg (by decide),if_neg (by decide),if_pos rfl,v4h,cb8,if_pos (by omega),show(((ks.length:Nat):Int)).toNat=ks.length by omega];exact this
 ·subst e;have hk:¬(2<=(8:Int)/\(8:Int)<=5):=by omega
  have:=hany hk ks.length 0 (by omega) (some false) (by simp);rw[bv9] at this;rw[if_neg (by decide),if_neg (by decide),if_neg (by decide),if_pos (by decide),if_neg (by decide),if_neg (by decide),if_neg (by decide),if_pos rfl,v4h,cb8,if_pos (by omega),show(((ks.length:Nat):Int)).toNat=ks.length by omega];exact this
theorem j4l(F:Nat)(tt:q0c)(ns:List Txt)(cans:List (List Fd))(S:List Bool)(I:List Fd)(h1:S.length=ns.length)(h2:I.length=ns.length)(k:Int->Int->Option Bool):∀(m j:Nat),j+m=ns.length->∀a b:Nat,a+m<=1000->b+m<=1000->
  ∃a' b':Nat,z1g F ⟨tt,ns,cans,S,I⟩ k m (j:Int) (a:Int) (b:Int)=k (a':Int) (b':Int)/\a'<=a+m/\b'<=b+m
 |0,j,hj,a,b,_,_=>⟨a,b,by rw[z1g],by omega,by omega⟩
 |m+1,j,hj,a,b,ha,hb=>by
  have hS:j<S.length:=by omega
  have hI:j<I.length:=by omega
  have wa:w64 ((a:Int)+1)=((a+1:Nat):Int):=by rw[q9i (by omega) (by omega)];rfl
  have wb:w64 ((b:Int)+1)=((b+1:Nat):Int):=by rw[q9i (by omega) (by omega)];rfl
  have ih:=fun a b ha hb=>j4l F tt ns cans S I h1 h2 k m (j+1) (by omega) a b ha hb;rw[show((j+1:Nat):Int)=(j:Int)+1 from rfl] at ih;rw[z1g];simp only[q5h hS,q5h hI,cb8,q3c,wa,wb];split
  ·split
   ·split
    ·obtain⟨x,y,e,p,q⟩:=ih (a+1) (b+1) (by omega) (by omega);exact⟨x,y,e,by omega,by omega⟩
    ·obtain⟨x,y,e,p,q⟩:=ih (a+1) b (by omega) (by omega);exact⟨x,y,e,by omega,by omega⟩
   ·split
    ·obtain⟨x,y,e,p,q⟩:=ih a (b+1) (by omega) (by omega);exact⟨x,y,e,by omega,by omega⟩
    ·obtain⟨x,y,e,p,q⟩:=ih a b (by omega) (by omega);exact⟨x,y,e,by omega,by omega⟩
  ·obtain⟨x,y,e,p,q⟩:=ih a b (by omega) (by omega);exact⟨x,y,e,by omega,by omega⟩
theorem v5h(F:Nat)(tt:q0c)(ns:List Txt)(cans:List (List Fd))(S:List Bool)(I:List Fd)(h1:S.length=ns.length)(h2:I.length=ns.length)(hlen:ns.length<=30):y6x F ⟨tt,ns,cans,S,I⟩=some true:=by
 unfold y6x;rw[q3c];dsimp only;rw[if_pos (by omega),show(((ns.length:Nat):Int)).toNat=ns.length by omega];obtain⟨x,y,e,p,q⟩:=j4l F tt ns cans S I h1 h2 (fun(n3:Int) (n4:Int)=>if (decide (n3<=30))=true then some (decide (n4<=30)) else some false) ns.length 0 (by omega) 0 0 (by omega) (by omega);rw[show((0:Nat):Int)=0 from rfl] at e;rw[e,if_pos (decide_eq_true (by omega)),decide_eq_true (by omega)]
theorem Stn.set{ns:List Txt}{S:List Bool}{I:List Fd}{s:Txt->Option Fd}(h:Stn ns S I s)(hn:ns.Nodup){j:Nat}(hj:j<ns.length)(x:Fd):Stn ns (S.set j true) (I.set j x) (stl s ns[j] x):=by
 refine⟨by rw[ap9];exact h.l1,by rw[ap9];exact h.l2,fun i hi=>?_⟩;unfold stl;rw[List.getElem_set,List.getElem_set];by_cases e:j=i
 ·subst e;simp
 ·rw[if_neg (show ¬ns[i]=ns[j] from fun h=>e ((List.getElem_inj hn).1 h).symm),if_neg e,if_neg e];exact h.at_ i hi
section
variable(t:Tr)(ok:t.ok)(hz:t.flt=0)(ns:List Txt)(hs:Srt ns)(hlen:ns.length<=17)(hm:∀l,l∈t.lvs->l.nm∈ns)(can:Txt->List Fd)(hcan:∀n,(can n).length<=1000000)
noncomputable abbrev m85(F:Nat)(t:Tr)(ns:List Txt)(can:Txt->List Fd)(j:Int)(S:List Bool)(I:List Fd):Option (Bool×(List Bool)×(List Fd)):=M85 F j t.toT.Kind t.toT.Name t.toT.Texts t.toT.Op t.toT.N t.toT.Kids ns (ns.map can) S I
include ok hz hs hlen hm hcan
theorem y9u:∀(m j:Nat),j+m=ns.length->∀F,t.fu+2000000+m<=F->∀(S:List Bool) (I:List Fd) (s:Txt->Option Fd),Stn ns S I s->(∀i (h:i<S.length),j<=i->S[i]=false)->(∀i (h:i<I.length),j<=i->I[i]=fz)->(∀i (h:i<S.length),i<j->S[i]=true)->
  match fnd? (fun s=>t.tr3 s) can (ns.drop j) s with
  |none=>m85 F t ns can (j:Int) S I=some (false,S,I)
  |some s'=>∃S' I',m85 F t ns can (j:Int) S I=some (true,S',I')/\S'.length=ns.length/\I'.length=ns.length:=by
 intro m
 induction m with
 |zero=>
  intro j hj F hF S I s h hS hI hS2;obtain⟨F,rfl⟩:∃G,F=G+1:=⟨F - 1,by omega⟩;have hk:=w2g t.toT ns (ns.map can) S I s hs (by omega) h t ok hz F (by omega) hm
  have hfull:∃b,t.tr3 s=some b:=by
   refine⟨_,z8g (a:=fun n=>(s n).getD fz) t fun l hl=>?_⟩;obtain⟨i,hi,e⟩:=bl9 (hm l hl);have h1:=h.at_ i hi;rw[hS2 i (by rw[h.l1];exact hi) (by omega),if_pos rfl,e] at h1;rw[h1];rfl
  obtain⟨b,hb⟩:=hfull;rw[hb] at hk;have e:m85 (F+1) t ns can (j:Int) S I=j0i (M85 F) F (j:Int) t.toT.Kind t.toT.Name t.toT.Texts t.toT.Op t.toT.N t.toT.Kids ns (ns.map can) S I:=rfl;rw[an9 (by omega),fnd?];cases b with
  |false=>
   rw[if_neg (by rw[hb];simp)];dsimp only;rw[e,j0i,hk,cb8,if_pos (by rfl)]
  |true=>
   rw[if_pos hb];dsimp only;refine⟨S,I,?_,h.l1,h.l2⟩;rw[e,j0i,hk,cb8,if_neg (by decide),v5h F t.toT ns (ns.map can) S I h.l1 h.l2 (by omega),cb8,if_neg (by simp),if_pos (by rfl)]
 |succ m ih=>
  intro j hj F hF S I s h hS hI hS2;obtain⟨F,rfl⟩:∃G,F=G+1:=⟨F - 1,by omega⟩;have hn:j<ns.length:=by omega
  have hk:=w2g t.toT ns (ns.map can) S I s hs (by omega) h t ok hz F (by omega) hm;have e:m85 (F+1) t ns can (j:Int) S I=j0i (M85 F) F (j:Int) t.toT.Kind t.toT.Name t.toT.Texts t.toT.Op t.toT.N t.toT.Kids ns (ns.map can) S I:=rfl;rw[bx9 hn,fnd?];cases hb:t.tr3 s with
  |some b=>
   rw[hb] at hk;cases b with
   |false=>
    dsimp only;rw[e,j0i,hk,cb8,if_pos (by rfl)]
   |true=>
    dsimp only;refine⟨S,I,?_,h.l1,h.l2⟩;rw[e,j0i,hk,cb8,if_neg (by decide),v5h F t.toT ns (ns.map can) S I h.l1 h.l2 (by omega),cb8,if_neg (by simp),if_pos (by rfl)]
  |none=>
   rw[hb] at hk;dsimp only;have hSj:j<S.length:=by rw[h.l1];exact hn
   have hIj:j<I.length:=by rw[h.l2];exact hn
   have hnd:ns.Nodup:=hs.imp w0d;obtain⟨F',hF'⟩:∃G,F=G+1:=⟨F - 1,by omega⟩
   have hL1:∀k64,j4e F S k64 F (j:Int)=k64 (j:Int):=fun k64=>by
    rw[hF',j4e,q5h hSj,cb8,hS j hSj (ae8 _),if_neg (by simp)]
   have ecan:idx (ns.map can) (j:Int)=some (can ns[j]):=by rw[q5h (by simpa using hn)];simp
   -- the rounds over the values
   have hloop:∀(k73:List Bool->List Fd->Option (Bool×(List Bool)×(List Fd))) (d i:Nat),i+d=(can ns[j]).length->∀fuel,d<fuel->∀z:Fd,
     match ((can ns[j]).drop i).findSome? (fun x=>fnd? (fun s=>t.tr3 s) can (ns.drop (j+1)) (stl s ns[j] x)) with
     |none=>∃z',z1c (M85 F) F t.toT.Kind t.toT.Name t.toT.Texts t.toT.Op t.toT.N t.toT.Kids ns (ns.map can) (j:Int) k73 fuel (i:Int) (S.set j true) (I.set j z)=k73 (S.set j true) (I.set j z')
     |some s'=>∃S' I',z1c (M85 F) F t.toT.Kind t.toT.Name t.toT.Texts t.toT.Op t.toT.N t.toT.Kids ns (ns.map can) (j:Int) k73 fuel (i:Int) (S.set j true) (I.set j z)=some (true,S',I')/\S'.length=ns.length/\I'.length=ns.length:=by
    intro k73 d
    induction d with
    |zero=>
     intro i hi fuel hf z;obtain⟨fuel,rfl⟩:∃g,fuel=g+1:=⟨fuel - 1,by omega⟩;rw[show(can ns[j]).drop i=[] from an9 (by omega),List.findSome?_nil];dsimp only;refine⟨z,?_⟩;rw[z1c,ecan,cb8,if_neg (by simp;omega)]
    |succ d ihd=>
     intro i hi fuel hf z;obtain⟨fuel,rfl⟩:∃g,fuel=g+1:=⟨fuel - 1,by omega⟩;have hic:i<(can ns[j]).length:=by omega
     have hcl:=hcan ns[j];have w1:w64 ((j:Int)+1)=((j+1:Nat):Int):=by rw[q9i (by omega) (by omega)];rfl
     have w2:w64 ((i:Int)+1)=((i+1:Nat):Int):=by rw[q9i (by omega) (by omega)];rfl
     have hrec:=ih (j+1) (by omega) F (by omega) (S.set j true) (I.set j (can ns[j])[i]) (stl s ns[j] (can ns[j])[i]) (h.set hnd hn _) (fun q hq hle=>by
      rw[ap9] at hq;rw[List.getElem_set,if_neg (by omega)];exact hS q hq (by omega)) (fun q hq hle=>by
      rw[ap9] at hq;rw[List.getElem_set,if_neg (by omega)];exact hI q hq (by omega)) (fun q hq hle=>by
      rw[ap9] at hq;rw[List.getElem_set];by_cases e:j=q
      ·rw[if_pos e]
      ·rw[if_neg e];exact hS2 q hq (by omega))
     rw[bx9 hic,List.findSome?_cons]
     have hstep:z1c (M85 F) F t.toT.Kind t.toT.Name t.toT.Texts t.toT.Op t.toT.N t.toT.Kids ns (ns.map can) (j:Int) k73 (fuel+1) (i:Int) (S.set j true) (I.set j z)=(m85 F t ns can ((j+1:Nat):Int) (S.set j true) (I.set j (can ns[j])[i])).bind fun y91=>if (y91.2.2).length=(I.set j z).length then if (y91.1)=true then some (true,(y91.2.1),(y91.2.2))
      else z1c (M85 F) F t.toT.Kind t.toT.Name t.toT.Texts t.toT.Op t.toT.N t.toT.Kids ns (ns.map can) (j:Int) k73 fuel ((i+1:Nat):Int) (y91.2.1) (y91.2.2) else none:=by
      rw[z1c,ecan,cb8,if_pos (decide_eq_true (by omega)),cb8,q5h hic,cb8,q5h (show j<(I.set j z).length by rw[ap9];exact hIj),cb8,w1,w2,show((j:Int)).toNat=j from rfl,List.set_set]
     rw[hstep];cases hfd:fnd? (fun s=>t.tr3 s) can (ns.drop (j+1)) (stl s ns[j] (can ns[j])[i]) with
     |some s'=>
      rw[hfd] at hrec;dsimp only at hrec ⊢;obtain⟨S',I',e1,e2,e3⟩:=hrec;rw[e1,cb8];dsimp only;rw[if_pos (by rw[ap9,e3,h.l2]),if_pos rfl];exact⟨S',I',rfl,e2,e3⟩
     |none=>
      rw[hfd] at hrec;dsimp only at hrec ⊢;rw[hrec,cb8];dsimp only;rw[if_pos (by rw[ap9,ap9]),if_neg (by simp)];exact ihd (i+1) (by omega) fuel (by omega) _
   have hcl:=hcan ns[j];have:=hloop (fun l74 l75=>(idx l74 (j:Int)).bind fun x95=>(idx l75 (j:Int)).bind fun x97=>some (false,(l74.set ((j:Int)).toNat false),(l75.set ((j:Int)).toNat (q2a.mk false false ([]:B8) 0)))) (can ns[j]).length 0 (by omega) F (by omega) I[j];rw[bv9,List.set_getElem_self,show((0:Nat):Int)=0 from rfl] at this
   have hB:m85 (F+1) t ns can (j:Int) S I=z1c (M85 F) F t.toT.Kind t.toT.Name t.toT.Texts t.toT.Op t.toT.N t.toT.Kids ns (ns.map can) (j:Int) (fun l74 l75=>(idx l74 (j:Int)).bind fun x95=>(idx l75 (j:Int)).bind fun x97=>some (false,(l74.set ((j:Int)).toNat false),(l75.set ((j:Int)).toNat (q2a.mk false false ([]:B8) 0)))) F 0 (S.set j true) I:=by
    rw[e,j0i,hk,cb8,if_neg (by decide),v5h F t.toT ns (ns.map can) S I h.l1 h.l2 (by omega),cb8,if_neg (by simp),if_neg (by decide),q3c,hL1,q5h hSj,cb8,q3c];rfl
   cases hfd:(can ns[j]).findSome? (fun x=>fnd? (fun s=>t.tr3 s) can (ns.drop (j+1)) (stl s ns[j] x)) with
   |some s'=>
    rw[hfd] at this;dsimp only at this ⊢;rw[hB];exact this
   |none=>
    rw[hfd] at this;dsimp only at this ⊢;obtain⟨z',hz'⟩:=this;rw[hB,hz',q5h (show j<(S.set j true).length by rw[ap9];exact hSj),cb8,q5h (show j<(I.set j z').length by rw[ap9];exact hIj),cb8,show((j:Int)).toNat=j from rfl,List.set_set,List.set_set]
    have q1:S.set j false=S:=by
     have:=hS j hSj (ae8 _);rw[<-this];exact List.set_getElem_self hSj
    have q2:I.set j (q2a.mk false false ([]:B8) 0)=I:=by
     have:=hI j hIj (ae8 _);rw[show(q2a.mk false false ([]:B8) 0)=I[j] from this.symm];exact List.set_getElem_self hIj
    rw[q1,q2]
end
noncomputable def w6c(F:Nat)(t:Tr)(n:Txt):List Fd:=(w5x F ((abt t n).map Lf.row)).getD []
theorem w5c{t:Tr}(hz:t.flt=0)(hc:t.cnt<=60){F:Nat}(hF:20000<=F)(n:Txt):w5x F ((abt t n).map Lf.row)=some (w6c F t n)/\Fds (abt t n) (w6c F t n):=by
 obtain⟨cs,e,h⟩:=y3i F (abt t n) hF (fun l hl=>z9d t hz l (v1h.1 hl).1) (by have:=j4q t n;omega);unfold w6c;rw[e];exact⟨rfl,h⟩
theorem j5z{t:Tr}(ok:t.ok)(hz:t.flt=0)(hc:t.cnt<=60){F:Nat}(hF:t.fu+20000<=F)(k:List (List Fd)->Option ((List Txt)×(List (List Fd))×(List Bool)×(List Fd))):∀(l:List Txt) (acc:List (List Fd)),(∀n,n∈l->n≠[])->acc.length+l.length<=1000->
  z5v F t.toT k l acc=k (acc++l.map (w6c F t))
 |[],acc,_,_=>by rw[z5v];simp
 |n::l,acc,h,hl=>by
  simp only[ca9] at hl;rw[z5v,w5w n (h n (by simp)) t ok hz hc F (by omega),cb8,(w5c hz hc (by omega) n).1,cb8,if_pos (by simp;omega),j5z ok hz hc hF k l _ (fun m hm=>h m (by simp[hm])) (by simp;omega)];simp
theorem y0v{t:Tr}(ok:t.ok)(hz:t.flt=0)(hc:t.cnt<=60){F:Nat}(hF:t.fu+20000<=F){ns:List Txt}(e:M51 F t.toT []=some ns)(hn:∀n,n∈ns->n≠[])(hlen:ns.length<=60):
  M82 F t.toT=some (ns,ns.map (w6c F t),List.replicate ns.length false,List.replicate ns.length fz):=by
 unfold M82;rw[e,cb8,q3c,j5z ok hz hc hF _ ns [] hn (by simp;omega),if_pos ⟨by omega,by omega,by omega⟩,if_pos ⟨by omega,by omega,by omega⟩];rfl
theorem w6q(F:Nat)(s:q4b)(kind:Txt)(h:s.is.length=s.names.length)(hlen:s.names.length<=1000):∃f,M99 F s kind=some f:=by
 unfold M99;rw[q3c,if_pos (by omega),show(((s.names.length:Nat):Int)).toNat=s.names.length by omega]
 have:∀(m j:Nat),j+m=s.names.length->∀(A:List q1h) (B:List q6c),A.length+m<=100000->B.length+m<=100000->∃f,z8u F s (fun(l4:List q1h) (l5:List q6c)=>some (q4j.mk kind ([]:B8) l4 l5)) m (j:Int) A B=some f:=by
  intro m
  induction m with
  |zero=>intro j hj A B _ _;exact⟨_,by rw[z8u]⟩
  |succ m ih=>
   intro j hj A B hA hB;have hn:j<s.names.length:=by omega
   have hi:j<s.is.length:=by omega
   have ih':=fun A B hA hB=>ih (j+1) (by omega) A B hA hB;rw[show((j+1:Nat):Int)=(j:Int)+1 from rfl] at ih';rw[z8u];simp only[q5h hn,q5h hi,cb8,q3c];have p1:∀x:q1h,(A++[x]).length*32<=140737488355328:=fun x=>by simp;omega
   have p2:∀x:q6c,(B++[x]).length*24<=140737488355328:=fun x=>by simp;omega
   simp only[if_pos (p1 _),if_pos (p2 _)];split
   ·split
    ·exact ih' _ _ (by simp;omega) (by simp;omega)
    ·exact ih' _ _ (by simp;omega) (by omega)
   ·split
    ·exact ih' _ _ (by omega) (by simp;omega)
    ·exact ih' _ _ (by omega) (by omega)
 have:=this s.names.length 0 (by omega) [] [] (by simp;omega) (by simp;omega);exact this
theorem w8m{t:Tr}{s:Txt->Option Fd}(hok:∀n x,s n=some x->okV x)(h:t.tr3 s=some true):Ex t:=by
 refine⟨fun n=>(s n).getD fz,fun n=>?_,?_⟩
 ·dsimp only;cases hx:s n with
  |none=>exact v2j
  |some x=>exact hok n x hx
 ·have h6:t.tr3 (fun n=>some ((s n).getD fz))=some true:=z8m (fun n x hx=>by rw[hx];rfl) t true h;rw[z8g (a:=fun n=>(s n).getD fz) t fun _ _=>rfl] at h6;exact aj9 h6
theorem y5v(t:Tr)(ok:t.ok)(hz:t.flt=0)(hc:t.cnt<=60)(hw:v4q t=true)(kind:Txt)(F:Nat)(hF:t.fu+3000000<=F):∃f r,M41 F t.toT kind=some (f,r)/\(r=true<->Ex t):=by
 obtain⟨ns,e,h1,h2⟩:=w7w t ok hz hc F (by omega);have hlen:ns.length<=17:=by rw[h2.length_eq];exact w2b hz hc hw
 have hm:∀l,l∈t.lvs->l.nm∈ns:=fun l hl=>h2.mem_iff.2 ((z0h hz hc).2 ⟨l,hl,rfl⟩);have hcan:=fun n=>w5c (t:=t) hz hc (F:=F) (by omega) n;have hnd:ns.Nodup:=h1.imp w0d
 have hf:=y9u t ok hz ns h1 hlen hm (w6c F t) (fun n=>(hcan n).2.ln) ns.length 0 (by omega) F (by omega) (List.replicate ns.length false) (List.replicate ns.length fz) (fun _=>none)
  ⟨by simp,by simp,fun i hi=>by simp⟩ (fun i hi _=>by simp) (fun i hi _=>by simp) (fun i hi h=>by omega)
 rw[bv9,show((0:Nat):Int)=0 from rfl] at hf;unfold M41;rw[y0v ok hz hc (by omega) e (fun n hn=>v8w hz hc (h2.mem_iff.1 hn)) (by omega),cb8];dsimp only;cases h4:fnd? (fun s=>t.tr3 s) (w6c F t) ns (fun _=>none) with
 |some s'=>
  rw[h4] at hf;dsimp only at hf;obtain⟨S',I',e1,e2,e3⟩:=hf;obtain⟨g1,g2,g3⟩:=j2b ns _ s' hnd (fun _ _=>rfl) h4;have e1':M85 F 0 t.toT.Kind t.toT.Name t.toT.Texts t.toT.Op t.toT.N t.toT.Kids ns (ns.map (w6c F t)) (List.replicate ns.length false) (List.replicate ns.length fz)=some (true,S',I'):=e1;rw[e1',cb8,if_neg (by simp)];obtain⟨f,hf⟩:=w6q F ⟨t.toT,ns,ns.map (w6c F t),S',I'⟩ kind e3 (by show ns.length<=1000;omega);refine⟨f,true,by rw[hf];rfl,⟨fun _=>w8m (fun n x hx=>?_) g1,fun _=>rfl⟩⟩;rcases g3 n x hx with h|⟨h,h5⟩
  ·cases h
  ·exact(hcan n).2.ok x h5
 |none=>
  rw[h4] at hf;dsimp only at hf;have e1':M85 F 0 t.toT.Kind t.toT.Name t.toT.Texts t.toT.Op t.toT.N t.toT.Kids ns (ns.map (w6c F t)) (List.replicate ns.length false) (List.replicate ns.length fz)=some (false,List.replicate ns.length false,List.replicate ns.length fz):=hf;rw[e1',cb8,if_pos (by simp)];refine⟨_,false,rfl,⟨fun h=>(by cases h),fun⟨v,hv,ht⟩=>?_⟩⟩;exfalso;have hrep:∀n,∃c,c∈w6c F t n/\∀l,l∈abt t n->l.one c=l.one (v n):=fun n=>(hcan n).2.rep (v n) (hv n);refine j4o (P:=fun s=>t.tr3 s) (fun s s' b he h=>z8m he t b h) ns _ hnd (fun _ _=>rfl) h4 (fun n=>(hrep n).choose) (fun n _=>(hrep n).choose_spec.1) ?_
  rw[z8g (a:=fun n=>(hrep n).choose) t fun l hl=>by
   unfold j3f;dsimp only;rw[if_pos (hm l hl)]]
  rw[z0r t (b:=v) fun l hl=>(hrep l.nm).choose_spec.2 l (v1h.2 ⟨hl,rfl⟩),ht]
theorem y7x(t:Tr)(ok:t.ok)(kind:Txt)(hk:okS kind)(F:Nat)(hF:t.fu+3000000<=F):
  ∃f r c,M10 F t.toT kind=some (f,r,c)/\c=(if vT t≠0 then vT t else if q8k kind=false then 8 else if v4q t=false then 3 else 0)/\(r=true<->vT t=0/\q8k kind=true/\v4q t=true/\Ex t):=by
 unfold M10;rw[y7v t ok F (by omega),cb8];by_cases h1:vT t=0
 ·rw[if_neg (by simp[h1]),w8w F kind hk,cb8];cases h2:q8k kind with
  |false=>
   rw[if_pos (by simp)];exact⟨_,_,_,rfl,by rw[if_neg (by simp[h1]),if_pos rfl],⟨fun h=>(by cases h),fun h=>(by cases h.2.1)⟩⟩
  |true=>
   obtain⟨hz,hc⟩:=v1c h1;rw[if_neg (by simp),y6v t ok hz hc F (by omega),cb8];cases h3:v4q t with
   |false=>
    rw[if_pos (by simp)];exact⟨_,_,_,rfl,by rw[if_neg (by simp[h1]),if_neg (by simp),if_pos rfl],⟨fun h=>(by cases h),fun h=>(by cases h.2.2.1)⟩⟩
   |true=>
    rw[if_neg (by simp)];obtain⟨f,r,e,h⟩:=y5v t ok hz hc h3 kind F hF;rw[e,cb8];exact⟨_,_,_,rfl,by rw[if_neg (by simp[h1]),if_neg (by simp),if_neg (by simp)],⟨fun hr=>⟨h1,rfl,rfl,h.1 hr⟩,fun hr=>h.2 hr.2.2.2⟩⟩
 ·rw[if_pos (by simpa using h1)];exact⟨_,_,_,rfl,by rw[if_pos h1],⟨fun h=>(by cases h),fun h=>absurd h.1 h1⟩⟩
theorem v8u{l:List Txt}(h:l.Nodup):Srt (q1s l):=by
 rw[w8h];exact j0w (w7i l) ((v9u l).nodup_iff.2 h)
def q3w(m:MpV)(ns:List Txt):List q1h:=ns.flatMap fun n=>if (gV m n).hasText=true then [⟨n,(gV m n).text⟩] else []
def q7w(m:MpV)(ns:List Txt):List q6c:=ns.flatMap fun n=>if (gV m n).hasNumber=true then [⟨n,(gV m n).number⟩] else []
theorem v0u(m:MpV)(ns:List Txt):(q3w m ns).length<=ns.length:=by
 have:=z9o (fun n=>if (gV m n).hasText=true then [(⟨n,(gV m n).text⟩:q1h)] else []) 1 ns fun n _=>by split<;>simp
 unfold q3w;omega
theorem v9w(m:MpV)(ns:List Txt):(q7w m ns).length<=ns.length:=by
 have:=z9o (fun n=>if (gV m n).hasNumber=true then [(⟨n,(gV m n).number⟩:q6c)] else []) 1 ns fun n _=>by split<;>simp
 unfold q7w;omega
theorem v5a(F:Nat)(m:MpV)(kind:Txt):∀(l:List Txt) (A:List q1h) (B:List q6c),A.length+l.length<=100000->B.length+l.length<=100000->
  z9v F m (fun(l10:List q1h) (l11:List q6c)=>some (q4j.mk kind ([]:B8) l10 l11)) l A B=some ⟨kind,[],A++q3w m l,B++q7w m l⟩
 |[],A,B,_,_=>by rw[z9v];simp[q3w,q7w]
 |n::l,A,B,hA,hB=>by
  simp only[ca9] at hA hB;have ih:=fun A B hA hB=>v5a F m kind l A B hA hB;have hg:(q7f m n).getD (q0a.mk false false ([]:B8) 0)=gV m n:=rfl;have p1:∀x:q1h,(A++[x]).length*32<=140737488355328:=fun x=>by simp;omega
  have p2:∀x:q6c,(B++[x]).length*24<=140737488355328:=fun x=>by simp;omega
  rw[z9v];simp only[q3c,hg,if_pos (p1 _),if_pos (p2 _)];unfold q3w q7w at ih ⊢;rw[ac9,ac9];by_cases h1:(gV m n).hasText=true
  ·by_cases h2:(gV m n).hasNumber=true
   ·simp only[if_pos h1,if_pos h2];rw[ih _ _ (by simp;omega) (by simp;omega),ce9,ce9]
   ·simp only[if_pos h1,if_neg h2];rw[ih _ _ (by simp;omega) (by omega),ce9];simp
  ·by_cases h2:(gV m n).hasNumber=true
   ·simp only[if_neg h1,if_pos h2];rw[ih _ _ (by omega) (by simp;omega),ce9];simp
   ·simp only[if_neg h1,if_neg h2];rw[ih _ _ (by omega) (by omega)];simp
theorem v3i{a:List q1h}(ha:a.Pairwise fun x y=>Op.bytesLess x.Name y.Name=true)(hn:∀x,x∈a->q8k x.Name=true/\j2i x.Value=true):∀(l:List q1h) (n:Nat),a.drop n=l->tcF a l n=0
 |[],n,_=>by rw[tcF]
 |x::l,n,h=>by
  obtain⟨h1,_,h3,h4⟩:=z5p h;obtain⟨g1,g2⟩:=hn x h3;rw[tcF,if_neg (by rw[g1];simp),if_neg (by rw[g2];simp),if_neg ?_,v3i ha hn l (n+1) h4];intro hc;rw[as9,decide_eq_true_eq] at hc;have hx:a[n]=x:=by rw[bx9 h1] at h;exact(ah8 h).1
  have hp:=ax8.1 ha (n - 1) n (by omega) h1 (by omega);rw[hx] at hp;have hd:a.getD (n - 1) ⟨[],[]⟩=a[n - 1]:=by rw[cs9,bb9 (by omega)];rfl
  rw[hd] at hc;unfold leN at hc;rw[at9,beq_iff_eq] at hc;rcases hc.2 with h|h
  ·rw[z8h hp] at h;cases h
  ·exact w0d hp h.symm
theorem v6j{a:List q6c}(ha:a.Pairwise fun x y=>Op.bytesLess x.Name y.Name=true)(hn:∀x,x∈a->q8k x.Name=true/\okN x.N):∀(l:List q6c) (n:Nat),a.drop n=l->ncF a l n=0
 |[],n,_=>by rw[ncF]
 |x::l,n,h=>by
  obtain⟨h1,_,h3,h4⟩:=z5p h;obtain⟨g1,g2⟩:=hn x h3;unfold okN at g2
  have g3:v2d x.N=false:=by
   unfold v2d;rw[decide_eq_false (by omega),decide_eq_false (by omega)];rfl
  rw[ncF,if_neg (by rw[g1];simp),if_neg (by rw[g3];simp),if_neg ?_,v6j ha hn l (n+1) h4];intro hc;rw[as9,decide_eq_true_eq] at hc;have hx:a[n]=x:=by rw[bx9 h1] at h;exact(ah8 h).1
  have hp:=ax8.1 ha (n - 1) n (by omega) h1 (by omega);rw[hx] at hp;have hd:a.getD (n - 1) ⟨[],0⟩=a[n - 1]:=by rw[cs9,bb9 (by omega)];rfl
  rw[hd] at hc;unfold leN at hc;rw[at9,beq_iff_eq] at hc;rcases hc.2 with h|h
  ·rw[z8h hp] at h;cases h
  ·exact w0d hp h.symm
theorem z6m{m:MpV}{ns:List Txt}{x:q1h}:x∈q3w m ns<->x.Name∈ns/\(gV m x.Name).hasText=true/\x.Value=(gV m x.Name).text:=by
 unfold q3w;rw[ad9];constructor
 ·rintro⟨n,hn,hx⟩
  split at hx
  ·simp only[bp9] at hx;subst hx;exact⟨hn,by assumption,rfl⟩
  ·simp at hx
 ·rintro⟨h1,h2,h3⟩
  exact⟨x.Name,h1,by rw[if_pos h2,<-h3];simp⟩
theorem z5n{m:MpV}{ns:List Txt}{x:q6c}:x∈q7w m ns<->x.Name∈ns/\(gV m x.Name).hasNumber=true/\x.N=(gV m x.Name).number:=by
 unfold q7w;rw[ad9];constructor
 ·rintro⟨n,hn,hx⟩
  split at hx
  ·simp only[bp9] at hx;subst hx;exact⟨hn,by assumption,rfl⟩
  ·simp at hx
 ·rintro⟨h1,h2,h3⟩
  exact⟨x.Name,h1,by rw[if_pos h2,<-h3];simp⟩
theorem j7s{m:MpV}:∀{ns:List Txt},Srt ns->(q3w m ns).Pairwise fun x y=>Op.bytesLess x.Name y.Name=true
 |[],_=>by simp[q3w]
 |n::r,h=>by
  have h':=bw9.1 h;have ih:=j7s (m:=m) h'.2;have e:q3w m (n::r)=(if (gV m n).hasText=true then [⟨n,(gV m n).text⟩] else [])++q3w m r:=by unfold q3w;rw[ac9]
  rw[e];split
  ·rw[List.singleton_append,bw9];exact⟨fun y hy=>h'.1 _ (z6m.1 hy).1,ih⟩
  ·simpa using ih
theorem j1v{m:MpV}:∀{ns:List Txt},Srt ns->(q7w m ns).Pairwise fun x y=>Op.bytesLess x.Name y.Name=true
 |[],_=>by simp[q7w]
 |n::r,h=>by
  have h':=bw9.1 h;have ih:=j1v (m:=m) h'.2;have e:q7w m (n::r)=(if (gV m n).hasNumber=true then [⟨n,(gV m n).number⟩] else [])++q7w m r:=by unfold q7w;rw[ac9]
  rw[e];split
  ·rw[List.singleton_append,bw9];exact⟨fun y hy=>h'.1 _ (z5n.1 hy).1,ih⟩
  ·simpa using ih
theorem v4l(m:MpV)(nm:Txt):∀(ns:List Txt) (p:Bool×Txt),fT nm (q3w m ns) p=if nm∈ns/\(gV m nm).hasText=true then (true,(gV m nm).text) else p
 |[],p=>by simp[q3w,fT]
 |n::r,p=>by
  have e:q3w m (n::r)=(if (gV m n).hasText=true then [⟨n,(gV m n).text⟩] else [])++q3w m r:=by unfold q3w;rw[ac9]
  rw[e];by_cases h:(gV m n).hasText=true
  ·rw[if_pos h,List.singleton_append,fT];dsimp only;by_cases en:n=nm
   ·subst en;rw[if_pos (by simp),v4l m n r,if_pos (show n∈n::r/\_ from ⟨by simp,h⟩)];split<;>rfl
   ·rw[if_neg (by simpa using en),v4l m nm r]
    have:(nm∈r/\(gV m nm).hasText=true)<->(nm∈n::r/\(gV m nm).hasText=true):=by
     rw[at8];exact⟨fun h=>⟨.inr h.1,h.2⟩,fun h=>⟨h.1.resolve_left (Ne.symm en),h.2⟩⟩
    simp only[this]
  ·rw[if_neg h,ad8,v4l m nm r]
   have:(nm∈r/\(gV m nm).hasText=true)<->(nm∈n::r/\(gV m nm).hasText=true):=by
    rw[at8];exact⟨fun h=>⟨.inr h.1,h.2⟩,fun h'=>⟨h'.1.resolve_left fun en=>h (en ▸ h'.2),h'.2⟩⟩
   simp only[this]
theorem v6l(m:MpV)(nm:Txt):∀(ns:List Txt) (p:Bool×Int),fN nm (q7w m ns) p=if nm∈ns/\(gV m nm).hasNumber=true then (true,(gV m nm).number) else p
 |[],p=>by simp[q7w,fN]
 |n::r,p=>by
  have e:q7w m (n::r)=(if (gV m n).hasNumber=true then [⟨n,(gV m n).number⟩] else [])++q7w m r:=by unfold q7w;rw[ac9]
  rw[e];by_cases h:(gV m n).hasNumber=true
  ·rw[if_pos h,List.singleton_append,fN];dsimp only;by_cases en:n=nm
   ·subst en;rw[if_pos (by simp),v6l m n r,if_pos (show n∈n::r/\_ from ⟨by simp,h⟩)];split<;>rfl
   ·rw[if_neg (by simpa using en),v6l m nm r]
    have:(nm∈r/\(gV m nm).hasNumber=true)<->(nm∈n::r/\(gV m nm).hasNumber=true):=by
     rw[at8];exact⟨fun h=>⟨.inr h.1,h.2⟩,fun h=>⟨h.1.resolve_left (Ne.symm en),h.2⟩⟩
    simp only[this]
  ·rw[if_neg h,ad8,v6l m nm r]
   have:(nm∈r/\(gV m nm).hasNumber=true)<->(nm∈n::r/\(gV m nm).hasNumber=true):=by
    rw[at8];exact⟨fun h=>⟨.inr h.1,h.2⟩,fun h'=>⟨h'.1.resolve_left fun en=>h (en ▸ h'.2),h'.2⟩⟩
   simp only[this]
end Go.Proofs.YtelmfadihfcgnaaGreatDoor
