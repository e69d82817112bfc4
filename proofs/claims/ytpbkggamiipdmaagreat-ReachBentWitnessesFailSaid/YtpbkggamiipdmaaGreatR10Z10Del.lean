/- Part of the proof: ZPBe, ZPBf, ZPBg, Z10Told, ZPB, Z10Del. -/
import Derived.Test.YtpbkggamiipdmaaGreatR10ZPBd
import Derived.Test.YtpbkggamiipdmaaGreatR10Z10O
import Derived.Test.YtpbkggamiipdmaaGreatR10Z10M
import Derived.KernelRfl
import Derived.Test.YtpbkggamiipdmaaGreatR10DA
import Derived.Test.YtpbkggamiipdmaaGreatProg
import Derived.WalkKit
import Derived.Deep.LoopGhost
import Derived.Deep.RegionLaw
import Derived.Shelf.RegionOpenPlain
import Derived.Lib.Walk
import Derived.Sort.WalkB12
namespace Go.Proofs.YtpbkggamiipdmaaGreat
open Go Go.Pv
set_option linter.unusedVariables false
theorem j5d{α:Type}{l:List α}{i:Nat}{x:α}(h:l[i]? = some x):idx l (i:Int)=some x:=by
 obtain⟨hi,e⟩:=List.getElem?_eq_some_iff.1 h
 rw[q2h hi,e]
section
variable{g:q7c}{how:Int}{fs:List Tx}{sp:q5c}{n:q2b}{s:q5a}{t:Nat}{d:List Int}{m:List (Tx×Int)}
theorem z9z(R:q0h g){f:q5e}(hf:f∈g.Funcs):f.Name≠[]:=by
 intro e
 have:=(R.f f hf).nam
 rw[e] at this;simp[nm] at this
structure Wys(g:q7c)(how:Int)(fs:List Tx)(t:Nat)(d:List Int)(m:List (Tx×Int)):Prop where
 R:q0h g
 ht:t<g.Funcs.length
 w:w7g g how fs t d
 a:w5i g how fs (g.Funcs[t]).Name m
abbrev DN8(g:q7c)(how:Int)(fs:List Tx)(t:Nat)(ht:t<g.Funcs.length)(q:Nat)(x:Tx):Prop:=Ds (Ed g how fs) (g.Funcs[t]).Name q x
theorem Wys.num(Y:Wys g how fs t d m){i:Nat}(hi:i<g.Funcs.length){q:Nat}(h:DN8 g how fs t Y.ht q (g.Funcs[i]).Name):d[i]? = some (q:Int)/\q<=3001:=by
 obtain⟨v,e,⟨k,rfl,hk,dk⟩|⟨_,no⟩⟩:=v8g Y.R Y.ht Y.w hi
 ·obtain rfl:=dk.uniq h
  exact⟨e,hk⟩
 ·exact absurd h (no q)
theorem Wys.nam(Y:Wys g how fs t d m){x:Tx}{q:Nat}(h:DN8 g how fs t Y.ht q x):q6b m x=some (q:Int):=(Y.a x _).2 ⟨q,rfl,h⟩
def BR(g:q7c)(how:Int)(fs:List Tx)(t:Nat)(ht:t<g.Funcs.length)(n:Int)(x:Tx):Prop:=
 (n = -1/\x=[])\/∃i:Nat,∃hi:i<g.Funcs.length,∃q,n=(i:Int)/\x=(g.Funcs[i]).Name/\DN8 g how fs t ht q x
theorem j5w(F:Nat)(Y:Wys g how fs t d m)(k:Int->Option (q3e×Bool×Int))(k':Tx->Option (q3e×Bool×Int)):∀(l:List Tx) (n:Int) (x:Tx),(∀y,y∈l->q4q g y=true)->BR g how fs t Y.ht n x->
  ∃n' x',z7r F (wOf g how fs) d k l n=k n'/\z6r F m k' l x=k' x'/\BR g how fs t Y.ht n' x'/\(x≠[]\/(∃y,y∈l/\∃q,DN8 g how fs t Y.ht q y)->x'≠[])/\(x'=x\/x'∈l)
 |[],n,x,_,h=>⟨n,x,rfl,rfl,h,fun q=>q.elim id (by simp),.inl rfl⟩
 |y::l,n,x,hl,h=>by
  have hl':=fun z hz=>hl z (List.mem_cons_of_mem _ hz)
  obtain⟨j,hj,hjy⟩:=q3q (hl y (by simp))
  have hfy:(q6b (wOf g how fs).funcs y).getD 0=(j:Int):=by rw[<-hjy];exact q1t Y.R how fs hj
  have hyne:y≠[]:=by rw[<-hjy];exact z9z Y.R (List.getElem_mem hj)
  rw[z7r,z6r]
  simp only[q2e]
  rw[hfy]
  have keep:(∀q,¬DN8 g how fs t Y.ht q y)->∃n' x',z7r F (wOf g how fs) d k l n=k n'/\z6r F m k' l x=k' x'/\BR g how fs t Y.ht n' x'/\(x≠[]\/(∃z,z∈y::l/\∃q,DN8 g how fs t Y.ht q z)->x'≠[])/\(x'=x\/x'∈y::l):=fun no=>by
   obtain⟨n',x',e1,e2,h1,h2,h3⟩:=j5w F Y k k' l n x hl' h
   refine⟨n',x',e1,e2,h1,fun q=>h2 ?_,h3.imp id (List.mem_cons_of_mem _)⟩
   rcases q with q|⟨z,hz,q,dq⟩
   ·exact .inl q
   ·rcases List.mem_cons.1 hz with rfl|hz
    ·exact absurd dq (no q)
    ·exact .inr ⟨z,hz,q,dq⟩
  have take:∀q,DN8 g how fs t Y.ht q y->∃n' x',z7r F (wOf g how fs) d k l (j:Int)=k n'/\z6r F m k' l y=k' x'/\BR g how fs t Y.ht n' x'/\(x≠[]\/(∃z,z∈y::l/\∃q,DN8 g how fs t Y.ht q z)->x'≠[])/\(x'=x\/x'∈y::l):=fun q dq=>by
   obtain⟨n',x',e1,e2,h1,h2,h3⟩:=j5w F Y k k' l (j:Int) y hl' (.inr ⟨j,hj,q,rfl,hjy.symm,dq⟩)
   refine⟨n',x',e1,e2,h1,fun _=>h2 (.inl hyne),.inr ?_⟩
   rcases h3 with rfl|h3
   ·simp
   ·exact List.mem_cons_of_mem _ h3
  obtain⟨v,e,⟨q,rfl,hq,dq⟩|⟨rfl,no⟩⟩:=v8g Y.R Y.ht Y.w hj
  ·have dq':DN8 g how fs t Y.ht q y:=by rw[<-hjy];exact dq
   have em:=Y.nam dq'
   rw[j5d e,Option.bind_some,if_pos (by simp),em,if_pos (show(some (q:Int)).isSome=true from rfl)]
   rcases h with ⟨rfl,rfl⟩|⟨i,hi,p,rfl,rfl,dp⟩
   ·rw[if_pos (by simp),if_pos (by simp)]
    exact take q dq'
   ·have hd:=(Y.num hi dp).1
    rw[if_neg (by simp),if_neg (by simpa using z9z Y.R (List.getElem_mem hi)),Option.bind_some,j5d hd,Option.bind_some,Y.nam dp]
    simp only[Option.getD_some]
    by_cases hc:(q:Int)<(p:Int)
    ·rw[if_pos (by simpa using hc),if_pos (by simpa using hc)]
     exact take q dq'
    ·rw[if_neg (by simpa using hc),if_neg (by simpa using hc)]
     obtain⟨n',x',e1,e2,h1,h2,h3⟩:=j5w F Y k k' l (i:Int) (g.Funcs[i]).Name hl' (.inr ⟨i,hi,p,rfl,rfl,dp⟩)
     exact⟨n',x',e1,e2,h1,fun _=>h2 (.inl (z9z Y.R (List.getElem_mem hi))),h3.imp id (List.mem_cons_of_mem _)⟩
  ·have no':∀q,¬DN8 g how fs t Y.ht q y:=fun q=>by rw[<-hjy];exact no q
   have em:q6b m y=none:=by
    cases hg:q6b m y with
    |none=>rfl
    |some v=>obtain⟨k,_,dk⟩:=(Y.a y v).1 hg;exact absurd dk (no' k)
   rw[j5d e,Option.bind_some,if_neg (by simp),em,if_neg (by simp)]
   exact keep no'
theorem v1d(F:Nat)(Y:Wys g how fs t d m){i:Nat}(hi:i<g.Funcs.length){q:Nat}(hd:d[i]? = some ((q+1:Nat):Int))(hq:q<=100000)(n9:Int)(c:q6c)(k:Option (q5j×q6c×Int)):∀l:List Int,l.Pairwise (·<·)->(∀v,v∈l->∃i:Nat,i<g.Funcs.length/\v=i)->
  (∃j:Nat,∃hj:j<g.Funcs.length,(j:Int)∈l/\DN8 g how fs t Y.ht q (g.Funcs[j]).Name/\(∀j':Nat,∀hj':j'<g.Funcs.length,(j':Int)∈l->DN8 g how fs t Y.ht q (g.Funcs[j']).Name->j<=j')/\
   z1l F (wOf g how fs) d (i:Int) n9 c k l=some (q5j.mk (q2n.mk (g.Funcs[i]).Name n9) (g.Funcs[j]).Name,c,(j:Int))) ∨
  ((∀j:Nat,∀hj:j<g.Funcs.length,(j:Int)∈l->¬DN8 g how fs t Y.ht q (g.Funcs[j]).Name)/\z1l F (wOf g how fs) d (i:Int) n9 c k l=k)
 |[],_,_=>.inr ⟨by simp,rfl⟩
 |x::l,hs,hl=>by
  rw[List.pairwise_cons] at hs
  obtain⟨j,hj,rfl⟩:=hl x (by simp)
  obtain⟨v,e,hv⟩:=v8g Y.R Y.ht Y.w hj
  have hw:w64 (((q+1:Nat):Int) - 1)=(q:Int):=by rw[q9w (by omega) (by omega)];omega
  rw[z1l,j5d e,Option.bind_some,j5d hd,Option.bind_some,hw]
  by_cases hvq:v=(q:Int)
  ·rw[if_pos (by simpa using hvq),show(wOf g how fs).g=g from rfl,q2h hi,Option.bind_some,q2h hj,Option.bind_some]
   refine .inl ⟨j,hj,by simp,?_,fun j' hj' hm _=>?_,rfl⟩
   ·rcases hv with ⟨p,e',_,dp⟩|⟨e',_⟩
    ·obtain rfl:p=q:=by omega
     exact dp
    ·omega
   ·rcases List.mem_cons.1 hm with h|h
    ·omega
    ·have:=hs.1 _ h;omega
  ·have hno:¬DN8 g how fs t Y.ht q (g.Funcs[j]).Name:=fun h=>by
    have:=(Y.num hj h).1
    rw[e] at this
    exact hvq (Option.some.inj this)
   rw[if_neg (by simpa using hvq)]
   rcases v1d F Y hi hd hq n9 c k l hs.2 (fun v hv=>hl v (List.mem_cons_of_mem _ hv)) with ⟨j1,hj1,a1,a2,a3,a4⟩|⟨a1,a2⟩
   ·refine .inl ⟨j1,hj1,List.mem_cons_of_mem _ a1,a2,fun j' hj' hm dj=>?_,a4⟩
    rcases List.mem_cons.1 hm with h|h
    ·obtain rfl:j'=j:=by omega
     exact absurd dj hno
    ·exact a3 j' hj' h dj
   ·refine .inr ⟨fun j' hj' hm dj=>?_,a2⟩
    rcases List.mem_cons.1 hm with h|h
    ·obtain rfl:j'=j:=by omega
     exact absurd dj hno
    ·exact a1 j' hj' h dj
theorem v0d(F:Nat)(w:q1b)(d:List Int)(i n9:Int)(c:q6c)(k:Option (q5j×q6c×Int)):∀l:List Int,j4g F w d i n9 c k l=z1l F w d i n9 c k l
 |[]=>rfl
 |x::l=>by rw[j4g,z1l,v0d F w d i n9 c k l]
def okB(how:Int)(s:q5a)(m:List (Tx×Int))(x:Tx)(a:q1a):Bool:=(q6b m a.to).isSome&&(((q6b m a.to).getD 0==w64 ((q6b m x).getD 0 - 1))&&j3w how s a)
def v2g(how:Int)(s:q5a)(m:List (Tx×Int))(x:Tx)(seen:List q1a)(b ty:Tx):Prop:=
 (b=[]/\∀a,a∈seen->okB how s m x a=false)\/(b≠[]/\(∃a,seen.find? (fun a=>okB how s m x a&&(a.to==b))=some a/\a.typ=ty)/\∀a,a∈seen->okB how s m x a=true->Op.bytesLess a.to b=false)
theorem j6s(F:Nat)(x:Tx)(k:Tx->Tx->Option (q5j×Tx)):∀(l seen:List q1a) (b ty:Tx),(∀a,a∈l->a.to≠[])->v2g how s m x seen b ty->∃b' ty',z3h F how s m x k l b ty=k b' ty'/\v2g how s m x (seen++l) b' ty'
 |[],seen,b,ty,_,h=>⟨b,ty,rfl,by simpa using h⟩
 |a::l,seen,b,ty,hne,h=>by
  have hne':=fun z hz=>hne z (List.mem_cons_of_mem _ hz)
  have fin:∀b1 ty1,v2g how s m x (seen++[a]) b1 ty1->∃b' ty',z3h F how s m x k l b1 ty1=k b' ty'/\v2g how s m x (seen++(a::l)) b' ty':=fun b1 ty1 h1=>by
   obtain⟨b',ty',e,h2⟩:=j6s F x k l (seen++[a]) b1 ty1 hne' h1
   exact⟨b',ty',e,by simpa using h2⟩
  have keep:okB how s m x a=false->v2g how s m x (seen++[a]) b ty:=fun ho=>by
   rcases h with ⟨h1,h2⟩|⟨h1,⟨a',h2,h2'⟩,h3⟩
   ·refine .inl ⟨h1,fun z hz=>?_⟩
    rcases List.mem_append.1 hz with hz|hz
    ·exact h2 z hz
    ·simp only[List.mem_singleton] at hz;rw[hz];exact ho
   ·refine .inr ⟨h1,⟨a',by rw[List.find?_append,h2];rfl,h2'⟩,fun z hz q=>?_⟩
    rcases List.mem_append.1 hz with hz|hz
    ·exact h3 z hz q
    ·simp only[List.mem_singleton] at hz;rw[hz,ho] at q;simp at q
  rw[z3h]
  simp only[q2e]
  by_cases c1:(q6b m a.to).isSome=true
  ·rw[if_pos c1]
   by_cases c2:((q6b m a.to).getD 0==w64 ((q6b m x).getD 0 - 1))=true
   ·rw[if_pos c2,w8h,Option.bind_some]
    by_cases c3:j3w how s a=true
    ·rw[if_pos c3]
     have ho:okB how s m x a=true:=by unfold okB;rw[c1,c2,c3];rfl
     rcases h with ⟨rfl,h2⟩|⟨h1,⟨a',h2,h2'⟩,h3⟩
     ·rw[if_pos (by simp)]
      refine fin a.to a.typ (.inr ⟨hne a (by simp),⟨a,?_,rfl⟩,fun z hz q=>?_⟩)
      ·rw[List.find?_append,List.find?_eq_none.2 (fun z hz=>by rw[h2 z hz];simp)]
       simp[ho]
      ·rcases List.mem_append.1 hz with hz|hz
       ·rw[h2 z hz] at q;simp at q
       ·simp only[List.mem_singleton] at hz;rw[hz];exact q9o _
     ·rw[if_neg (by simpa using h1)]
      by_cases c4:Op.bytesLess a.to b=true
      ·rw[if_pos c4]
       refine fin a.to a.typ (.inr ⟨hne a (by simp),⟨a,?_,rfl⟩,fun z hz q=>?_⟩)
       ·rw[List.find?_append,List.find?_eq_none.2 (fun z hz=>?_)]
        ·simp[ho]
        ·intro q
         simp only[Bool.and_eq_true,beq_iff_eq] at q
         have:=h3 z hz q.1
         rw[q.2,c4] at this;simp at this
       ·rcases List.mem_append.1 hz with hz|hz
        ·cases e:Op.bytesLess z.to a.to with
         |false=>rfl
         |true=>have:=q4n e c4;rw[h3 z hz q] at this;simp at this
        ·simp only[List.mem_singleton] at hz;rw[hz];exact q9o _
      ·rw[if_neg c4]
       refine fin b ty (.inr ⟨h1,⟨a',by rw[List.find?_append,h2];rfl,h2'⟩,fun z hz q=>?_⟩)
       rcases List.mem_append.1 hz with hz|hz
       ·exact h3 z hz q
       ·simp only[List.mem_singleton] at hz;rw[hz];simpa using c4
    ·rw[if_neg c3];exact fin b ty (keep (by unfold okB;rw[Bool.eq_false_iff.2 c3];simp))
   ·rw[if_neg c2];exact fin b ty (keep (by unfold okB;rw[Bool.eq_false_iff.2 c2];simp))
  ·rw[if_neg c1];exact fin b ty (keep (by unfold okB;rw[Bool.eq_false_iff.2 c1];simp))
theorem j0c(X:z1o g how fs s)(Y:Wys g how fs t d m){x:Tx}{q:Nat}(hq:q<=100000)(hx:DN8 g how fs t Y.ht (q+1) x)(a:q1a):okB how s m x a=true<->cnt g how fs a/\DN8 g how fs t Y.ht q a.to:=by
 have hw:w64 (((q+1:Nat):Int) - 1)=(q:Int):=by rw[q9w (by omega) (by omega)];omega
 unfold okB
 rw[Y.nam hx,Option.getD_some,hw,Bool.and_eq_true,Bool.and_eq_true,j1w X]
 constructor
 ·rintro⟨q1,q2,q3⟩
  refine⟨q3,?_⟩
  obtain⟨v,hv⟩:=Option.isSome_iff_exists.1 q1
  rw[hv] at q2
  obtain⟨k,e,dk⟩:=(Y.a _ _).1 hv
  have:v=(q:Int):=by simpa using q2
  obtain rfl:k=q:=by omega
  exact dk
 ·rintro⟨q3,dk⟩
  rw[Y.nam dk]
  exact⟨rfl,by simp,q3⟩
structure w6q(g:q7c)(how:Int)(fs:List Tx)(t:Nat)(ht:t<g.Funcs.length)(s:q5a)(m:List (Tx×Int))(f:q5e)(q:Nat)(h:q5j)(c:q6c)(j:Nat)(a:q1a):Prop where
 hj:∃hj:j<g.Funcs.length,h.To=(g.Funcs[j]).Name
 call:z3b fs f h=some c
 ina:a∈q3j g c
 cn:cnt g how fs a
 to:a.to=h.To
 near:DN8 g how fs t ht q h.To
 fnd:(q3j g c).find? (fun a=>okB how s m f.Name a&&(a.to==h.To))=some a
theorem v8p(F:Nat)(hF:1000<=F)(hh:how=1\/how=2)(S:v7v g how fs sp)(X:z1o g how fs s)(Y:Wys g how fs t d m){i:Nat}(hi:i<g.Funcs.length){q:Nat}(hq:q<=100000)(hx:DN8 g how fs t Y.ht (q+1) (g.Funcs[i]).Name)
  (k:Option (q5j×q6c×Int)) (k':Option (q5j×Tx)):∀(cs:List q6c) (p:Nat),(g.Funcs[i]).Calls.drop p=cs->(∃c,c∈cs/\onF fs c.Feature=true/\∃y,gd g how fs c y/\DN8 g how fs t Y.ht q y)->
  ∃h c j a,z1r F (wOf g how fs) sp d (i:Int) k cs (p:Int)=some (h,c,((j:Nat):Int))/\z4c F how s m (g.Funcs[i]).Name k' (lks g (onF fs) (g.Funcs[i]).Name (p:Int) cs)=some (h,a.typ)/\w6q g how fs t Y.ht s m (g.Funcs[i]) q h c j a
 |[],p,_,h=>by obtain⟨c,hc,_⟩:=h;simp at hc
 |c::cs,p,hd,hex=>by
  obtain⟨hp,hpc,hd2⟩:=q9t hd
  have hc:c∈(g.Funcs[i]).Calls:=by rw[<-hpc];exact List.getElem_mem hp
  have hon:(q6b (wOf g how fs).on c.Feature).getD false=onF fs c.Feature:=j7n g how fs c.Feature
  have hnum:=(Y.num hi hx).1
  rw[z1r,lks]
  simp only[q2e]
  rw[hon,show((p:Int)+1)=((p+1:Nat):Int) by omega]
  have skip:(onF fs c.Feature=true->∀y,gd g how fs c y->¬DN8 g how fs t Y.ht q y)->∃h c j a,z1r F (wOf g how fs) sp d (i:Int) k cs ((p+1:Nat):Int)=some (h,c,((j:Nat):Int))/\z4c F how s m (g.Funcs[i]).Name k' (lks g (onF fs) (g.Funcs[i]).Name ((p+1:Nat):Int) cs)=some (h,a.typ)/\w6q g how fs t Y.ht s m (g.Funcs[i]) q h c j a:=fun no=>by
   refine v8p F hF hh S X Y hi hq hx k k' cs (p+1) hd2 ?_
   obtain⟨c',hc',ho,y,hy,dy⟩:=hex
   rcases List.mem_cons.1 hc' with rfl|hc'
   ·exact absurd dy (no ho y hy)
   ·exact⟨c',hc',ho,y,hy,dy⟩
  by_cases ho:onF fs c.Feature=true
  ·rw[if_neg (by rw[ho];simp),if_pos ho]
   obtain⟨tl,T,e⟩:=w1r F hF Y.R hh S (List.getElem_mem hi) hc
   rw[e _ _ _ (fun l'=>v0d F _ d (i:Int) (p:Int) c _ l')]
   rw[z4c]
   simp only[q2e]
   obtain⟨b,ty,e2,B⟩:=j6s (how:=how) (s:=s) (m:=m) F (g.Funcs[i]).Name (fun s14 s15=>if (!(s14==([]:B8)))=true then some ((q5j.mk (q2n.mk (g.Funcs[i]).Name (p:Int)) s14),s15) else z4c F how s m (g.Funcs[i]).Name k' (lks g (onF fs) (g.Funcs[i]).Name ((p+1:Nat):Int) cs)) (q3j g c) [] [] [] (fun a ha=>by
    obtain⟨j,hj,hje⟩:=q3q (q1r Y.R (List.getElem_mem hi) hc ha)
    rw[<-hje];exact z9z Y.R (List.getElem_mem hj)) (.inl ⟨rfl,by simp⟩)
   rw[e2]
   rw[List.nil_append] at B
   rcases v1d F Y hi hnum hq (p:Int) c (z1r F (wOf g how fs) sp d (i:Int) k cs ((p+1:Nat):Int)) tl T.srt T.nat with ⟨j,hj,a1,a2,a3,a4⟩|⟨a1,a2⟩
   ·obtain⟨a,ha,hcn,hto⟩:=(T.mem j hj).1 a1
    have hok:okB how s m (g.Funcs[i]).Name a=true:=(j0c X Y hq hx a).2 ⟨hcn,by rw[hto];exact a2⟩
    rcases B with ⟨_,h2⟩|⟨h1,⟨a',h2,h2'⟩,h3⟩
    ·rw[h2 a ha] at hok;simp at hok
    ·have hp2:=List.find?_some h2
     have hin:=List.mem_of_find?_eq_some h2
     simp only[Bool.and_eq_true,beq_iff_eq] at hp2
     obtain⟨hcn',dn'⟩:=(j0c X Y hq hx a').1 hp2.1
     obtain⟨j',hj',hje'⟩:=q3q (q1r Y.R (List.getElem_mem hi) hc hin)
     have hle:j<=j':=a3 j' hj' ((T.mem j' hj').2 ⟨a',hin,hcn',hje'.symm⟩) (by rw[hje'];exact dn')
     have hjj:j=j':=by
      apply Classical.byContradiction
      intro hne
      have hlt:j<j':=by omega
      have:=List.pairwise_iff_getElem.1 Y.R.fsrt j j' hj hj' hlt
      have h4:=h3 a ha hok
      rw[hto,<-hp2.2,<-hje',this] at h4;simp at h4
     subst hjj
     have hb:b=(g.Funcs[j]).Name:=by rw[<-hp2.2,hje']
     rw[a4,if_pos (by simpa using h1)]
     refine⟨_,c,j,a',rfl,by rw[hb,h2'],⟨hj,rfl⟩,?_,hin,hcn',hje'.symm,a2,?_⟩
     ·unfold z3b
      rw[if_pos ⟨rfl,Int.natCast_nonneg _⟩]
      simp only[Int.toNat_natCast]
      rw[List.getElem?_eq_getElem hp,hpc,Option.bind_some,if_pos ho]
     ·rw[hb] at h2;exact h2
   ·rcases B with ⟨h1,h2⟩|⟨h1,⟨a',h2,h2'⟩,h3⟩
    ·rw[a2,if_neg (by simp[h1])]
     refine skip fun _ y ⟨a,ha,hcn,hto⟩ dy=>?_
     have:=(j0c X Y hq hx a).2 ⟨hcn,by rw[hto];exact dy⟩
     rw[h2 a ha] at this;simp at this
    ·have hp2:=List.find?_some h2
     have hin:=List.mem_of_find?_eq_some h2
     simp only[Bool.and_eq_true,beq_iff_eq] at hp2
     obtain⟨hcn',dn'⟩:=(j0c X Y hq hx a').1 hp2.1
     obtain⟨j',hj',hje'⟩:=q3q (q1r Y.R (List.getElem_mem hi) hc hin)
     exact absurd (by rw[hje'];exact dn') (a1 j' hj' ((T.mem j' hj').2 ⟨a',hin,hcn',hje'.symm⟩))
  ·rw[if_pos (by simpa using ho),if_neg ho]
   exact skip fun h=>absurd h ho
theorem hop_ok(F:Nat)(hF:1000<=F)(hh:how=1\/how=2)(S:v7v g how fs sp)(N:z3m g fs n)(X:z1o g how fs s)(Y:Wys g how fs t d m){i:Nat}(hi:i<g.Funcs.length){q:Nat}(hq:q<=100000)(hx:DN8 g how fs t Y.ht (q+1) (g.Funcs[i]).Name):
  ∃h c j a,M95 F (wOf g how fs) sp d (i:Int)=some (h,c,((j:Nat):Int))/\M104 F n how s m (g.Funcs[i]).Name=some (h,a.typ)/\w6q g how fs t Y.ht s m (g.Funcs[i]) q h c j a:=by
 obtain⟨y,⟨hr,f,hf,hfe,c,hc,ho,hg⟩,dy⟩:=hx.succ
 have e1:=q1w (f:=q5e.Name) Y.R.fsrt hf
 have e2:=z1e Y.R hi
 rw[hfe,e2] at e1
 obtain rfl:=Option.some.inj e1
 unfold M95 M104
 rw[show(wOf g how fs).g=g from rfl,q2h hi,Option.bind_some]
 simp only[q2e]
 have hl:(q6b n.links (g.Funcs[i]).Name).getD []=lks g (onF fs) (g.Funcs[i]).Name 0 (g.Funcs[i]).Calls:=N.l _ (List.getElem_mem hi)
 rw[hl]
 exact v8p F hF hh S X Y hi hq hx _ _ (g.Funcs[i]).Calls 0 rfl ⟨c,hc,ho,y,hg,dy⟩
end
section
variable{g:q7c}{how:Int}{fs:List Tx}{sp:q5c}{n:q2b}{s:q5a}{t:Nat}{d:List Int}{m:List (Tx×Int)}
theorem v9c(F:Nat)(hF:1000<=F)(R:q0h g)(S:v7v g how fs sp)(X:z1o g how fs s)(h2:how≠1){x:q5e}(hx:x∈g.Funcs){c:q6c}(hc:c∈x.Calls)(kd:c.Kind≠1){I:q0f}(I3:ifG g c.Target=I)(I4:∀t,j1p t I=true->(mOf t c.Method).2=true){j:Nat}(hj:j<g.Funcs.length)(k5:Option Tx):
  ∀(l:List q7i) (p:Nat),g.Types.drop p=l->j3g F (wOf g how fs) sp c (j:Int) k5 (q9l I (p:Int) l)=match (l.filterMap (j4a g c)).find? (fun a=>j3w how s a&&(a.to==(g.Funcs[j]).Name)) with|some a=>some a.typ|none=>k5
 |[],p,_=>rfl
 |ty::l,p,hd=>by
  obtain⟨hp,hpt,hd2⟩:=q9t hd
  have ih:=v9c F hF R S X h2 hx hc kd I3 I4 hj k5 l (p+1) hd2
  rw[q9l,List.filterMap_cons,show((p:Int)+1)=((p+1:Nat):Int) by omega]
  by_cases hf:j1p ty I=true
  ·have ha:j4a g c ty=some (q1a.mk ty.Name (mOf ty c.Method).1):=by unfold j4a;rw[if_pos ⟨I4 _ hf,by rw[I3];exact hf⟩]
   have hpm:p<sp.made.length:=by rw[S.ml];exact hp
   rw[if_pos hf,ha,j3g]
   simp only[q2e]
   rw[List.find?_cons,q2h hpm,Option.bind_some]
   have hty:ty∈g.Types:=by rw[<-hpt];exact List.getElem_mem hp
   have hcn:j3w how s (q1a.mk ty.Name (mOf ty c.Method).1)=sp.made[p]:=by
    rw[Bool.eq_iff_iff,j1w X]
    have:=S.m p hp
    unfold tru at this
    rw[List.getElem?_eq_getElem hpm,Option.some.injEq,hpt] at this
    rw[this]
    exact⟨fun q=>q h2 (j2c R hty),fun q _ _=>q⟩
   rw[hcn]
   cases hb:sp.made[p] with
   |false=>rw[if_neg (by simp),ih];simp
   |true=>
    rw[if_pos rfl,z7u hF R how fs c hp,Option.bind_some,hpt]
    have hin:q1a.mk ty.Name (mOf ty c.Method).1∈q3j g c:=by
     unfold q3j
     rw[if_neg kd]
     exact List.mem_filterMap.2 ⟨ty,hty,ha⟩
    obtain⟨q,hq,hqe⟩:=q3q (q1r R hx hc hin)
    have hqe:(g.Funcs[q]).Name=(mOf ty c.Method).1:=hqe
    rw[<-hqe,q1t R how fs hq]
    by_cases e:q=j
    ·subst e
     rw[if_pos (by simp),show(wOf g how fs).g=g from rfl,q2h hp,Option.bind_some,hpt]
     simp
    ·have hne:((g.Funcs[q]).Name==(g.Funcs[j]).Name)=false:=by
      rw[beq_eq_false_iff_ne];exact fun h=>e (z4z R hq hj h)
     rw[if_neg (by simp;omega),ih]
     simp[hne]
  ·have ha:j4a g c ty=none:=by unfold j4a;rw[if_neg (fun q=>hf (by rw[<-I3];exact q.2))]
   rw[if_neg hf,ha,ih]
theorem M96_ok(F:Nat)(hF:1000<=F)(S:v7v g how fs sp)(X:z1o g how fs s)(Y:Wys g how fs t d m)(h2:how≠1){f:q5e}(hf:f∈g.Funcs){q:Nat}(hq:q<=100000)(hx:DN8 g how fs t Y.ht (q+1) f.Name){h:q5j}{c:q6c}{j:Nat}{a:q1a}(hj:j<g.Funcs.length)(hto:h.To=(g.Funcs[j]).Name)(H:w6q g how fs t Y.ht s m f q h c j a)(kd:c.Kind≠1):M96 F (wOf g how fs) sp c (j:Int)=some a.typ:=by
 obtain⟨hc,_,_⟩:=q3w H.call
 obtain⟨I,I1,I2,I3,I4⟩:=z7t Y.R hf hc kd
 have e:(q6b (wOf g how fs).fitting c.Target).getD []=q9l I 0 g.Types:=by
  unfold wOf
  simp only
  rw[z8i g.Types c.Target g.Ifaces [] Y.R.isrt]
  simp only[q6b,Option.getD_none,List.nil_append]
  rw[I2];rfl
 unfold M96
 rw[e,q2e]
 have:=v9c F hF Y.R S X h2 hf hc kd I3 I4 hj (some []) g.Types 0 rfl
 rw[show((0:Nat):Int)=0 from rfl] at this
 rw[this]
 have hfn:=H.fnd
 have hfun:(fun a=>okB how s m f.Name a&&(a.to==h.To))=fun a=>j3w how s a&&(a.to==h.To):=by
  funext a'
  by_cases e:a'.to=h.To
  ·congr 1
   rw[Bool.eq_iff_iff,j0c X Y hq hx,j1w X,e]
   exact⟨fun q=>q.1,fun q=>⟨q,H.near⟩⟩
  ·have:(a'.to==h.To)=false:=by rw[beq_eq_false_iff_ne];exact e
   rw[this];simp
 rw[hfun,hto] at hfn
 unfold q3j at hfn
 rw[if_neg kd] at hfn
 rw[hfn]
def mkr(g:q7c)(s:q5a)(ty:Tx):Tx:=((g.Funcs.find? fun f=>(q6b s.reached f.Name).getD false&&f.Makes.contains ty).map q5e.Name).getD []
theorem v8c(F:Nat)(S:v7v g how fs sp)(X:z1o g how fs s)(ty:Tx)(k:Option Tx):∀(l:List q5e) (p:Nat),g.Funcs.drop p=l->j2g F sp ty k l (p:Int)=match l.find? (fun f=>(q6b s.reached f.Name).getD false&&f.Makes.contains ty) with|some f=>some f.Name|none=>k
 |[],p,_=>rfl
 |f::l,p,hd=>by
  obtain⟨hp,hpf,hd2⟩:=q9t hd
  have ih:=v8c F S X ty k l (p+1) hd2
  have hpl:p<sp.funcs.length:=by rw[S.fl];exact hp
  rw[j2g,List.find?_cons,show((p:Int)+1)=((p+1:Nat):Int) by omega]
  simp only[q2e]
  rw[q2h hpl,Option.bind_some]
  have hr:(q6b s.reached f.Name).getD false=sp.funcs[p]:=by
   rw[Bool.eq_iff_iff,X.r.get,X.hr]
   have:=S.f p hp
   unfold tru at this
   rw[List.getElem?_eq_getElem hpl,Option.some.injEq,hpf] at this
   exact this.symm
  rw[hr]
  cases hb:sp.funcs[p] with
  |false=>rw[if_neg (by simp),ih];simp
  |true=>
   rw[if_pos rfl,v7r,Option.bind_some]
   cases hm:f.Makes.contains ty with
   |false=>rw[if_neg (by simp),ih];simp
   |true=>rw[if_pos rfl];simp
theorem M97_ok(F:Nat)(S:v7v g how fs sp)(X:z1o g how fs s)(ty:Tx):M97 F (wOf g how fs) sp ty=some (mkr g s ty):=by
 unfold M97 mkr
 rw[q2e,show(wOf g how fs).g=g from rfl]
 have:=v8c F S X ty (some []) g.Funcs 0 rfl
 rw[show((0:Nat):Int)=0 from rfl] at this
 rw[this]
 cases g.Funcs.find? (fun f=>(q6b s.reached f.Name).getD false&&f.Makes.contains ty)<;>rfl
theorem j4s(F:Nat)(ty:Tx)(f:q5e)(k:Option Tx):∀l:List Tx,z2h F ty f k l=if l.contains ty=true then some f.Name else k
 |[]=>by simp[z2h]
 |x::l=>by
  rw[z2h,j4s F ty f k l,List.contains_cons]
  by_cases h:x=ty
  ·rw[if_pos (by simpa using h),if_pos (by simp[h])]
  ·have h1:(ty==x)=false:=by rw[beq_eq_false_iff_ne];exact Ne.symm h
   rw[if_neg (by simpa using h),h1,Bool.false_or]
theorem j5s(F:Nat)(ty:Tx)(k:Option Tx):∀l:List q5e,z7n F s ty k l=match l.find? (fun f=>(q6b s.reached f.Name).getD false&&f.Makes.contains ty) with|some f=>some f.Name|none=>k
 |[]=>rfl
 |f::l=>by
  rw[z7n,List.find?_cons]
  simp only[q2e]
  rw[j4s,j5s F ty k l]
  cases (q6b s.reached f.Name).getD false<;>cases f.Makes.contains ty<;>simp
theorem y4d(F:Nat)(N:z3m g fs n)(ty:Tx):M106 F n s ty=some (mkr g s ty):=by
 unfold M106 mkr
 rw[q2e,j5s,N.gr]
 cases g.Funcs.find? (fun f=>(q6b s.reached f.Name).getD false&&f.Makes.contains ty)<;>rfl
inductive z8h(g:q7c)(how:Int)(fs:List Tx)(T:Tx):Tx->List q5j->List Tx->Prop
 |nil:z8h g how fs T T [] []
 |all {f:q5e} {h:q5j} {hs:List q5j} {ts:List Tx} {c:q6c} (hf:f∈g.Funcs) (hc:z3b fs f h=some c) (ha:∃a,a∈q3j g c/\a.to=h.To) (h1:how=1\/c.Kind=1) (r:z8h g how fs T h.To hs ts) (hd:f.Name≠h.To):z8h g how fs T f.Name (h::hs) ts
 |dis {f:q5e} {h:q5j} {hs:List q5j} {ts:List Tx} {c:q6c} {a:q1a} (hf:f∈g.Funcs) (hc:z3b fs f h=some c) (h2:how≠1) (kd:c.Kind≠1) (ha:a∈q3j g c) (hto:a.to=h.To) (hne:a.typ≠[]) (hr:RN g how (onF fs) true a.typ) (r:z8h g how fs T h.To hs ts) (hd:f.Name≠h.To):z8h g how fs T f.Name (h::hs) (a.typ::ts)
def j8y(mm:List (Tx×Bool))(ts:List Tx):List (Tx×Bool):=ts.foldl (fun mm t=>q0g mm t true) mm
def mkE(g:q7c)(s:q5a)(p:Tx×Bool):Tx×Tx:=(p.1,mkr g s p.1)
theorem w3b(x:Tx):∀mm:List (Tx×Bool),q0g (mm.map (mkE g s)) x (mkr g s x)=(q0g mm x true).map (mkE g s)
 |[]=>rfl
 |p::mm=>by
  simp only[List.map_cons,q0g]
  by_cases h:p.1=x
  ·rw[if_pos (by simpa[mkE] using h),if_pos h];simp[mkE]
  ·rw[if_neg (by simpa[mkE] using h),if_neg h,w3b x mm];rfl
theorem v4l(F:Nat)(hF:1000<=F)(hh:how=1\/how=2)(S:v7v g how fs sp)(N:z3m g fs n)(X:z1o g how fs s)(Y:Wys g how fs t d m)(y5:(Option q1b)×Int×Int)(hy5:y5.2.1=(t:Int))
  (k:List (Tx×Tx)->List q5j->Option (q3e×Bool×Int)) (k':List (Tx×Bool)->List q5j->Option (q3e×Bool×Int)):
  ∀(q fuel i:Nat) (hi:i<g.Funcs.length) (mm:List (Tx×Bool)) (l:List q5j),DN8 g how fs t Y.ht q (g.Funcs[i]).Name->q<fuel->l.length+q<=100000->
  ∃hs ts,z4l F y5 (wOf g how fs) sp d k fuel (i:Int) (mm.map (mkE g s)) l=k ((j8y mm ts).map (mkE g s)) (l++hs)/\z3l F how (g.Funcs[t]'Y.ht).Name n s m k' fuel (g.Funcs[i]).Name mm l=k' (j8y mm ts) (l++hs)/\
   z8h g how fs (g.Funcs[t]'Y.ht).Name (g.Funcs[i]).Name hs ts/\hs.length=q
 |_,0,_,_,_,_,_,h,_=>absurd h (Nat.not_lt_zero _)
 |0,fuel+1,i,hi,mm,l,hq,_,_=>by
  have e:i=t:=z4z Y.R hi Y.ht (Ds.zero.1 hq)
  subst e
  refine⟨[],[],?_,?_,.nil,rfl⟩
  ·rw[z4l,hy5,if_neg (by simp)];simp[j8y]
  ·rw[z3l,if_neg (by simp)];simp[j8y]
 |q+1,fuel+1,i,hi,mm,l,hq,hfu,hl=>by
  have hne:i≠t:=fun e=>by
   subst e
   have:=hq.uniq (Ds.zero.2 rfl)
   omega
  have hnn:((g.Funcs[i]).Name==(g.Funcs[t]'Y.ht).Name)=false:=by
   rw[beq_eq_false_iff_ne];exact fun h=>hne (z4z Y.R hi Y.ht h)
  obtain⟨h,c,j,a,e1,e2,H⟩:=hop_ok F hF hh S N X Y hi (by omega) hq
  obtain⟨hj,hto⟩:=H.hj
  have hin:=q3w H.call
  have hdd:(g.Funcs[i]).Name≠h.To:=fun e=>by
   have h1:=H.near
   rw[<-e] at h1
   have:=hq.uniq h1
   omega
  have hkind:=(Y.R.f _ (List.getElem_mem hi)).calls c hin.1
  have hlen:(l++[h]).length*40<=140737488355328:=by simp;omega
  have hl2:(l++[h]).length+q<=100000:=by simp;omega
  have near:DN8 g how fs t Y.ht q (g.Funcs[j]).Name:=by rw[<-hto];exact H.near
  have hne':((i:Int) != (t:Int))=true:=by rw[bne_iff_ne];omega
  rw[z4l,hy5,if_pos hne',e1,Option.bind_some,z3l,hnn,if_pos (show(!false)=true from rfl),e2,Option.bind_some,if_pos hlen]
  simp only[q2e]
  rw[v6i hh,hto]
  by_cases h2:how=1
  ·have hA:(how==2)=false:=by rw[h2];decide
   obtain⟨hs,ts,a1,a2,a3,a4⟩:=v4l F hF hh S N X Y y5 hy5 k k' q fuel j hj mm (l++[h]) near (by omega) hl2
   simp only[hA,Bool.false_eq_true,if_false,if_pos hlen]
   refine⟨h::hs,ts,by rw[a1];simp,by rw[a2];simp,.all (List.getElem_mem hi) H.call ⟨a,H.ina,H.to⟩ (.inl h2) (by rw[hto];exact a3) hdd,by simp[a4]⟩
  ·have h3:how=2:=by omega
   have hA:(how==2)=true:=by rw[h3];decide
   by_cases kd:c.Kind=1
   ·have haim:a.typ=[]:=by
     have:=H.ina
     unfold q3j at this
     rw[if_pos kd] at this
     simp only[List.mem_singleton] at this
     rw[this]
    have hK:(c.Kind==2)=false:=by rw[kd];decide
    have hT:(!(a.typ==([]:Tx)))=false:=by rw[haim];rfl
    obtain⟨hs,ts,a1,a2,a3,a4⟩:=v4l F hF hh S N X Y y5 hy5 k k' q fuel j hj mm (l++[h]) near (by omega) hl2
    simp only[hA,hK,hT,Bool.false_eq_true,if_false,if_true,if_pos hlen]
    refine⟨h::hs,ts,by rw[a1];simp,by rw[a2];simp,.all (List.getElem_mem hi) H.call ⟨a,H.ina,H.to⟩ (.inr kd) (by rw[hto];exact a3) hdd,by simp[a4]⟩
   ·have kd2:c.Kind=2:=by rcases hkind.kind with ⟨q,_⟩|⟨q,_⟩<;>omega
    have hne:a.typ≠[]:=by
     have:=H.ina
     unfold q3j at this
     rw[if_neg kd] at this
     obtain⟨ty,hty,h4⟩:=List.mem_filterMap.1 this
     unfold j4a at h4
     split at h4
     ·simp only[Option.some.injEq] at h4;rw[<-h4];exact j2c Y.R hty
     ·simp at h4
    have hK:(c.Kind==2)=true:=by rw[kd2];decide
    have hT:(!(a.typ==([]:Tx)))=true:=by rw[Bool.not_eq_true',beq_eq_false_iff_ne];exact hne
    obtain⟨hs,ts,a1,a2,a3,a4⟩:=v4l F hF hh S N X Y y5 hy5 k k' q fuel j hj (q0g mm a.typ true) (l++[h]) near (by omega) hl2
    simp only[hA,hK,hT,if_true,M96_ok F hF S X Y h2 (List.getElem_mem hi) (by omega) hq hj hto H kd,M97_ok F S X,Option.bind_some,w3b,if_pos hlen]
    refine⟨h::hs,a.typ::ts,by rw[a1];simp[j8y],by rw[a2];simp[j8y],.dis (List.getElem_mem hi) H.call h2 kd H.ina H.to hne (H.cn h2 hne) (by rw[hto];exact a3) hdd,by simp[a4]⟩
theorem v3z{T:Tx}{b:Bool}{y:Tx}(h:RN g how (onF fs) b y):b=false->(∃k,Wk (Ed g how fs) T k y)->∃e,e∈g.Entries/\∃k,Wk (Ed g how fs) T k e:=by
 induction h with
 |entry he=>exact fun _ w=>⟨_,he,w⟩
 |aim hf hx hc ho ha hm ih _=>
  intro _ ⟨k,w⟩
  exact ih rfl ⟨k+1,.s ⟨hf,_,hx,rfl,_,hc,ho,_,ha,hm,rfl⟩ w⟩
 |mk=>intro q;simp at q
end
theorem nt_bl{a b c:Tx}(h:Op.bytesLess a b=false)(h':Op.bytesLess b c=false):Op.bytesLess a c=false:=by
 have:=q2z c b a (by simp[leT,h']) (by simp[leT,h])
 simpa[leT] using this
theorem y5b{α:Type}{cmp:α->α->Option Int}{x y:α}{a b:Tx}(h:cmp x y=some (if Op.bytesLess a b=true then -1 else if a=b then 0 else 1)):(cmp x y).isSome=true/\q1q cmp x y=Op.bytesLess a b:=by
 refine⟨by rw[h];rfl,?_⟩
 unfold q1q
 rw[h]
 cases hb:Op.bytesLess a b with
 |true=>rw[if_pos rfl];rfl
 |false=>
  rw[if_neg (by simp)]
  by_cases e:a=b
  ·rw[if_pos e];rfl
  ·rw[if_neg e];rfl
theorem w7s{α:Type}{nm:α->Tx}:∀{l:List α},(l.map nm).Nodup->∀x,x∈l->∀y,y∈l->nm x=nm y->x=y
 |[],_,x,hx,_,_,_=>by simp at hx
 |z::l,h,x,hx,y,hy,e=>by
  rw[List.map_cons,List.nodup_cons] at h
  rcases List.mem_cons.1 hx with e1|hx2
  ·rcases List.mem_cons.1 hy with e2|hy2
   ·rw[e1,e2]
   ·exact absurd (List.mem_map.2 ⟨y,hy2,by rw[<-e,e1]⟩) h.1
  ·rcases List.mem_cons.1 hy with e2|hy2
   ·exact absurd (List.mem_map.2 ⟨x,hx2,by rw[e,e2]⟩) h.1
   ·exact w7s h.2 x hx2 y hy2 e
theorem v7y{α:Type}{nm:α->Tx}{cmp:α->α->Option Int}(hc:∀x y,(cmp x y).isSome=true/\q1q cmp x y=Op.bytesLess (nm x) (nm y)){l s:List α}(hn:(l.map nm).Nodup)(hs:s.Pairwise fun x y=>Op.bytesLess (nm x) (nm y)=true)(hp:l.Perm s)(hl:l.length<4611686018427387904):w6i cmp l=some s:=by
 have hlt:∀x y,q1q cmp x y=Op.bytesLess (nm x) (nm y):=fun x y=>(hc x y).2
 have h1:v4v cmp l=true:=by
  unfold v4v
  refine List.all_eq_true.2 fun x _=>?_
  rw[Bool.and_eq_true]
  refine⟨by rw[hlt,q9o];rfl,List.all_eq_true.2 fun y _=>?_⟩
  rw[Bool.and_eq_true]
  refine⟨(hc x y).1,List.all_eq_true.2 fun z _=>?_⟩
  rw[hlt,hlt,hlt]
  cases e1:Op.bytesLess (nm x) (nm y)<;>cases e2:Op.bytesLess (nm y) (nm z)
  ·rw[nt_bl e1 e2];rfl
  ·simp
  ·simp
  ·rw[q4n e1 e2];rfl
 have h2:v6v cmp l=true:=by
  rw[v8j]
  rw[List.nodup_iff_pairwise_ne,List.pairwise_map] at hn
  refine hn.imp fun {x y} g=>?_
  rw[hlt,hlt]
  rcases z8k (nm x) (nm y) with q|q|q
  ·rw[q];rfl
  ·exact absurd q g
  ·rw[q];simp
 have hms:(l.mergeSort fun x y=>!q1q cmp y x)=s:=by
  refine List.Perm.eq_of_pairwise (le:=fun x y=>leT (nm x) (nm y)=true) (fun x y hx hy g g'=>?_) ?_ (hs.imp fun g=>w1c g) ((List.mergeSort_perm _ _).trans hp)
  ·have e:=j9u g g'
   have hx':=(List.mergeSort_perm _ _).mem_iff.1 hx
   have hy':=hp.mem_iff.2 hy
   apply Classical.byContradiction
   intro hne
   exact hne (w7s hn x hx' y hy' e)
  ·refine(List.pairwise_mergeSort (le:=fun x y=>!q1q cmp y x) (fun a b c g g'=>?_) (fun a b=>?_) l).imp (fun {x y} g=>?_)
   ·rw[hlt] at *;exact q2z (nm a) (nm b) (nm c) g g'
   ·rw[hlt,hlt];exact z7d (nm a) (nm b)
   ·rw[hlt] at g;exact g
 unfold w6i
 rw[h1,h2,hms,v2k (hs.imp fun {x y} g=>by rw[hlt];exact q3s g),show Nat.blt l.length 4611686018427387904=true from by rw[Nat.blt_eq];exact hl]
 rfl
section
variable{g:q7c}{how:Int}{fs:List Tx}{sp:q5c}{n:q2b}{s:q5a}{t:Nat}{d:List Int}{m:List (Tx×Int)}
def mbT(g:q7c)(s:q5a)(ty:Tx):q0c:=q0c.mk ty (mkr g s ty)
theorem j7y(y:Tx):∀(ts:List Tx) (mm:List (Tx×Bool)),y∈(j8y mm ts).map (·.1)<->y∈ts\/y∈mm.map (·.1)
 |[],mm=>by simp[j8y]
 |x::ts,mm=>by
  have:=j7y y ts (q0g mm x true)
  unfold j8y at this ⊢
  rw[List.foldl_cons,this,z6d]
  by_cases h:x∈mm.map (·.1)
  ·rw[if_pos h,List.mem_cons]
   exact⟨fun q=>q.elim (fun q=>.inl (.inr q)) .inr,fun q=>q.elim (fun q=>q.elim (fun q=>.inr (by rw[q];exact h)) .inl) .inr⟩
  ·rw[if_neg h,List.mem_append,List.mem_singleton,List.mem_cons]
   exact⟨fun q=>q.elim (fun q=>.inl (.inr q)) (fun q=>q.elim .inr (fun q=>.inl (.inl q))),fun q=>q.elim (fun q=>q.elim (fun q=>.inr (.inr q)) .inl) (fun q=>.inr (.inl q))⟩
theorem v6h:∀(ts:List Tx) (mm:List (Tx×Bool)),(mm.map (·.1)).Nodup->((j8y mm ts).map (·.1)).Nodup
 |[],mm,h=>h
 |x::ts,mm,h=>by
  have:=v6h ts (q0g mm x true) (by
   rw[z6d]
   split
   ·exact h
   ·rename_i hx
    exact List.nodup_append.2 ⟨h,by simp,fun a ha b hb=>by simp only[List.mem_singleton] at hb;subst hb;intro e;subst e;exact hx ha⟩)
  exact this
theorem z8h.types{T x:Tx}{hs:List q5j}{ts:List Tx}(h:z8h g how fs T x hs ts):∀y,y∈ts->RN g how (onF fs) true y:=by
 induction h with
 |nil=>simp
 |all _ _ _ _ _ _ ih=>exact ih
 |dis _ _ _ _ _ _ _ hr _ _ ih=>
  intro y hy
  rcases List.mem_cons.1 hy with rfl|hy
  ·exact hr
  ·exact ih y hy
def tyL(ts:List Tx):List Tx:=v3m ((j8y [] ts).map (·.1))
theorem w9u(ts:List Tx)(y:Tx):y∈tyL ts<->y∈ts:=by
 unfold tyL
 rw[(q6o _).mem_iff,j7y];simp
theorem v5w(ts:List Tx):(tyL ts).Pairwise fun a b=>Op.bytesLess a b=true:=
 z9v (z2i _) ((q6o _).nodup_iff.2 (v6h ts [] (by simp)))
theorem w0v(R:q0h g){ts:List Tx}(h:∀y,y∈ts->RN g how (onF fs) true y):(tyL ts).length<=500:=by
 have:=List.Nodup.length_le_of_subset (q3x (v5w ts)) (l₂:=g.Types.map q7i.Name) (fun y hy=>by
  obtain⟨i,hi,rfl⟩:=w7j ((h y ((w9u ts y).1 hy)).names R)
  exact List.mem_map_of_mem (List.getElem_mem hi))
 simp only[List.length_map] at this
 have:=R.tl
 omega
theorem v2n(ts:List Tx):(j8y [] ts).length=(tyL ts).length:=by
 unfold tyL
 rw[(q6o _).length_eq,List.length_map]
theorem M99_by(F:Nat)(x y:q0c):M99 F x y=some (if Op.bytesLess x.Type_ y.Type_=true then -1 else if x.Type_=y.Type_ then 0 else 1):=by
 unfold M99
 rw[v0l,Option.bind_some]
theorem w3h(F:Nat)(x:q5e)(l:List q5j){ts:List Tx}(hl:(tyL ts).length<=500):q5w F x l ((j8y [] ts).map (mkE g s)) []=some (q3e.mk x.Name l ((tyL ts).map (mbT g s)),true,0):=by
 have hlen:=v2n ts
 rw[j4j,if_pos (.inr (by simp only[List.length_nil,List.length_map];omega))]
 unfold w9n
 rw[q5w,List.nil_append]
 have hmap:((j8y [] ts).map (mkE g s)).map (fun e=>q0c.mk e.1 e.2)=((j8y [] ts).map (·.1)).map (mbT g s):=by
  rw[List.map_map,List.map_map];rfl
 rw[hmap]
 have hs:w6i (fun x3 y4=>M99 F x3 y4) (((j8y [] ts).map (·.1)).map (mbT g s))=some ((tyL ts).map (mbT g s)):=by
  refine v7y (nm:=q0c.Type_) (fun x y=>y5b (M99_by F x y)) ?_ ?_ ((q6o _).symm.map _) (by simp;omega)
  ·rw[List.map_map,show(q0c.Type_ ∘ mbT g s)=id from rfl,List.map_id]
   exact v6h ts [] (by simp)
  ·rw[List.pairwise_map];exact v5w ts
 unfold M98
 rw[hs,Option.bind_some,if_pos (by simp;omega)]
theorem v8f(F:Nat)(N:z3m g fs n)(k:List q0c->Option (q3e×Bool×Int)):∀(l:List Tx) (o:List q0c),o.length+l.length<=100000->z2l F n s k l o=k (o++l.map (mbT g s))
 |[],o,_=>by simp[z2l]
 |x::l,o,h=>by
  simp only[List.length_cons] at h
  rw[z2l,y4d F N,Option.bind_some,if_pos (by simp;omega),v8f F N k l _ (by simp;omega)]
  simp[mbT]
theorem y5d(F:Nat)(hF:10000<=F){ts:List Tx}(hl:(tyL ts).length<=500):y6d F (j8y [] ts)=some (tyL ts):=by
 have hlen:=v2n ts
 unfold y6d
 rw[z5j,if_pos (.inr (by simp only[List.length_nil];omega)),j5j,List.nil_append,List.length_map,if_pos (v1o 13 F _ (by omega) (by omega) (by omega))]
 rfl
end
theorem M14_ok:M14 20003=some true:=by kernel_rfl
section
variable{g:q7c}{how:Int}{fs:List Tx}{s:q5a}{n:q2b}
theorem M90_eq(F:Nat)(hF:10000<=F)(hg:q2o g)(hfs:∀x,x∈fs->x.length<=maxLen)(t:Tx):
  M90 F g how fs t=some (if z7v g how fs≠0 then (none,0,z7v g how fs) else if q4q g t=true then (some (wOf g how fs),fI (wOf g how fs) t,0) else (none,0,4)):=by
 unfold M90
 rw[w4u F g how fs hg hfs (by omega),Option.bind_some]
 by_cases h0:z7v g how fs=0
 ·rw[h0]
  simp only[ne_eq,not_true_eq_false,if_false,bne_self_eq_false,Bool.false_eq_true,Option.bind_some]
  cases ht:q4q g t
  ·rw[z2e how fs ht];simp
  ·obtain⟨i,hi,he⟩:=q3q ht
   have:q6b (wOf g how fs).funcs t=some (i:Int):=by rw[<-he];exact z5t (q9y h0).1 how fs hi
   unfold fI
   rw[this];simp
 ·have h0':(z7v g how fs != 0)=true:=by simpa using h0
  simp only[ne_eq,h0,not_false_eq_true,if_true,h0']
theorem ans_ex(R:q0h g)(X:z1o g how fs s):∃u,Ans g how fs (s.reached.map (·.1)) (s.made.map (·.1)) u:=by
 refine⟨(insAll [] ((g.Funcs.filter fun f=>(q6b s.reached f.Name).getD false).map q5e.Component)).map (·.1),X.r.srt,X.m.srt,(q8u.nil.insAll _).srt,X.hr,X.hm,fun c=>?_⟩
 rw[q8v]
 simp only[List.map_nil,List.not_mem_nil,or_false,List.mem_map,List.mem_filter]
 constructor
 ·rintro⟨x,⟨hx,hr⟩,rfl⟩
  exact⟨x,hx,(X.hr _).1 ((X.r.get _).1 hr),rfl⟩
 ·rintro⟨x,hx,hr,rfl⟩
  exact⟨x,⟨hx,(X.r.get _).2 ((X.hr _).2 hr)⟩,rfl⟩
theorem w8n(F:Nat)(hF:20000<=F)(hg:q2o g)(hfs:∀x,x∈fs->x.length<=maxLen)(hl:fs.length<=maxLen)(T:Tx):
  ∃w b e,M28 F g how fs T=some (w,b,e)/\M29 F g how fs T=some (w,b,e)/\(b=true->e=0/\z7v g how fs=0/\q4q g T=true/\w.Made.length<=500/\w.Hops.length<=100000/\∃ts,z8h g how fs T w.Entry w.Hops ts):=by
 have h28:M28 F g how fs T=(M90 F g how fs T).bind _:=rfl
 have h29:M29 F g how fs T=(w3j F g how fs [T]).bind _:=rfl
 rw[M90_eq F (by omega) hg hfs T,Option.bind_some] at h28
 rw[j5a hg hfs hl T,Option.bind_some] at h29
 by_cases h0:z7v g how fs=0
 ·by_cases hT:q4q g T=true
  ·obtain⟨R,hh⟩:=q9y h0
   obtain⟨t,ht,rfl⟩:=q3q hT
   obtain⟨sp,s1,S⟩:=v8y (how:=how) (fs:=fs) F R hh (by omega)
   obtain⟨n,n1,N⟩:=w1h F g fs R
   obtain⟨s,x1,X⟩:=v9k (how:=how) R N F (by omega)
   have hft:fI (wOf g how fs) (g.Funcs[t]).Name=(t:Int):=q1t R how fs ht
   have htl:t<sp.funcs.length:=by rw[S.fl];exact ht
   have hreach:(q6b s.reached (g.Funcs[t]).Name).getD false=sp.funcs[t]:=by
    rw[Bool.eq_iff_iff,X.r.get,X.hr]
    have:=S.f t ht
    unfold tru at this
    rw[List.getElem?_eq_getElem htl,Option.some.injEq] at this
    exact this.symm
   simp only[ne_eq,h0,not_true_eq_false,if_false,hT,if_true,bne_self_eq_false,Bool.false_eq_true,Option.bind_some,hft] at h28
   simp only[ne_eq,h0,not_true_eq_false,if_false,hT,if_true,bne_self_eq_false,Bool.false_eq_true] at h29
   rw[s1,Option.bind_some,Option.bind_some,q2h htl,Option.bind_some] at h28
   rw[n1,Option.bind_some,x1,Option.bind_some,hreach] at h29
   cases hb:sp.funcs[t] with
   |false=>
    rw[hb,if_pos (by simp)] at h28 h29
    exact⟨_,_,_,h28,h29,by simp⟩
   |true=>
    rw[hb,if_neg (by simp)] at h28 h29
    obtain⟨d,d1,W⟩:=M94_ok F (by omega) R hh S ht
    obtain⟨m,m1,A⟩:=y7d F (by omega) R N X hT
    have Y:Wys g how fs t d m:=⟨R,ht,W,A⟩
    rw[d1,Option.bind_some] at h28
    rw[m1,Option.bind_some] at h29
    simp only[q2e] at h28 h29
    obtain⟨n',x',b1,b2,B,b4,b5⟩:=j5w F Y (fun n20=>(idx g.Funcs n20).bind fun x42=>z4l F (some (wOf g how fs),(t:Int),0) (wOf g how fs) sp d (fun m45 l46=>q5w F x42 l46 m45 ([]:List q0c)) F n20 ([]:List (Tx×Tx)) ([]:List q5j))
     (fun s16=>z3l F how (g.Funcs[t]).Name n s m (fun m33 l34=>(y6d F m33).bind fun y49=>z2l F n s (fun l52=>some ((q3e.mk s16 l34 l52),true,0)) y49 ([]:List q0c)) F s16 ([]:List (Tx×Bool)) ([]:List q5j)) g.Entries (-1) [] R.e (.inl ⟨rfl,rfl⟩)
    rw[b1] at h28
    rw[b2] at h29
    have hrT:RN g how (onF fs) false (g.Funcs[t]).Name:=(S.f t ht).1 (by unfold tru;rw[List.getElem?_eq_getElem htl,hb])
    obtain⟨e,he,k,w⟩:=v3z hrT rfl ⟨0,.z⟩
    obtain⟨q0,_,dq0⟩:=w.least
    have hne:=b4 (.inr ⟨e,he,q0,dq0⟩)
    rcases B with ⟨_,rfl⟩|⟨i,hi,q,rfl,rfl,dq⟩
    ·exact absurd rfl hne
    ·have hq:=(Y.num hi dq).2
     rw[q2h hi,Option.bind_some] at h28
     obtain⟨hs,ts,a1,a2,H,hlen⟩:=v4l F (by omega) hh S N X Y (some (wOf g how fs),(t:Int),0) rfl (fun m45 l46=>q5w F g.Funcs[i] l46 m45 ([]:List q0c))
      (fun m33 l34=>(y6d F m33).bind fun y49=>z2l F n s (fun l52=>some ((q3e.mk (g.Funcs[i]).Name l34 l52),true,0)) y49 ([]:List q0c)) q F i hi [] [] dq (by omega) (by simp;omega)
     have hty:(tyL ts).length<=500:=w0v R H.types
     rw[show([]:List (Tx×Tx))=([]:List (Tx×Bool)).map (mkE g s) from rfl,a1,List.nil_append,w3h F g.Funcs[i] hs hty] at h28
     rw[a2,List.nil_append,y5d F (by omega) hty,Option.bind_some,v8f F N _ _ _ (by simp;omega),List.nil_append] at h29
     exact⟨_,_,_,h28,h29,fun _=>⟨rfl,h0,hT,by simpa using hty,by simp only[hlen];omega,ts,H⟩⟩
  ·simp only[ne_eq,h0,not_true_eq_false,if_false,Bool.eq_false_iff.2 hT,Bool.false_eq_true] at h28 h29
   exact⟨_,_,_,h28,h29,by simp⟩
 ·have h0':(z7v g how fs != 0)=true:=by simpa using h0
  simp only[ne_eq,h0,not_false_eq_true,if_true,h0'] at h28 h29
  exact⟨_,_,_,h28,h29,by simp⟩
theorem v1m{M:List q0c}{a:Tx}{l:List Bool}{h:q5j}{p:Tx×List Bool}(hp:j8t g how fs M a l h=some p):p.1=h.To:=by
 unfold j8t at hp
 cases hf:g.Funcs.find? (fun x=>x.Name==a) with
 |none=>rw[hf] at hp;simp at hp
 |some x=>
  rw[hf,Option.bind_some] at hp
  cases hc:z3b fs x h with
  |none=>rw[hc] at hp;simp at hp
  |some c=>
   rw[hc,Option.bind_some] at hp
   split at hp
   ·simp at hp
   ·split at hp
    ·simp only[Option.some.injEq] at hp;rw[<-hp]
    ·split at hp
     ·simp only[Option.some.injEq] at hp;rw[<-hp]
     ·simp at hp
theorem j8m{M:List q0c}{a:Tx}{l:List Bool}{h:q5j}(hne:h.Site.Func≠a):j8t g how fs M a l h=none:=by
 unfold j8t
 cases hf:g.Funcs.find? (fun x=>x.Name==a) with
 |none=>rfl
 |some x=>
  rw[Option.bind_some]
  have hx:x.Name=a:=by simpa using List.find?_some hf
  cases hc:z3b fs x h with
  |none=>rfl
  |some c=>exact absurd ((q3w hc).2.2.trans hx) hne
theorem bent{T x:Tx}{hs:List q5j}{ts:List Tx}(H:z8h g how fs T x hs ts)(M:List q0c):∀(p:Nat),p<hs.length->∀(l:List Bool),∀q,q8w g how fs M (hs.take p++hs.drop (p+1)) x l=some q->q.1≠T:=by
 have first:∀{z y:Tx} {hs:List q5j} {ts:List Tx},z8h g how fs T y hs ts->z≠y->∀(l:List Bool) q,q8w g how fs M hs z l=some q->q.1≠T:=by
  intro z y hs ts r hd l q hq
  cases r with
  |nil=>
   simp only[q8w,Option.some.injEq] at hq
   rw[<-hq];exact hd
  |all hf hc _ _ _ _=>
   rw[q8w,j8m (by rw[(q3w hc).2.2];exact fun e=>hd e.symm)] at hq
   simp at hq
  |dis hf hc _ _ _ _ _ _ _ _=>
   rw[q8w,j8m (by rw[(q3w hc).2.2];exact fun e=>hd e.symm)] at hq
   simp at hq
 induction H with
 |nil=>intro p hp;simp at hp
 |all hf hc ha h1 r hd ih=>
  intro p hp l q hq
  cases p with
  |zero=>exact first r hd l q hq
  |succ p=>
   simp only[List.take_succ_cons,List.drop_succ_cons,List.cons_append,q8w] at hq
   obtain⟨u,hu,hq⟩:=Option.bind_eq_some_iff.1 hq
   rw[v1m hu] at hq
   exact ih p (by simpa using hp) _ q hq
 |dis hf hc h2 kd ha hto hne hr r hd ih=>
  intro p hp l q hq
  cases p with
  |zero=>exact first r hd l q hq
  |succ p=>
   simp only[List.take_succ_cons,List.drop_succ_cons,List.cons_append,q8w] at hq
   obtain⟨u,hu,hq⟩:=Option.bind_eq_some_iff.1 hq
   rw[v1m hu] at hq
   exact ih p (by simpa using hp) _ q hq
theorem v0u(F:Nat){l:List q0c}(h:l.length<=100000)(hn:l≠[]):M37 F l=some l:=by
 unfold M37
 rw[v2i (by simpa using hn),if_neg (by simp),List.nil_append,if_pos (by omega)]
theorem v1u(F:Nat){l:List q5j}(h:l.length<=100000)(hn:l≠[]):M39 F l=some l:=by
 unfold M39
 rw[v2i (by simpa using hn),if_neg (by simp),List.nil_append,if_pos (by omega)]
theorem w7k(g:q7c)(how:Int)(fs:List Tx)(t:Tx)(at':Int)(mk:Bool)(hg:q2o g)(hi:(IntKind.i64).min<=how/\how<=(IntKind.i64).max)(hfs:(∀a,a∈fs->(fun x:B8=>x.length<=maxLen) a)/\fs.length<=maxLen)(ht:t.length<=maxLen)(ha:(IntKind.i64).min<=at'/\at'<=(IntKind.i64).max)(hm:True):∃F,M10 F g how fs t at' mk=some true:=by
 refine⟨20003,?_⟩
 have h14:=M14_ok
 revert h14
 generalize hF:20003=F
 intro h14
 obtain⟨w,b,e,h1,h2,h3⟩:=w8n (how:=how) F (by omega) hg hfs.1 hfs.2 t
 have fin:∀{α:Type} (f:Bool->Option α),(M14 F).bind f=f true:=fun f=>by rw[h14];rfl
 unfold M10
 rw[h1,Option.bind_some,h2,Option.bind_some]
 simp only[q2e,fin,beq_self_eq_true,if_true]
 by_cases he:e=0
 ·subst he
  rw[if_neg (by simp)]
  cases b with
  |false=>rw[if_pos (by simp)]
  |true=>
   obtain⟨-,h0,hT,m1,m2,ts,H⟩:=h3 rfl
   obtain⟨R,hh⟩:=q9y h0
   obtain⟨n,n1,N⟩:=w1h F g fs R
   obtain⟨s,x1,X⟩:=v9k (how:=how) R N F (by omega)
   obtain⟨u,A⟩:=ans_ex R X
   have hold:∀w':q3e,w'.Made.length<=maxLen->∃r,M31 F g how fs t w'=some (r,0)/\M40 F g how fs t w'=some (r,0)/\r=v3j g how fs (s.reached.map (·.1)) t w':=by
    intro w' hw'
    exact⟨_,by rw[M31_eq (by omega) hg hfs.1 (fun _=>A) _ _ hw',if_neg (by simp[h0]),if_pos hT],by rw[M40_eq (by omega) hg hfs.1 hfs.2 (fun _=>A) _ _ hw',if_neg (by simp[h0]),if_pos hT],rfl⟩
   rw[if_neg (by simp)]
   have hml:maxLen=9223372036854775807:=rfl
   cases mk with
   |true=>
    simp only[if_true,Bool.not_true,Bool.false_eq_true,if_false]
    by_cases c1:at'>=0
    ·rw[if_pos (by simpa using c1)]
     by_cases c2:at'<((w.Made.length:Nat):Int)
     ·rw[if_pos (by simpa using c2),v0u F (by omega) (by intro q;rw[q] at c2;simp at c2;omega),Option.bind_some]
      have hw1:w64 (at'+1)=at'+1:=q9w (by omega) (by omega)
      unfold M36
      rw[hw1,if_pos (by omega),Option.bind_some]
      obtain⟨r,r1,r2,-⟩:=hold (q3e.mk w.Entry w.Hops (w.Made.take at'.toNat++w.Made.drop (at'+1).toNat)) (by simp;omega)
      rw[r1,r2]
      simp
     ·rw[if_neg (by simpa using c2)]
    ·rw[if_neg (by simpa using c1)]
   |false=>
    simp only[Bool.false_eq_true,if_false,Bool.not_false,if_true]
    by_cases c1:at'>=0
    ·rw[if_pos (by simpa using c1)]
     by_cases c2:at'<((w.Hops.length:Nat):Int)
     ·rw[if_pos (by simpa using c2),v1u F (by omega) (by intro q;rw[q] at c2;simp at c2;omega),Option.bind_some]
      have hw1:w64 (at'+1)=at'+1:=q9w (by omega) (by omega)
      unfold M38
      rw[hw1,if_pos (by omega),Option.bind_some]
      obtain⟨r,r1,r2,r3⟩:=hold (q3e.mk w.Entry (w.Hops.take at'.toNat++w.Hops.drop (at'+1).toNat) w.Made) (by simp;omega)
      have hr:r=false:=by
       rw[r3]
       unfold v3j
       simp only
       have hb:=bent H w.Made at'.toNat (by omega) (List.replicate (((w.Made.length:Nat):Int)).toNat false)
       rw[show(at'+1).toNat=at'.toNat+1 by omega]
       cases hq:q8w g how fs w.Made (w.Hops.take at'.toNat++w.Hops.drop (at'.toNat+1)) w.Entry (List.replicate (((w.Made.length:Nat):Int)).toNat false) with
       |none=>simp
       |some q=>
        have:=hb q hq
        have hqt:(q.1==t)=false:=by rw[beq_eq_false_iff_ne];exact this
        simp[hqt]
      rw[r1,r2,hr]
      simp
     ·rw[if_neg (by simpa using c2)]
    ·rw[if_neg (by simpa using c1)]
 ·rw[if_pos (by simpa using he)]
end
end Go.Proofs.YtpbkggamiipdmaaGreat
namespace Go.Proofs.YtpbkggamiipdmaaGreat
open Go Go.Pv Go.RowKit Go.Lib Go.Sort Go.Shelf
theorem nil36:w3i Tryz.prog 36:=by
 intro a w
 go_enter Tryz.func36,Tryz.ntmps36
 go_wp2
 all_goals (go_ret;exact⟨rfl,rfl⟩)
theorem y0b:(Tryz.prog.info? 76).map (fun i=>(i.zero,i.size,i.bytes))=some (some (Value.agg #[.string ⟨#[]⟩,.string ⟨#[]⟩]),2,32):=by kernel_rfl
set_option maxHeartbeats 4000000 in
set_option maxRecDepth 1000000 in
theorem del36:v1l Tryz.prog 36 2:=by
 intro blk off cap n i j d w hdn h1 hH hcap hm hij hj
 have mixed:Tryz.prog.follows .mixedOrders=true:=by kernel_rfl
 obtain⟨i0,hi0,hz0,hz1,hz2⟩:=info_parts y0b
 by_cases heq:i=j
 ·subst heq
  have h0:Calls Tryz.prog 36 #[.slice (some ⟨blk,off,none⟩) n cap,.int .i64 i,.int .i64 i] w fun e w'=>e=.returned (.slice (some ⟨blk,off,none⟩) n cap)/\w'=w:=by
   clear hH h1
   go_enter Tryz.func36,Tryz.ntmps36
   go_wp2
   all_goals (go_ret;exact⟨rfl,rfl⟩)
  refine h0.mono ?_
  rintro e w' ⟨rfl,rfl⟩
  refine⟨by rw[Nat.sub_self,Nat.sub_zero],0,[],by simp,?_⟩
  have e:(d.toList.take (i*2)++d.toList.drop (i*2)++[]).toArray=d:=by simp
  rw[e]
  exact(putRow_self (fun v:Value=>v) (Sort.ahead w' 0) blk off d hH).symm
 ·have hlt:i<j:=by omega
  obtain⟨news,hnews⟩:∃news,news=d.toList.drop (j*2):=⟨_,rfl⟩
  have hlen:news.length=n*2 - j*2:=by rw[hnews];simp[hdn]
  have q5d:∀t,t<n*2 - j*2->news[t]? = some d[j*2+t]! := by
   intro t ht
   rw[hnews,List.getElem?_drop,Array.getElem?_toList,getElem!_pos d (j*2+t) (by omega),Array.getElem?_eq_getElem (by omega)]
  obtain⟨A,hA,hsrc⟩:∃A:Addr,(if cap=j then some (⟨blk,off,none⟩:Addr) else some ⟨blk,off+j*2,none⟩)=some A/\Hid (∀t u,news[t]? = some u->w.drew.cell? (A.add t)=some u):=by
   by_cases h:cap=j
   ·refine⟨⟨blk,off,none⟩,by simp[h],fun t u hu=>?_⟩
    have h0:news.length=0:=by rw[hlen];omega
    rw[List.length_eq_zero_iff.1 h0] at hu
    simp at hu
   ·refine⟨⟨blk,off+j*2,none⟩,by simp[h],fun t u hu=>?_⟩
    have ht:t<n*2 - j*2:=by
     have:=(List.getElem?_eq_some_iff.1 hu).1
     rwa [hlen] at this
    rw[q5d t ht] at hu
    rw[Addr.add_lit,show off+j*2+t=off+(j*2+t) by omega]
    exact(hH (j*2+t) (by omega)).1.trans hu
  have s1:Hid (news.length=(n - j)*2):=by rw[Nat.sub_mul];exact hlen
  have s2:Hid (∀u∈news,u.oneCell'=true):=by
   intro u hu
   rw[hnews] at hu
   exact h1 u (List.mem_of_mem_drop hu)
  have s3:Hid (∀t,t<news.length->(w.drew.cell? ⟨blk,off+i*2+t,none⟩).isSome=true/\w.drew.frozen? ⟨blk,off+i*2+t,none⟩=false):=by
   intro t ht
   rw[hlen] at ht
   rw[Nat.add_assoc]
   exact⟨by show(w.cell? _).isSome=true;rw[(hH (i*2+t) (by omega)).1];rfl,(hH (i*2+t) (by omega)).2⟩
  obtain⟨W1,hW1⟩:∃W1,W1=w.drew.setCells blk (off+i*2) news:=⟨_,rfl⟩
  have hmap:news.map (fun v:Value=>v)=news:=by simp
  have hW1':W1=putRow (fun v:Value=>v) (Sort.ahead w 1) blk off (lay d (i*2) (d.toList.drop (j*2))):=by
   rw[hW1,<-hnews,<-putRow_setCells (fun v:Value=>v) (Sort.ahead w 1) blk off news d (i*2) (by omega),putRow_self (fun v:Value=>v) (Sort.ahead w 1) blk off d (holds_ahead (fun v:Value=>v) w 1 blk off d hH),hmap]
   rfl
  have hH1:Holds (fun v:Value=>v) W1 blk off (lay d (i*2) (d.toList.drop (j*2))):=by rw[hW1'];exact holds_putRow (fun v:Value=>v) _ blk off d _ (holds_ahead (fun v:Value=>v) w 1 blk off d hH) (lay_size _ _ _)
  obtain⟨zs,hzs⟩:∃zs,zs=(Builtin.zeroCells (Value.cells (Value.agg #[.string ⟨#[]⟩,.string ⟨#[]⟩])) (n - (i+(n - j)))).toList:=⟨_,rfl⟩
  have hzl:zs.length=(n - (i+(n - j)))*2:=by rw[hzs];simp[Builtin.zeroCells,Value.cells]
  have hcl:∀ty,(Builtin.clear_ #[59] ty #[.slice (some ⟨blk,off+(i+(n - j))*2,none⟩) (n - (i+(n - j))) (cap - (i+(n - j)))]).run Tryz.prog W1=.ok (.tuple #[]) (W1.setCells blk (off+(i+(n - j))*2) zs):=by
   intro ty
   rw[hzs]
   have hzc:(Value.cells (Value.agg #[.string ⟨#[]⟩,.string ⟨#[]⟩])).size=2:=rfl
   refine j3n W1 59 76 ty _ Tryz.underlying59 Tryz.zeroValue76 (v3l (by kernel_rfl)) blk _ _ (by omega) (fun t ht=>?_) (fun t ht=>?_)
   ·rw[hzc] at ht
    rw[show off+(i+(n - j))*2+t=off+((i+(n - j))*2+t) by omega,(hH1 _ (by rw[lay_size];omega)).1];rfl
   ·rw[hzc] at ht
    rw[show off+(i+(n - j))*2+t=off+((i+(n - j))*2+t) by omega];exact(hH1 _ (by rw[lay_size];omega)).2
  have X:Aside (W1=putRow (fun v:Value=>v) (Sort.ahead w 1) blk off (lay d (i*2) (d.toList.drop (j*2)))):=hW1'
  have hW:Hid (W1=w.drew.setCells blk (off+i*2) news):=hW1
  have hic:i<=cap:=by omega
  have hjc:j<=cap:=by omega
  clear hW1 hW1' hH1 hH q5d hnews hlen hzs
  go_enter Tryz.func36,Tryz.ntmps36
  go_wp2_with fail
  go_region_law_o (refine step_append_room rfl (.tmp 22) (.tmp 25) 59 rfl 76 i0 2 Tryz.underlying59 hi0 hz1 blk off i cap (by simp[Act.eval,Act.put]) A (n - j) (cap - j) news (by simp[Act.eval,Act.put]) s1.out hsrc.out s2.out (by omega) s3.out ?_;rw[<-hW.out])
  go_wp2
  go_ret
  refine⟨by rw[show n - (j - i)=i+(n - j) by omega];rfl,1,zs,by rw[hzl];congr 1;omega,?_⟩
  have hlz:zs.length=j*2 - i*2:=by rw[hzl];omega
  have hmz:zs.map (fun v:Value=>v)=zs:=by simp
  rw[<-j4e d (i*2) (j*2) zs hlz (by omega) (by omega),<-putRow_setCells (fun v:Value=>v) _ blk off zs _ (i*2+(d.size - j*2)) (by rw[lay_size];omega),<-X.out,hmz,show i*2+(d.size - j*2)=(i+(n - j))*2 by omega]
theorem nil38:w3i Tryz.prog 38:=by
 intro a w
 go_enter Tryz.func38,Tryz.ntmps38
 go_wp2
 all_goals (go_ret;exact⟨rfl,rfl⟩)
theorem y9a:(Tryz.prog.info? 80).map (fun i=>(i.zero,i.size,i.bytes))=some (some (Value.agg #[.string ⟨#[]⟩,.int .i64 0,.string ⟨#[]⟩]),3,40):=by kernel_rfl
set_option maxHeartbeats 4000000 in
set_option maxRecDepth 1000000 in
theorem del38:v1l Tryz.prog 38 3:=by
 intro blk off cap n i j d w hdn h1 hH hcap hm hij hj
 have mixed:Tryz.prog.follows .mixedOrders=true:=by kernel_rfl
 obtain⟨i0,hi0,hz0,hz1,hz2⟩:=info_parts y9a
 by_cases heq:i=j
 ·subst heq
  have h0:Calls Tryz.prog 38 #[.slice (some ⟨blk,off,none⟩) n cap,.int .i64 i,.int .i64 i] w fun e w'=>e=.returned (.slice (some ⟨blk,off,none⟩) n cap)/\w'=w:=by
   clear hH h1
   go_enter Tryz.func38,Tryz.ntmps38
   go_wp2
   all_goals (go_ret;exact⟨rfl,rfl⟩)
  refine h0.mono ?_
  rintro e w' ⟨rfl,rfl⟩
  refine⟨by rw[Nat.sub_self,Nat.sub_zero],0,[],by simp,?_⟩
  have e:(d.toList.take (i*3)++d.toList.drop (i*3)++[]).toArray=d:=by simp
  rw[e]
  exact(putRow_self (fun v:Value=>v) (Sort.ahead w' 0) blk off d hH).symm
 ·have hlt:i<j:=by omega
  obtain⟨news,hnews⟩:∃news,news=d.toList.drop (j*3):=⟨_,rfl⟩
  have hlen:news.length=n*3 - j*3:=by rw[hnews];simp[hdn]
  have q5d:∀t,t<n*3 - j*3->news[t]? = some d[j*3+t]! := by
   intro t ht
   rw[hnews,List.getElem?_drop,Array.getElem?_toList,getElem!_pos d (j*3+t) (by omega),Array.getElem?_eq_getElem (by omega)]
  obtain⟨A,hA,hsrc⟩:∃A:Addr,(if cap=j then some (⟨blk,off,none⟩:Addr) else some ⟨blk,off+j*3,none⟩)=some A/\Hid (∀t u,news[t]? = some u->w.drew.cell? (A.add t)=some u):=by
   by_cases h:cap=j
   ·refine⟨⟨blk,off,none⟩,by simp[h],fun t u hu=>?_⟩
    have h0:news.length=0:=by rw[hlen];omega
    rw[List.length_eq_zero_iff.1 h0] at hu
    simp at hu
   ·refine⟨⟨blk,off+j*3,none⟩,by simp[h],fun t u hu=>?_⟩
    have ht:t<n*3 - j*3:=by
     have:=(List.getElem?_eq_some_iff.1 hu).1
     rwa [hlen] at this
    rw[q5d t ht] at hu
    rw[Addr.add_lit,show off+j*3+t=off+(j*3+t) by omega]
    exact(hH (j*3+t) (by omega)).1.trans hu
  have s1:Hid (news.length=(n - j)*3):=by rw[Nat.sub_mul];exact hlen
  have s2:Hid (∀u∈news,u.oneCell'=true):=by
   intro u hu
   rw[hnews] at hu
   exact h1 u (List.mem_of_mem_drop hu)
  have s3:Hid (∀t,t<news.length->(w.drew.cell? ⟨blk,off+i*3+t,none⟩).isSome=true/\w.drew.frozen? ⟨blk,off+i*3+t,none⟩=false):=by
   intro t ht
   rw[hlen] at ht
   rw[Nat.add_assoc]
   exact⟨by show(w.cell? _).isSome=true;rw[(hH (i*3+t) (by omega)).1];rfl,(hH (i*3+t) (by omega)).2⟩
  obtain⟨W1,hW1⟩:∃W1,W1=w.drew.setCells blk (off+i*3) news:=⟨_,rfl⟩
  have hmap:news.map (fun v:Value=>v)=news:=by simp
  have hW1':W1=putRow (fun v:Value=>v) (Sort.ahead w 1) blk off (lay d (i*3) (d.toList.drop (j*3))):=by
   rw[hW1,<-hnews,<-putRow_setCells (fun v:Value=>v) (Sort.ahead w 1) blk off news d (i*3) (by omega),putRow_self (fun v:Value=>v) (Sort.ahead w 1) blk off d (holds_ahead (fun v:Value=>v) w 1 blk off d hH),hmap]
   rfl
  have hH1:Holds (fun v:Value=>v) W1 blk off (lay d (i*3) (d.toList.drop (j*3))):=by rw[hW1'];exact holds_putRow (fun v:Value=>v) _ blk off d _ (holds_ahead (fun v:Value=>v) w 1 blk off d hH) (lay_size _ _ _)
  obtain⟨zs,hzs⟩:∃zs,zs=(Builtin.zeroCells (Value.cells (Value.agg #[.string ⟨#[]⟩,.int .i64 0,.string ⟨#[]⟩])) (n - (i+(n - j)))).toList:=⟨_,rfl⟩
  have hzl:zs.length=(n - (i+(n - j)))*3:=by rw[hzs];simp[Builtin.zeroCells,Value.cells]
  have hcl:∀ty,(Builtin.clear_ #[58] ty #[.slice (some ⟨blk,off+(i+(n - j))*3,none⟩) (n - (i+(n - j))) (cap - (i+(n - j)))]).run Tryz.prog W1=.ok (.tuple #[]) (W1.setCells blk (off+(i+(n - j))*3) zs):=by
   intro ty
   rw[hzs]
   have hzc:(Value.cells (Value.agg #[.string ⟨#[]⟩,.int .i64 0,.string ⟨#[]⟩])).size=3:=rfl
   refine j3n W1 58 80 ty _ Tryz.underlying58 Tryz.zeroValue80 (v3l (by kernel_rfl)) blk _ _ (by omega) (fun t ht=>?_) (fun t ht=>?_)
   ·rw[hzc] at ht
    rw[show off+(i+(n - j))*3+t=off+((i+(n - j))*3+t) by omega,(hH1 _ (by rw[lay_size];omega)).1];rfl
   ·rw[hzc] at ht
    rw[show off+(i+(n - j))*3+t=off+((i+(n - j))*3+t) by omega];exact(hH1 _ (by rw[lay_size];omega)).2
  have X:Aside (W1=putRow (fun v:Value=>v) (Sort.ahead w 1) blk off (lay d (i*3) (d.toList.drop (j*3)))):=hW1'
  have hW:Hid (W1=w.drew.setCells blk (off+i*3) news):=hW1
  have hic:i<=cap:=by omega
  have hjc:j<=cap:=by omega
  clear hW1 hW1' hH1 hH q5d hnews hlen hzs
  go_enter Tryz.func38,Tryz.ntmps38
  go_wp2_with fail
  go_region_law_o (refine step_append_room rfl (.tmp 22) (.tmp 25) 58 rfl 80 i0 3 Tryz.underlying58 hi0 hz1 blk off i cap (by simp[Act.eval,Act.put]) A (n - j) (cap - j) news (by simp[Act.eval,Act.put]) s1.out hsrc.out s2.out (by omega) s3.out ?_;rw[<-hW.out])
  go_wp2
  go_ret
  refine⟨by rw[show n - (j - i)=i+(n - j) by omega];rfl,1,zs,by rw[hzl];congr 1;omega,?_⟩
  have hlz:zs.length=j*3 - i*3:=by rw[hzl];omega
  have hmz:zs.map (fun v:Value=>v)=zs:=by simp
  rw[<-j4e d (i*3) (j*3) zs hlz (by omega) (by omega),<-putRow_setCells (fun v:Value=>v) _ blk off zs _ (i*3+(d.size - j*3)) (by rw[lay_size];omega),<-X.out,hmz,show i*3+(d.size - j*3)=(i+(n - j))*3 by omega]
end Go.Proofs.YtpbkggamiipdmaaGreat
