/- Part of the proof: K10P6, K10P7a, K10P7b, K10P7c, K10P7d. -/
import Derived.Test.YtpbkggamiipdmaaGreatR10K10P5
namespace Go.Proofs.YtpbkggamiipdmaaGreat
open Go Go.Pv
set_option linter.unusedVariables false
theorem j1a(l:List Int)(x:Int):x∈cpt l<->x∈l:=by
 unfold cpt Lib.compact Lib.compactUpTo
 rw[List.mem_map]
 constructor
 ·rintro⟨j,hj,rfl⟩
  have hlt:=List.mem_range.1 (List.mem_filter.1 hj).1
  rw[getElem!_pos l.toArray j (by simpa using hlt)]
  simp
 ·intro hx
  have key:∀j,j<l.length->∃i,i<=j/\Lib.keeps l.toArray i=true/\l.toArray[i]! = l.toArray[j]! := by
   intro j
   induction j with
   |zero=>exact fun _=>⟨0,Nat.le_refl _,by simp[Lib.keeps],rfl⟩
   |succ j ih=>
    intro hj
    by_cases he:l.toArray[j+1]! = l.toArray[j]!
    ·obtain⟨i,h1,h2,h3⟩:=ih (by omega)
     exact⟨i,by omega,h2,h3.trans he.symm⟩
    ·exact⟨j+1,Nat.le_refl _,by simp only[Lib.keeps,Nat.add_sub_cancel];exact decide_eq_true (.inr he),rfl⟩
  obtain⟨j,hj,rfl⟩:=List.getElem_of_mem hx
  obtain⟨i,h1,h2,h3⟩:=key j hj
  refine⟨i,List.mem_filter.2 ⟨List.mem_range.2 (by omega),h2⟩,?_⟩
  rw[h3,getElem!_pos l.toArray j (by simpa using hj)]
  simp
theorem v7q{l:List Int}(h:l.Pairwise (·<=·)):(cpt l).Pairwise (·<·):=by
 unfold cpt Lib.compact Lib.compactUpTo
 rw[List.pairwise_map]
 have hr:((List.range l.length).filter (Lib.keeps l.toArray)).Pairwise (·<·):=List.pairwise_lt_range.filter _
 refine List.Pairwise.imp_of_mem ?_ hr
 intro i j hi hj hlt
 have hj1:=List.mem_range.1 (List.mem_filter.1 hj).1
 have hj2:=(List.mem_filter.1 hj).2
 simp only[Lib.keeps,decide_eq_true_eq] at hj2
 have hne:l.toArray[j]! ≠ l.toArray[j - 1]! := hj2.resolve_left (by omega)
 rw[getElem!_pos l.toArray j (by simpa using hj1),getElem!_pos l.toArray (j - 1) (by simp;omega)] at hne
 rw[getElem!_pos l.toArray i (by simp;omega),getElem!_pos l.toArray j (by simpa using hj1)]
 simp only[List.getElem_toArray] at hne ⊢
 rw[List.pairwise_iff_getElem] at h
 have a1:l[j - 1]<=l[j]:=h (j - 1) j (by omega) hj1 (by omega)
 have a2:l[i]<=l[j - 1]:=by
  by_cases e:i=j - 1
  ·subst e;exact Int.le_refl _
  ·exact h i (j - 1) (by omega) (by omega) (by omega)
 omega
theorem q6n(l:List Int):(v6a l).Perm l:=List.mergeSort_perm _ _
theorem v5a(l:List Int):(v6a l).Pairwise (·<=·):=by
 have:=List.pairwise_mergeSort (le:=fun x y:Int=>decide (x<=y)) (fun a b c h h'=>by simp only[decide_eq_true_eq] at *;omega) (fun a b=>by simp only[Bool.or_eq_true,decide_eq_true_eq];omega) l
 exact this.imp (fun h=>by simpa using h)
theorem w1i(F:Nat)(g:q7c)(n:Tx):M125 F g n=some (match g.Funcs.find? fun x=>x.Name==n with|some x=>(x,true)|none=>(q5e.mk [] [] [] [],false)):=by
 have key:∀l:List q5e,z4n F n (some (q5e.mk [] [] [] [],false)) l=some (match l.find? fun x=>x.Name==n with|some x=>(x,true)|none=>(q5e.mk [] [] [] [],false)):=by
  intro l
  induction l with
  |nil=>rfl
  |cons x l ih=>
   rw[z4n,List.find?_cons]
   by_cases h:(x.Name==n)=true
   ·rw[if_pos h,h]
   ·rw[if_neg h,ih]
    have:(x.Name==n)=false:=by simpa using h
    rw[this]
 unfold M125
 rw[q2e,key]
theorem j9g(F:Nat)(w:q1b)(c:q6c)(k:List Int->Option (List Int))(f:Int->Int):∀(l:List Int) (o:List Int),(∀t,t∈l->z3f F w c t=some (f t))->o.length+l.length<=100000->q8x F w c k l o=k (o++l.map f)
 |[],o,_,_=>by simp[q8x]
 |t::l,o,h,hl=>by
  simp only[List.length_cons] at hl
  rw[q8x,h t (by simp),Option.bind_some,if_pos (by simp;omega),j9g F w c k f l _ (fun t ht=>h t (List.mem_cons_of_mem _ ht)) (by simp;omega)]
  simp
structure TgtOk(g:q7c)(c:q6c)(l:List Int):Prop where
 srt:l.Pairwise (·<·)
 len:l.length<=500
 nat:∀v,v∈l->∃i:Nat,i<g.Funcs.length/\v=i
 mem:∀i:Nat,∀h:i<g.Funcs.length,(i:Int)∈l<->∃a,a∈q3j g c/\a.to=(g.Funcs[i]).Name
theorem v8q(l:List Int):(cpt l).length<=l.length:=w9e l
theorem v6r(F:Nat)(hF:1000<=F){g:q7c}(R:q0h g)(how:Int)(fs:List Tx){x:q5e}(hx:x∈g.Funcs){c:q6c}(hc:c∈x.Calls):∃l,j0h F (wOf g how fs) c=some l/\TgtOk g c l:=by
 unfold j0h
 by_cases k:c.Kind=1
 ·rw[if_pos (by simp[k])]
  have ha:q1a.mk [] c.Target∈q3j g c:=by unfold q3j;rw[if_pos k];simp
  obtain⟨i,hi,he⟩:=q3q (q1r R hx hc ha)
  have he:(g.Funcs[i]).Name=c.Target:=he
  have hf:(q6b (wOf g how fs).funcs c.Target).getD 0=(i:Int):=by rw[<-he];exact q1t R how fs hi
  refine⟨_,rfl,by simp,by simp,fun v hv=>?_,fun j hj=>?_⟩
  ·simp only[List.mem_singleton] at hv;rw[hf] at hv;exact⟨i,hi,hv⟩
  ·simp only[List.mem_singleton]
   rw[hf]
   unfold q3j
   rw[if_pos k]
   simp only[List.mem_singleton]
   constructor
   ·intro h
    have:j=i:=by omega
    subst this
    exact⟨_,rfl,he.symm⟩
   ·rintro⟨a,rfl,h⟩
    have h:c.Target=(g.Funcs[j]).Name:=h
    have h1:=q1t R how fs hj
    rw[<-h,<-he,q1t R how fs hi] at h1
    omega
 ·rw[if_neg (by simpa using k),q2e]
  obtain⟨I,I1,I2,I3,I4⟩:=z7t R hx hc k
  have hfit:∀t,t∈z8r (wOf g how fs) c.Target<->∃j:Nat,∃h:j<g.Types.length,t=j/\j1p g.Types[j] I=true:=z2t R how fs I2
  have hlen:(z8r (wOf g how fs) c.Target).length<=500:=by
   have e:z8r (wOf g how fs) c.Target=q9l I 0 g.Types:=by
    unfold z8r wOf
    simp only
    rw[z8i g.Types c.Target g.Ifaces [] R.isrt]
    simp only[q6b,Option.getD_none,List.nil_append]
    rw[I2];rfl
   rw[e]
   have:=z4t I g.Types 0
   have:=R.tl
   omega
  let f:Int->Int:=fun t=>fI (wOf g how fs) (mOf (g.Types.getD t.toNat (q7i.mk [] [])) c.Method).1
  have hm:∀t,t∈z8r (wOf g how fs) c.Target->z3f F (wOf g how fs) c t=some (f t):=by
   intro t ht
   obtain⟨j,hj,rfl,_⟩:=(hfit t).1 ht
   rw[z7u hF R how fs c hj]
   simp only[f,Int.toNat_natCast,List.getD_eq_getElem?_getD,List.getElem?_eq_getElem hj,Option.getD_some]
  have e:=j9g F (wOf g how fs) c (fun l5=>(w7u F l5).bind fun y17=>if y17.length=l5.length then (w6u F y17).bind fun y20=>some y20 else none) f (z8r (wOf g how fs) c.Target) [] hm (by simp;omega)
  refine⟨cpt (v6a ((z8r (wOf g how fs) c.Target).map f)),?_,v7q (v5a _),?_,?_,?_⟩
  ·refine e.trans ?_
   simp only[List.nil_append]
   unfold w7u
   rw[if_pos (by simp;omega),Option.bind_some,if_pos (q6n _).length_eq]
   unfold w6u
   rw[if_pos (by rw[(q6n _).length_eq];simp;omega),Option.bind_some]
  ·have:=v8q (v6a ((z8r (wOf g how fs) c.Target).map f))
   rw[(q6n _).length_eq,List.length_map] at this
   omega
  ·intro v hv
   rw[j1a,(q6n _).mem_iff] at hv
   obtain⟨t,ht,rfl⟩:=List.mem_map.1 hv
   obtain⟨j,hj,rfl,hft⟩:=(hfit t).1 ht
   have ha:q1a.mk (g.Types[j]).Name (mOf g.Types[j] c.Method).1∈q3j g c:=by
    unfold q3j
    rw[if_neg k]
    exact List.mem_filterMap.2 ⟨g.Types[j],List.getElem_mem _,by unfold j4a;rw[if_pos ⟨I4 _ hft,by rw[I3];exact hft⟩]⟩
   obtain⟨q,hq,he⟩:=q3q (q1r R hx hc ha)
   have he:(g.Funcs[q]).Name=(mOf g.Types[j] c.Method).1:=he
   refine⟨q,hq,?_⟩
   simp only[f,Int.toNat_natCast,List.getD_eq_getElem?_getD,List.getElem?_eq_getElem hj,Option.getD_some]
   rw[<-he];exact q1t R how fs hq
  ·intro i hi
   rw[j1a,(q6n _).mem_iff,List.mem_map]
   constructor
   ·rintro⟨t,ht,he⟩
    obtain⟨j,hj,rfl,hft⟩:=(hfit t).1 ht
    have ha:q1a.mk (g.Types[j]).Name (mOf g.Types[j] c.Method).1∈q3j g c:=by
     unfold q3j
     rw[if_neg k]
     exact List.mem_filterMap.2 ⟨g.Types[j],List.getElem_mem _,by unfold j4a;rw[if_pos ⟨I4 _ hft,by rw[I3];exact hft⟩]⟩
    obtain⟨q,hq,hqe⟩:=q3q (q1r R hx hc ha)
    have hqe:(g.Funcs[q]).Name=(mOf g.Types[j] c.Method).1:=hqe
    simp only[f,Int.toNat_natCast,List.getD_eq_getElem?_getD,List.getElem?_eq_getElem hj,Option.getD_some] at he
    rw[<-hqe,q1t R how fs hq] at he
    have:q=i:=by omega
    subst this
    exact⟨_,ha,hqe.symm⟩
   ·rintro⟨a,ha,he⟩
    unfold q3j at ha
    rw[if_neg k] at ha
    obtain⟨t,ht,h⟩:=List.mem_filterMap.1 ha
    unfold j4a at h
    split at h
    ·rename_i h1
     simp only[Option.some.injEq] at h
     subst h
     obtain⟨j,hj,rfl⟩:=List.getElem_of_mem ht
     refine⟨j,(hfit _).2 ⟨j,hj,rfl,by rw[<-I3];exact h1.2⟩,?_⟩
     simp only[f,Int.toNat_natCast,List.getD_eq_getElem?_getD,List.getElem?_eq_getElem hj,Option.getD_some]
     have he:(mOf g.Types[j] c.Method).1=(g.Funcs[i]).Name:=he
     rw[he];exact q1t R how fs hi
    ·simp at h
theorem j5z{l:List Tx}{x:Tx}(h:x ∉ l):q6b (v3g [] 0 l) x=none:=by rw[z3s x l [] 0 h];rfl
def q7z(p:Nat->Bool)(l l':List Bool):Prop:=l'.length=l.length/\∀i (h:i<l.length),l'[i]? = some (l[i]||p i)
theorem q7z.refl{p:Nat->Bool}{l:List Bool}(h:∀i,i<l.length->p i=false):q7z p l l:=⟨rfl,fun i hi=>by rw[List.getElem?_eq_getElem hi,h i hi,Bool.or_false]⟩
theorem q7z.trans{p q:Nat->Bool}{l l' l'':List Bool}(a:q7z p l l')(b:q7z q l' l''):q7z (fun i=>p i||q i) l l'':=
 ⟨b.1.trans a.1,fun i hi=>by
  have hi':i<l'.length:=by rw[a.1];exact hi
  rw[b.2 i hi']
  have:=a.2 i hi
  rw[List.getElem?_eq_getElem hi',Option.some.injEq] at this
  rw[this,Bool.or_assoc]⟩
theorem q7z.congr{p q:Nat->Bool}{l l':List Bool}(a:q7z p l l')(h:∀i,i<l.length->p i=q i):q7z q l l':=⟨a.1,fun i hi=>by rw[a.2 i hi,h i hi]⟩
theorem q7z.uniq{p:Nat->Bool}{l l' l'':List Bool}(a:q7z p l l')(b:q7z p l l''):l'=l'':=by
 apply List.ext_getElem?
 intro i
 by_cases hi:i<l.length
 ·rw[a.2 i hi,b.2 i hi]
 ·rw[List.getElem?_eq_none (by rw[a.1];omega),List.getElem?_eq_none (by rw[b.1];omega)]
theorem q7z.set{l:List Bool}{j:Nat}(hj:j<l.length):q7z (fun i=>decide (i=j)) l (l.set j true):=
 ⟨by simp,fun i hi=>by
  rw[List.getElem?_set]
  by_cases h:j=i
  ·subst h;simp[hi]
  ·rw[if_neg h,List.getElem?_eq_getElem hi]
   have:decide (i=j)=false:=by simp;omega
   simp only[this,Bool.or_false]⟩
def rbL(rl:List Tx)(g:q7c):Option Tx->List q0c->Bool
 |_,[]=>true
 |p,m::l=>(p.elim true fun t=>Op.bytesLess t m.Type_)&&(rl.contains m.Func&&(((g.Funcs.find? fun x=>x.Name==m.Func).elim false fun x=>x.Makes.contains m.Type_)&&rbL rl g (some m.Type_) l))
def v5v(a:List q0c)(n:Nat):Option Tx:=if n=0 then none else (a[n - 1]?).map (·.Type_)
theorem j9y{a:List q0c}{x:q0c}{n:Nat}(hn:n<a.length)(hx:a[n]=x):v5v a (n+1)=some x.Type_:=by
 unfold v5v
 rw[if_neg (by omega),Nat.add_sub_cancel,List.getElem?_eq_getElem hn,hx];rfl
def z3b(fs:List Tx)(x:q5e)(h:q5j):Option q6c:=
 if h.Site.Func=x.Name/\0<=h.Site.Call then (x.Calls[h.Site.Call.toNat]?).bind fun c=>if onF fs c.Feature=true then some c else none else none
def q9q(g:q7c)(c:q6c)(to:Tx):List q1a:=(q3j g c).filter fun a=>a.to==to
def mkP(g:q7c)(c:q6c)(to:Tx)(m:q0c):Bool:=(q9q g c to).any fun a=>!(a.typ==([]:Tx))&&m.Type_==a.typ
def mkI(g:q7c)(c:q6c)(to:Tx)(M:List q0c)(i:Nat):Bool:=(M[i]?).elim false (mkP g c to)
theorem w0e{g:q7c}{x:Tx}(h:q4q g x=false):g.Funcs.find? (fun y=>y.Name==x)=none:=by
 rw[List.find?_eq_none]
 intro y hy hye
 have:q4q g x=true:=z6z.2 ⟨y,hy,by simpa using hye⟩
 rw[h] at this;simp at this
theorem z1e{g:q7c}(R:q0h g){i:Nat}(hi:i<g.Funcs.length):g.Funcs.find? (fun y=>y.Name==(g.Funcs[i]).Name)=some g.Funcs[i]:=q1w (f:=q5e.Name) R.fsrt (List.getElem_mem _)
theorem z5t{g:q7c}(R:q0h g)(how:Int)(fs:List Tx){i:Nat}(hi:i<g.Funcs.length):q6b (wOf g how fs).funcs (g.Funcs[i]).Name=some (i:Int):=by
 show q6b (v3g [] 0 (g.Funcs.map (·.Name))) _=_
 have:=z5a (g.Funcs.map (·.Name)) [] 0 i (by simpa using hi) (q7y R.fsrt)
 simp only[List.getElem_map] at this
 rw[this];simp
theorem z2e{g:q7c}(how:Int)(fs:List Tx){x:Tx}(h:q4q g x=false):q6b (wOf g how fs).funcs x=none:=j5z (by simpa[q4q] using h)
theorem v1x{g:q7c}(R:q0h g)(how:Int)(fs:List Tx){i:Nat}(hi:i<g.Types.length):q6b (wOf g how fs).types (g.Types[i]).Name=some (i:Int):=by
 show q6b (v3g [] 0 (g.Types.map (·.Name))) _=_
 have:=z5a (g.Types.map (·.Name)) [] 0 i (by simpa using hi) (q7y R.tsrt)
 simp only[List.getElem_map] at this
 rw[this];simp
theorem v0x{g:q7c}(how:Int)(fs:List Tx){x:Tx}(h:j3t g x=false):q6b (wOf g how fs).types x=none:=j5z (by simpa[j3t] using h)
section
variable{g:q7c}{how:Int}{fs:List Tx}{F:Nat}{rl:List Tx}{sp:q5c}
theorem j2q(R:q0h g)(hsl:sp.funcs.length=g.Funcs.length)(hsp:∀i:Nat,∀h:i<g.Funcs.length,tru sp.funcs i<->(g.Funcs[i]).Name∈rl)(hrl:∀x,x∈rl->q4q g x=true)(a:List q0c)(ha:a.length<=maxLen)(k:Option Bool):
  ∀(l:List q0c) (n:Nat),a.drop n=l->z8b F (wOf g how fs) sp a k l (n:Int)=if rbL rl g (v5v a n) l=true then k else some false
 |[],n,_=>by simp[z8b,rbL]
 |m::l,n,h=>by
  obtain⟨hn,h1,h2⟩:=q9t h
  have ih:=j2q R hsl hsp hrl a ha k l (n+1) h2
  rw[j9y hn h1] at ih
  have ih:z8b F (wOf g how fs) sp a k l ((n:Int)+1)=if rbL rl g (some m.Type_) l=true then k else some false:=ih
  rw[z8b,rbL]
  simp only[q2e]
  by_cases hf:q4q g m.Func=true
  ·obtain⟨i,hi,he⟩:=q3q hf
   have hg1:q6b (wOf g how fs).funcs m.Func=some (i:Int):=by rw[<-he];exact z5t R how fs hi
   have hfd:(g.Funcs.find? fun x=>x.Name==m.Func)=some g.Funcs[i]:=by rw[<-he];exact z1e R hi
   rw[hg1,hfd]
   simp only[Option.isSome_some,Bool.not_true,Bool.false_eq_true,if_false,Option.getD_some,Option.elim_some]
   by_cases ht:j3t g m.Type_=true
   ·obtain⟨j,hj,hje⟩:=w7j ht
    have hg2:q6b (wOf g how fs).types m.Type_=some (j:Int):=by rw[<-hje];exact v1x R how fs hj
    rw[hg2]
    simp only[Option.isSome_some,Bool.not_true,Bool.false_eq_true,if_false]
    have hb:idx sp.funcs (i:Int)=some (rl.contains m.Func):=by
     have hlt:i<sp.funcs.length:=by omega
     rw[q2h hlt]
     congr 1
     have:=hsp i hi
     rw[he] at this
     unfold tru at this
     rw[List.getElem?_eq_getElem hlt] at this
     rw[Bool.eq_iff_iff,List.contains_iff_mem,<-this];simp
    have hF:idx (wOf g how fs).g.Funcs (i:Int)=some g.Funcs[i]:=q2h hi
    have tail:∀K:Option Bool,((idx sp.funcs (i:Int)).bind fun x40=>if (!x40)=true then some false else (idx (wOf g how fs).g.Funcs (i:Int)).bind fun x43=>(M23 F x43.Makes m.Type_).bind fun y45=>if (!y45)=true then some false else K) =
      if (rl.contains m.Func&&(g.Funcs[i]).Makes.contains m.Type_)=true then K else some false:=by
     intro K
     rw[hb,Option.bind_some]
     cases rl.contains m.Func
     ·simp
     ·simp only[Bool.not_true,Bool.false_eq_true,if_false,Bool.true_and]
      rw[hF,Option.bind_some,v7r,Option.bind_some]
      cases (g.Funcs[i]).Makes.contains m.Type_<;>simp
    by_cases h0:n=0
    ·subst h0
     rw[if_neg (by simp),tail,ih]
     have:v5v a 0=none:=rfl
     rw[this]
     simp only[Option.elim_none,Bool.true_and]
     cases rl.contains m.Func<;>cases (g.Funcs[i]).Makes.contains m.Type_<;>simp
    ·have hw:w64 ((n:Int) - 1)=((n - 1:Nat):Int):=by
      rw[q9w (by omega) (by unfold maxLen at ha;omega)];omega
     rw[if_pos (by simp;omega),hw,q2h (show n - 1<a.length by omega),Option.bind_some]
     have hp:v5v a n=some (a[n - 1]).Type_:=by unfold v5v;rw[if_neg h0,List.getElem?_eq_getElem (by omega)];rfl
     rw[hp]
     simp only[Option.elim_some]
     generalize hq:(a[n - 1]).Type_=q
     have hb2:Op.bytesLess q m.Type_ = !(Op.bytesLess m.Type_ q||m.Type_==q):=(y0c _ _).symm
     simp only[hb2]
     cases hc:(Op.bytesLess m.Type_ q||m.Type_==q)
     ·simp only[Bool.false_eq_true,if_false,Bool.not_false,Bool.true_and]
      rw[tail,ih]
      cases rl.contains m.Func<;>cases (g.Funcs[i]).Makes.contains m.Type_<;>simp
     ·simp
   ·have ht':j3t g m.Type_=false:=by simpa using ht
    rw[v0x how fs ht']
    have:(g.Funcs[i]).Makes.contains m.Type_=false:=by
     cases hcc:(g.Funcs[i]).Makes.contains m.Type_ with
     |false=>rfl
     |true=>
      have:=(R.f _ (List.getElem_mem hi)).makes m.Type_ (by simpa using hcc)
      rw[ht'] at this;simp at this
    simp only[this];simp
  ·have hf':q4q g m.Func=false:=by simpa using hf
   rw[z2e how fs hf']
   have:rl.contains m.Func=false:=by
    cases hcc:rl.contains m.Func with
    |false=>rfl
    |true=>exact absurd (hrl _ (by simpa using hcc)) hf
   simp only[this];simp
theorem w7h(R:q0h g)(h:q5j){i:Nat}(hi:i<g.Funcs.length):
  ∃c0,M163 F (wOf g how fs) h (g.Funcs[i]).Name=some (match z3b fs g.Funcs[i] h with|some c=>(c,true)|none=>(c0,false)):=by
 unfold M163 z3b
 rw[z5t R how fs hi]
 simp only[Option.isSome_some,Bool.not_true,Bool.false_eq_true,if_false,Option.getD_some]
 by_cases h1:h.Site.Func=(g.Funcs[i]).Name
 ·rw[if_neg (by simp[h1])]
  by_cases h2:h.Site.Call<0
  ·rw[if_pos (by simpa using h2),if_neg (by omega)];exact⟨_,rfl⟩
  ·rw[if_neg (by simpa using h2),if_pos ⟨h1,by omega⟩,show idx (wOf g how fs).g.Funcs (i:Int)=some g.Funcs[i] from q2h hi,Option.bind_some]
   by_cases h3:h.Site.Call.toNat<(g.Funcs[i]).Calls.length
   ·rw[if_neg (by simp;omega),Option.bind_some]
    have hcall:idx (g.Funcs[i]).Calls h.Site.Call=some (g.Funcs[i]).Calls[h.Site.Call.toNat]:=by
     simp[idx,show 0<=h.Site.Call by omega,h3]
    rw[hcall,Option.bind_some,List.getElem?_eq_getElem h3,Option.bind_some]
    have ho:(q6b (wOf g how fs).on ((g.Funcs[i]).Calls[h.Site.Call.toNat]).Feature).getD false=onF fs ((g.Funcs[i]).Calls[h.Site.Call.toNat]).Feature:=j7n g how fs _
    rw[ho]
    cases onF fs ((g.Funcs[i]).Calls[h.Site.Call.toNat]).Feature
    ·exact⟨_,rfl⟩
    ·exact⟨(g.Funcs[i]).Calls[h.Site.Call.toNat],rfl⟩
   ·rw[if_pos (by simp;omega),List.getElem?_eq_none (by omega),Option.bind_none];exact⟨_,rfl⟩
 ·rw[if_pos (by simpa using h1),if_neg (fun hh=>h1 hh.1)];exact⟨_,rfl⟩
theorem q3w{x:q5e}{h:q5j}{c:q6c}(hc:z3b fs x h=some c):c∈x.Calls/\onF fs c.Feature=true/\h.Site.Func=x.Name:=by
 unfold z3b at hc
 split at hc
 ·rename_i h1
  rw[Option.bind_eq_some_iff] at hc
  obtain⟨c',h2,h3⟩:=hc
  split at h3
  ·rename_i h4
   simp only[Option.some.injEq] at h3
   subst h3
   exact⟨List.mem_of_getElem? h2,h4,h1.1⟩
  ·simp at h3
 ·simp at hc
def z9x(p:q0c->Bool):Nat->List q0c->List Int
 |_,[]=>[]
 |n,m::l=>if p m=true then (n:Int)::z9x p (n+1) l else z9x p (n+1) l
theorem z0d(p:q0c->Bool):∀(l:List q0c) (n:Nat) (v:Int),v∈z9x p n l<->∃i:Nat,v=((n+i:Nat):Int)/\∃h:i<l.length,p l[i]=true
 |[],n,v=>by simp[z9x]
 |m::l,n,v=>by
  have ih:=z0d p l (n+1) v
  have key:(∃i:Nat,v=((n+i:Nat):Int)/\∃h:i<(m::l).length,p (m::l)[i]=true)<->(v=(n:Int)/\p m=true)\/∃i:Nat,v=((n+1+i:Nat):Int)/\∃h:i<l.length,p l[i]=true:=by
   constructor
   ·rintro⟨i,h1,h2,h3⟩
    cases i with
    |zero=>exact .inl ⟨by simpa using h1,h3⟩
    |succ i=>exact .inr ⟨i,by rw[h1];congr 1;omega,by simpa using h2,h3⟩
   ·rintro(⟨h1,h2⟩|⟨i,h1,h2,h3⟩)
    ·exact⟨0,by simpa using h1,by simp,h2⟩
    ·exact⟨i+1,by rw[h1];congr 1;omega,by simpa using h2,h3⟩
  rw[key,z9x]
  split
  ·rename_i hp;rw[List.mem_cons,ih];simp[hp]
  ·rename_i hp;rw[ih];simp[hp]
theorem j1q(w:q1b)(c:q6c)(to:Int)(p:q0c->Bool)(k:List Int->Option (List Int)):∀(l:List q0c) (n:Nat) (o:List Int),o.length+l.length<=100000->
  (∀m,m∈l->(((q6b w.fitting c.Target).getD []).contains ((q6b w.types m.Type_).getD 0)=true->∃v,z3f F w c ((q6b w.types m.Type_).getD 0)=some v/\p m=(v==to))/\(((q6b w.fitting c.Target).getD []).contains ((q6b w.types m.Type_).getD 0)=false->p m=false))->
  z7b F w c to k l (n:Int) o=k (o++z9x p n l)
 |[],n,o,_,_=>by simp[z7b,z9x]
 |m::l,n,o,hl,h=>by
  simp only[List.length_cons] at hl
  have hm:=h m (by simp)
  have ih:=fun o' ho=>j1q w c to p k l (n+1) o' ho (fun m hm=>h m (List.mem_cons_of_mem _ hm))
  have ih:∀o':List Int,o'.length+l.length<=100000->z7b F w c to k l ((n:Int)+1) o'=k (o'++z9x p (n+1) l):=ih
  rw[z7b,z9x]
  simp only[q2e]
  rw[j1x,Option.bind_some]
  cases hc:((q6b w.fitting c.Target).getD []).contains ((q6b w.types m.Type_).getD 0)
  ·rw[if_neg (by simp),ih _ (by omega),hm.2 hc];simp
  ·rw[if_pos rfl]
   obtain⟨v,hv,hp⟩:=hm.1 hc
   rw[hv,Option.bind_some,hp]
   cases (v==to)
   ·rw[if_neg (by simp),if_neg (by simp),ih _ (by omega)]
   ·rw[if_pos rfl,if_pos rfl,if_pos (by simp;omega),ih _ (by simp;omega)];simp
theorem j2s(k:List Bool->Option Bool):∀(is:List Int) (l:List Bool),(∀v,v∈is->∃i:Nat,i<l.length/\v=i)->∃l',z5n F k is l=k l'/\q7z (fun i=>is.contains (i:Int)) l l'
 |[],l,_=>⟨l,rfl,.refl (by simp)⟩
 |v::is,l,h=>by
  obtain⟨j,hj,rfl⟩:=h v (by simp)
  rw[z5n,q2h hj,Option.bind_some,Int.toNat_natCast]
  obtain⟨l',e,m⟩:=j2s k is (l.set j true) (fun v hv=>by obtain⟨i,hi,e⟩:=h v (List.mem_cons_of_mem _ hv);exact⟨i,by simpa using hi,e⟩)
  refine⟨l',e,((q7z.set hj).trans m).congr fun i _=>?_⟩
  rw[List.contains_cons]
  congr 1
  by_cases hij:i=j
  ·subst hij;simp
  ·have:((i:Int)==(j:Int))=false:=by simp;omega
   rw[this];simp[hij]
end
def q2q(p:Nat->Bool)(l:List Bool):List Bool:=l.mapIdx fun i b=>b||p i
theorem z7i(p:Nat->Bool)(l:List Bool):q7z p l (q2q p l):=⟨by simp[q2q],fun i hi=>by simp[q2q,List.getElem?_eq_getElem hi]⟩
theorem z1p{p:Nat->Bool}{l l':List Bool}(h:q7z p l l'):l'=q2q p l:=h.uniq (z7i p l)
theorem z5z{p:Nat->Bool}{l:List Bool}(h:∀i,i<l.length->p i=false):q2q p l=l:=(z1p (q7z.refl h)).symm
def j8t(g:q7c)(how:Int)(fs:List Tx)(M:List q0c)(at':Tx)(l:List Bool)(h:q5j):Option (Tx×List Bool):=
 (g.Funcs.find? fun x=>x.Name==at').bind fun x=>(z3b fs x h).bind fun c=>
  if q9q g c h.To=[] then none else if how=1 then some (h.To,l)
  else if (q9q g c h.To).any (fun a=>a.typ==([]:Tx))||M.any (mkP g c h.To) then some (h.To,q2q (mkI g c h.To M) l) else none
def q8w(g:q7c)(how:Int)(fs:List Tx)(M:List q0c):List q5j->Tx->List Bool->Option (Tx×List Bool)
 |[],a,l=>some (a,l)
 |h::hs,a,l=>(j8t g how fs M a l h).bind fun p=>q8w g how fs M hs p.1 p.2
section
variable{g:q7c}{fs:List Tx}{F:Nat}
theorem q8m{c:q6c}{to:Tx}{a:q1a}:a∈q9q g c to<->a∈q3j g c/\a.to=to:=by
 unfold q9q;rw[List.mem_filter];simp
theorem z9e{c:q6c}{to:Tx}:q9q g c to≠[]<->∃a,a∈q3j g c/\a.to=to:=by
 constructor
 ·intro h
  obtain⟨a,ha⟩:=List.exists_mem_of_ne_nil _ h
  exact⟨a,q8m.1 ha⟩
 ·rintro⟨a,ha⟩ e
  have:=q8m.2 ha
  rw[e] at this;simp at this
theorem w6j(R:q0h g){t:q7i}(ht:t∈g.Types){j:Nat}(hj:j<g.Types.length)(h:t.Name=(g.Types[j]).Name):t=g.Types[j]:=by
 have h1:=q1w (f:=q7i.Name) R.tsrt ht
 have h2:=q1w (f:=q7i.Name) R.tsrt (List.getElem_mem hj)
 rw[h,h2] at h1
 exact(Option.some.inj h1).symm
theorem j2c(R:q0h g){t:q7i}(ht:t∈g.Types):t.Name≠[]:=by
 intro e
 have:=(R.t t ht).nam
 rw[e] at this;simp[nm] at this
theorem w4b(R:q0h g){c:q6c}(k:c.Kind≠1){I:q0f}(I3:ifG g c.Target=I)(I4:∀t,j1p t I=true->(mOf t c.Method).2=true)(to:Tx)(m:q0c){j:Nat}(hj:j<g.Types.length)(hje:(g.Types[j]).Name=m.Type_):
  mkP g c to m=true<->j1p g.Types[j] I=true/\(mOf g.Types[j] c.Method).1=to:=by
 unfold mkP
 rw[List.any_eq_true]
 constructor
 ·rintro⟨a,ha,h⟩
  obtain⟨h1,h2⟩:=q8m.1 ha
  simp only[Bool.and_eq_true,beq_iff_eq] at h
  unfold q3j at h1
  rw[if_neg k] at h1
  obtain⟨t,ht,h3⟩:=List.mem_filterMap.1 h1
  unfold j4a at h3
  split at h3
  ·rename_i h4
   simp only[Option.some.injEq] at h3
   subst h3
   have e:t=g.Types[j]:=w6j R ht hj (h.2.symm.trans hje.symm)
   subst e
   rw[I3] at h4
   exact⟨h4.2,h2⟩
  ·simp at h3
 ·rintro⟨h1,h2⟩
  refine⟨q1a.mk (g.Types[j]).Name (mOf g.Types[j] c.Method).1,q8m.2 ⟨?_,h2⟩,?_⟩
  ·unfold q3j
   rw[if_neg k]
   exact List.mem_filterMap.2 ⟨g.Types[j],List.getElem_mem _,by unfold j4a;rw[if_pos ⟨I4 _ h1,by rw[I3];exact h1⟩]⟩
  ·simp only[Bool.and_eq_true,beq_iff_eq]
   exact⟨by simp[j2c R (List.getElem_mem hj)],hje.symm⟩
theorem y4b(R:q0h g){c:q6c}(k:c.Kind≠1)(to:Tx):(q9q g c to).any (fun a=>a.typ==([]:Tx))=false:=by
 rw[List.any_eq_false]
 intro a ha
 obtain⟨h1,_⟩:=q8m.1 ha
 unfold q3j at h1
 rw[if_neg k] at h1
 obtain⟨t,ht,h3⟩:=List.mem_filterMap.1 h1
 unfold j4a at h3
 split at h3
 ·simp only[Option.some.injEq] at h3
  subst h3
  simpa using j2c R ht
 ·simp at h3
theorem v5q{c:q6c}(k:c.Kind=1)(to:Tx):q9q g c to=if c.Target=to then [q1a.mk [] c.Target] else []:=by
 unfold q9q q3j
 rw[if_pos k,List.filter_cons,List.filter_nil]
 by_cases h:c.Target=to<;>simp[h]
theorem dir_mk{c:q6c}(k:c.Kind=1)(to:Tx)(m:q0c):mkP g c to m=false:=by
 unfold mkP
 rw[v5q k]
 split<;>simp
structure MOk(g:q7c)(M:List q0c)(l:List Bool):Prop where
 ty:∀m,m∈M->j3t g m.Type_=true
 len:l.length=M.length
 sm:M.length<=500
theorem v7d(hF:1000<=F)(R:q0h g)(how:Int){x:q5e}(hx:x∈g.Funcs){c:q6c}(hc:c∈x.Calls){to:Nat}(hto:to<g.Funcs.length):
  ∃l,j0h F (wOf g how fs) c=some l/\(l.contains (to:Int)=true<->q9q g c (g.Funcs[to]).Name≠[]):=by
 obtain⟨l,e,T⟩:=v6r F hF R how fs hx hc
 refine⟨l,e,?_⟩
 rw[List.contains_iff_mem,T.mem to hto,z9e]
theorem w0s(R:q0h g){x:q5e}(hx:x∈g.Funcs){c:q6c}(hc:c∈x.Calls){to:Tx}(hto:q4q g to=false):q9q g c to=[]:=by
 by_cases h:q9q g c to=[]
 ·exact h
 ·obtain⟨a,ha,he⟩:=z9e.1 h
  have:=q1r R hx hc ha
  rw[he,hto] at this;simp at this
theorem z1v(hF:1000<=F)(R:q0h g)(a3:q3e)(k:Tx->List Bool->Option Bool):∀(hs:List q5j) (s:Tx) (l:List Bool),q4q g s=true->MOk g a3.Made l->
  z1h F (wOf g 2 fs) a3 k hs s l=match q8w g 2 fs a3.Made hs s l with|none=>some false|some p=>k p.1 p.2
 |[],s,l,_,_=>rfl
 |h::hs,s,l,hs1,hm=>by
  rw[z1h,q8w]
  simp only[q2e]
  obtain⟨i,hi,he⟩:=q3q hs1
  obtain⟨c0,e86⟩:=w7h (F:=F) (how:=2) (fs:=fs) R h hi
  rw[he] at e86
  have hfind:(g.Funcs.find? fun x=>x.Name==s)=some g.Funcs[i]:=by rw[<-he];exact z1e R hi
  unfold j8t
  rw[e86,hfind,Option.bind_some,Option.bind_some]
  cases hcf:z3b fs g.Funcs[i] h with
  |none=>simp
  |some c=>
   obtain⟨hc,ho,_⟩:=q3w hcf
   simp only[Bool.not_true,Bool.false_eq_true,if_false,Option.bind_some]
   by_cases hto:q4q g h.To=true
   ·obtain⟨t,ht,hte⟩:=q3q hto
    have hgt:q6b (wOf g 2 fs).funcs h.To=some (t:Int):=by rw[<-hte];exact z5t R 2 fs ht
    rw[hgt]
    simp only[Option.isSome_some,Bool.not_true,Bool.false_eq_true,if_false,Option.getD_some]
    obtain⟨l56,e56,i56⟩:=v7d (fs:=fs) hF R 2 (List.getElem_mem hi) hc ht
    rw[hte] at i56
    rw[e56,Option.bind_some,j1x,Option.bind_some]
    by_cases ha:q9q g c h.To=[]
    ·have:l56.contains (t:Int)=false:=by
      cases hcc:l56.contains (t:Int) with
      |false=>rfl
      |true=>exact absurd ha (i56.1 hcc)
     rw[this,if_pos ha];simp
    ·have:l56.contains (t:Int)=true:=i56.2 ha
     have h21:¬((2:Int)=1):=by decide
     rw[this,if_neg ha,if_neg h21]
     have hmd:(wOf g 2 fs).made=true:=by simp[wOf]
     rw[if_neg (show ¬((!true)=true) from by decide),if_pos hmd]
     by_cases kk:c.Kind=1
     ·have hk:(c.Kind==2)=false:=by rw[kk];rfl
      rw[hk,if_neg (by simp)]
      have h1:(q9q g c h.To).any (fun a=>a.typ==([]:Tx))=true:=by
       rw[v5q kk] at ha ⊢
       split at ha
       ·rename_i e;rw[if_pos e];simp
       ·exact absurd rfl ha
      rw[h1,Bool.true_or,if_pos rfl,Option.bind_some]
      have h2:q2q (mkI g c h.To a3.Made) l=l:=z5z fun i hi=>by
       unfold mkI
       cases a3.Made[i]? with
       |none=>rfl
       |some m=>exact dir_mk kk _ _
      simp only[h2]
      exact z1v hF R a3 k hs h.To l hto hm
     ·obtain⟨I,I1,I2,I3,I4⟩:=z7t R (List.getElem_mem hi) hc kk
      have hk:(c.Kind==2)=true:=by
       rcases((R.f _ (List.getElem_mem hi)).calls c hc).kind with ⟨q,_⟩|⟨q,_⟩
       ·exact absurd q kk
       ·rw[q];rfl
      rw[hk,if_pos rfl,y4b R kk,Bool.false_or]
      have e88:M165 F (wOf g 2 fs) a3.Made c (t:Int)=some (z9x (mkP g c h.To) 0 a3.Made):=by
       unfold M165
       rw[q2e]
       have:=j1q (F:=F) (wOf g 2 fs) c (t:Int) (mkP g c h.To) (fun l6=>some l6) a3.Made 0 [] (by have:=hm.sm;simp;omega) (fun m hmm=>by
        obtain⟨j,hj,hje⟩:=w7j (hm.ty m hmm)
        have hti:(q6b (wOf g 2 fs).types m.Type_).getD 0=(j:Int):=by rw[<-hje,v1x R 2 fs hj];rfl
        rw[hti]
        have hfl:∀v,v∈((q6b (wOf g 2 fs).fitting c.Target).getD [])<->v∈z8r (wOf g 2 fs) c.Target:=fun v=>Iff.rfl
        refine⟨fun hcn=>?_,fun hcn=>?_⟩
        ·refine⟨_,z7u hF R 2 fs c hj,?_⟩
         obtain⟨j',hj',e1,e2⟩:=(z2t R 2 fs I2 (j:Int)).1 ((hfl _).1 (by simpa using hcn))
         have:j'=j:=by omega
         subst this
         have ha:q1a.mk (g.Types[j']).Name (mOf g.Types[j'] c.Method).1∈q3j g c:=by
          unfold q3j
          rw[if_neg kk]
          exact List.mem_filterMap.2 ⟨g.Types[j'],List.getElem_mem _,by unfold j4a;rw[if_pos ⟨I4 _ e2,by rw[I3];exact e2⟩]⟩
         obtain⟨q,hq,hqe⟩:=q3q (q1r R (List.getElem_mem hi) hc ha)
         have hqe:(g.Funcs[q]).Name=(mOf g.Types[j'] c.Method).1:=hqe
         rw[<-hqe,q1t R 2 fs hq,Bool.eq_iff_iff,w4b R kk I3 I4 h.To m hj hje,<-hqe,<-hte]
         constructor
         ·rintro⟨_,h2⟩
          have h1:=q1t R 2 fs hq
          rw[h2,q1t R 2 fs ht] at h1
          simp;omega
         ·intro h2
          have:q=t:=by simp at h2;omega
          subst this
          exact⟨e2,rfl⟩
        ·cases hmk:mkP g c h.To m with
         |false=>rfl
         |true=>
          have:=((w4b R kk I3 I4 h.To m hj hje).1 hmk).1
          have:=(z2t R 2 fs I2 (j:Int)).2 ⟨j,hj,rfl,this⟩
          have:((q6b (wOf g 2 fs).fitting c.Target).getD []).contains (j:Int)=true:=by rw[List.contains_iff_mem];exact(hfl _).2 this
          rw[hcn] at this;simp at this)
       simpa using this
      rw[e88,Option.bind_some]
      by_cases hz:z9x (mkP g c h.To) 0 a3.Made=[]
      ·rw[hz,if_pos (show(((([]:List Int).length:Nat):Int)==0)=true from rfl)]
       have:a3.Made.any (mkP g c h.To)=false:=by
        rw[List.any_eq_false]
        intro m hmm hmk
        obtain⟨i',hi',rfl⟩:=List.getElem_of_mem hmm
        have:=(z0d (mkP g c h.To) a3.Made 0 ((0+i':Nat):Int)).2 ⟨i',rfl,hi',hmk⟩
        rw[hz] at this;simp at this
       rw[this];rfl
      ·rw[if_neg (by simpa using hz)]
       have:a3.Made.any (mkP g c h.To)=true:=by
        obtain⟨v,hv⟩:=List.exists_mem_of_ne_nil _ hz
        obtain⟨i',_,hi',hmk⟩:=(z0d _ _ _ _).1 hv
        exact List.any_eq_true.2 ⟨_,List.getElem_mem hi',hmk⟩
       rw[this,if_pos rfl,Option.bind_some]
       obtain⟨l',e4,m4⟩:=j2s (F:=F) (fun l117=>z1h F (wOf g 2 fs) a3 k hs h.To l117) (z9x (mkP g c h.To) 0 a3.Made) l (fun v hv=>by
        obtain⟨i',e,hi',_⟩:=(z0d _ _ _ _).1 hv
        exact⟨i',by rw[hm.len];exact hi',by simpa using e⟩)
       refine e4.trans ?_
       have hl':l'=q2q (mkI g c h.To a3.Made) l:=z1p (m4.congr fun i' hi'=>by
        unfold mkI
        have hlt:i'<a3.Made.length:=by rw[<-hm.len];exact hi'
        rw[List.getElem?_eq_getElem hlt]
        show _=mkP g c h.To a3.Made[i']
        rw[Bool.eq_iff_iff,List.contains_iff_mem,z0d]
        constructor
        ·rintro⟨q,e,hq,hmk⟩
         have:q=i':=by omega
         subst this;exact hmk
        ·intro hmk;exact⟨i',by simp,hlt,hmk⟩)
       rw[hl']
       exact z1v hF R a3 k hs h.To _ hto ⟨hm.ty,by rw[(z7i _ _).1];exact hm.len,hm.sm⟩
   ·have hto':q4q g h.To=false:=by simpa using hto
    rw[z2e 2 fs hto',if_pos (w0s R (List.getElem_mem hi) hc hto')];simp
theorem j3s(hF:1000<=F)(R:q0h g)(a3:q3e)(k:Tx->List Bool->Option Bool):∀(hs:List q5j) (s:Tx) (l:List Bool),q4q g s=true->
  z6n F (wOf g 1 fs) a3 k hs s l=match q8w g 1 fs a3.Made hs s l with|none=>some false|some p=>k p.1 p.2
 |[],s,l,_=>rfl
 |h::hs,s,l,hs1=>by
  rw[z6n,q8w]
  simp only[q2e]
  obtain⟨i,hi,he⟩:=q3q hs1
  obtain⟨c0,e86⟩:=w7h (F:=F) (how:=1) (fs:=fs) R h hi
  rw[he] at e86
  have hfind:(g.Funcs.find? fun x=>x.Name==s)=some g.Funcs[i]:=by rw[<-he];exact z1e R hi
  unfold j8t
  rw[e86,hfind,Option.bind_some,Option.bind_some]
  cases hcf:z3b fs g.Funcs[i] h with
  |none=>simp
  |some c=>
   obtain⟨hc,ho,_⟩:=q3w hcf
   simp only[Bool.not_true,Bool.false_eq_true,if_false,Option.bind_some]
   by_cases hto:q4q g h.To=true
   ·obtain⟨t,ht,hte⟩:=q3q hto
    have hgt:q6b (wOf g 1 fs).funcs h.To=some (t:Int):=by rw[<-hte];exact z5t R 1 fs ht
    rw[hgt]
    simp only[Option.isSome_some,Bool.not_true,Bool.false_eq_true,if_false,Option.getD_some]
    obtain⟨l56,e56,i56⟩:=v7d (fs:=fs) hF R 1 (List.getElem_mem hi) hc ht
    rw[hte] at i56
    rw[e56,Option.bind_some,j1x,Option.bind_some]
    by_cases ha:q9q g c h.To=[]
    ·have:l56.contains (t:Int)=false:=by
      cases hcc:l56.contains (t:Int) with
      |false=>rfl
      |true=>exact absurd ha (i56.1 hcc)
     rw[this,if_pos ha];simp
    ·have:l56.contains (t:Int)=true:=i56.2 ha
     rw[this,if_neg ha]
     have hmd:(wOf g 1 fs).made=false:=by simp[wOf]
     rw[if_neg (show ¬((!true)=true) from by decide),if_neg (by rw[hmd];simp)]
     simp only[if_true,Option.bind_some]
     exact j3s hF R a3 k hs h.To l hto
   ·have hto':q4q g h.To=false:=by simpa using hto
    rw[z2e 1 fs hto',if_pos (w0s R (List.getElem_mem hi) hc hto')];simp
end
section
variable{g:q7c}{fs:List Tx}{F:Nat}
theorem w5f(a b:Tx):(a==b)=(b==a):=by
 by_cases e:a=b
 ·subst e;rfl
 ·rw[beq_false_of_ne e,beq_false_of_ne (Ne.symm e)]
theorem j3j(w:q3e)(k:Bool->Option (Bool×Int)):∀(l:List Tx) (b:Bool),z7x F w k l b=k (b||l.contains w.Entry)
 |[],b=>by simp[z7x]
 |x::l,b=>by
  rw[z7x]
  simp only[q2e]
  cases b
  ·rw[if_neg (by simp),j3j w k l]
   congr 1
   rw[List.contains_cons,Bool.false_or]
   congr 1
   exact w5f _ _
  ·rw[if_pos rfl,j3j w k l];simp
theorem j8p(k:Option (Bool×Int)):∀l:List Bool,z4m F k l=if l.all id=true then k else some (false,0)
 |[]=>rfl
 |b::l=>by
  rw[z4m,j8p k l,List.all_cons]
  cases b<;>simp
theorem v5f(k:Option (Bool×Int)):∀l:List Bool,j1j F k l=if l.all id=true then k else some (false,0)
 |[]=>rfl
 |b::l=>by
  rw[j1j,v5f k l,List.all_cons]
  cases b<;>simp
theorem z0v(m:q0c)(k:Bool->Option Bool):∀(l:List Tx) (b:Bool),z0h F m k l b=k (b||l.contains m.Type_)
 |[],b=>by simp[z0h]
 |x::l,b=>by
  rw[z0h]
  simp only[q2e]
  cases b
  ·rw[if_neg (by simp),z0v m k l]
   congr 1
   rw[List.contains_cons,Bool.false_or]
   congr 1
   exact w5f _ _
  ·rw[if_pos rfl,z0v m k l];simp
theorem z9u(m:q0c)(k:Bool->Option Bool):∀(l:List Tx) (b:Bool),z9g F m k l b=k (b||l.contains m.Type_)
 |[],b=>by simp[z9g]
 |x::l,b=>by
  rw[z9g]
  simp only[q2e]
  cases b
  ·rw[if_neg (by simp),z9u m k l]
   congr 1
   rw[List.contains_cons,Bool.false_or]
   congr 1
   exact w5f _ _
  ·rw[if_pos rfl,z9u m k l];simp
theorem j1s(R:q0h g){n:q2b}(N:z3m g fs n){s:q5a}{rl:List Tx}(hs:∀x,(q6b s.reached x).getD false=rl.contains x)(hrl:∀x,x∈rl->q4q g x=true)(a:List q0c)(ha:a.length<=maxLen)(k:Option Bool):
  ∀(l:List q0c) (j:Nat),a.drop j=l->z3c F n s a k l (j:Int)=if rbL rl g (v5v a j) l=true then k else some false
 |[],j,_=>by simp[z3c,rbL]
 |m::l,j,h=>by
  obtain⟨hn,h1,h2⟩:=q9t h
  have ih:=j1s R N hs hrl a ha k l (j+1) h2
  rw[j9y hn h1] at ih
  have ih:z3c F n s a k l ((j:Int)+1)=if rbL rl g (some m.Type_) l=true then k else some false:=ih
  rw[z3c,rbL]
  simp only[q2e,hs]
  have tail:∀K:Option Bool,(if (!(rl.contains m.Func))=true then some false else if (!((q6b n.funcs m.Func).getD (q5e.mk [] [] [] [])).Makes.contains m.Type_)=true then some false else K) =
    if (rl.contains m.Func&&((g.Funcs.find? fun x=>x.Name==m.Func).elim false fun x=>x.Makes.contains m.Type_))=true then K else some false:=by
   intro K
   cases hc:rl.contains m.Func
   ·simp
   ·obtain⟨i,hi,he⟩:=q3q (hrl m.Func (by simpa using hc))
    have hf:(q6b n.funcs m.Func).getD (q5e.mk [] [] [] [])=g.Funcs[i]:=by rw[<-he];exact N.f _ (List.getElem_mem hi)
    have hfd:(g.Funcs.find? fun x=>x.Name==m.Func)=some g.Funcs[i]:=by rw[<-he];exact z1e R hi
    rw[hf,hfd]
    simp only[Bool.not_true,Bool.false_eq_true,if_false,Option.elim_some,Bool.true_and]
    cases (g.Funcs[i]).Makes.contains m.Type_<;>simp
  by_cases h0:j=0
  ·subst h0
   rw[if_neg (by simp)]
   simp only[z9u,Bool.false_or]
   rw[tail,ih]
   have:v5v a 0=none:=rfl
   rw[this]
   simp only[Option.elim_none,Bool.true_and]
   cases rl.contains m.Func<;>cases ((g.Funcs.find? fun x=>x.Name==m.Func).elim false fun x=>x.Makes.contains m.Type_)<;>simp
  ·have hw:w64 ((j:Int) - 1)=((j - 1:Nat):Int):=by
    rw[q9w (by omega) (by unfold maxLen at ha;omega)];omega
   rw[if_pos (by simp;omega),hw,q2h (show j - 1<a.length by omega),Option.bind_some]
   have hp:v5v a j=some (a[j - 1]).Type_:=by unfold v5v;rw[if_neg h0,List.getElem?_eq_getElem (by omega)];rfl
   rw[hp]
   simp only[Option.elim_some]
   generalize hq:(a[j - 1]).Type_=q
   have hb2:Op.bytesLess q m.Type_ = !(Op.bytesLess m.Type_ q||m.Type_==q):=(y0c _ _).symm
   simp only[hb2]
   cases hc:(Op.bytesLess m.Type_ q||m.Type_==q)
   ·simp only[Bool.false_eq_true,if_false,Bool.not_false,Bool.true_and,z0v,Bool.false_or]
    rw[tail,ih]
    cases rl.contains m.Func<;>cases ((g.Funcs.find? fun x=>x.Name==m.Func).elim false fun x=>x.Makes.contains m.Type_)<;>simp
   ·simp
def z5v(M:List q0c)(t:Tx)(i:Nat):Bool:=!(t==([]:Tx))&&((M[i]?).elim false fun m=>m.Type_==t)
theorem z8l(p q:Nat->Bool)(l:List Bool):q2q q (q2q p l)=q2q (fun i=>p i||q i) l:=z1p ((z7i p l).trans (z7i q (q2q p l)))
theorem q6r{p q:Nat->Bool}{l:List Bool}(h:∀i,i<l.length->p i=q i):q2q p l=q2q q l:=z1p ((z7i p l).congr h)
theorem j6c(p:Nat->Bool)(l:List Bool):(q2q p l).length=l.length:=(z7i p l).1
theorem v4m{l:List Bool}{j:Nat}(hj:j<l.length):l.set j true=q2q (fun i=>decide (i=j)) l:=z1p (q7z.set hj)
theorem j0q(x:q1a)(k:List Bool->Option (Bool×Int))(M:List q0c):∀(l:List q0c) (j:Nat) (u:List Bool),M.drop j=l->u.length=M.length->
  z6b F x k l (j:Int) u=k (q2q (fun i=>decide (j<=i)&&z5v M x.typ i) u)
 |[],j,u,h,hu=>by
  rw[z6b,z5z]
  intro i hi
  have:M.length<=j:=List.drop_eq_nil_iff.1 h
  have:decide (j<=i)=false:=by simp;omega
  rw[this,Bool.false_and]
 |m::l,j,u,h,hu=>by
  obtain⟨hn,h1,h2⟩:=q9t h
  have ih:∀u':List Bool,u'.length=M.length->z6b F x k l ((j:Int)+1) u'=k (q2q (fun i=>decide (j+1<=i)&&z5v M x.typ i) u'):=fun u' hu'=>j0q x k M l (j+1) u' h2 hu'
  have hM:M[j]? = some m:=by rw[List.getElem?_eq_getElem hn,h1]
  have at_j:z5v M x.typ j=(!(x.typ==([]:Tx))&&m.Type_==x.typ):=by unfold z5v;rw[hM];rfl
  have split:∀i,(decide (j<=i)&&z5v M x.typ i)=((decide (i=j)&&z5v M x.typ i)||(decide (j+1<=i)&&z5v M x.typ i)):=by
   intro i
   by_cases e:i=j
   ·subst e;simp
   ·by_cases e2:j<=i
    ·have:j+1<=i:=by omega
     simp[e,e2,this]
    ·have:¬j+1<=i:=by omega
     simp[e,e2,this]
  have fin:∀b:Bool,z5v M x.typ j=b->q2q (fun i=>decide (j<=i)&&z5v M x.typ i) u=q2q (fun i=>decide (j+1<=i)&&z5v M x.typ i) (if b=true then u.set j true else u):=by
   intro b hb
   cases b
   ·rw[if_neg (by simp)]
    refine q6r fun i _=>?_
    rw[split]
    by_cases e:i=j
    ·subst e;simp[hb]
    ·simp[e]
   ·rw[if_pos rfl,v4m (by omega),z8l]
    refine q6r fun i _=>?_
    rw[split]
    by_cases e:i=j
    ·subst e;simp[hb]
    ·simp[e]
  rw[z6b]
  simp only[q2e]
  by_cases c1:(!(x.typ==([]:Tx)))=true
  ·rw[if_pos c1]
   by_cases c2:(m.Type_==x.typ)=true
   ·rw[if_pos c2,q2h (show j<u.length by omega),Option.bind_some,Int.toNat_natCast,ih _ (by simp[hu]),fin true (by rw[at_j,c1,c2];rfl),if_pos rfl]
   ·have c2':(m.Type_==x.typ)=false:=by simpa using c2
    rw[if_neg c2,ih _ hu,fin false (by rw[at_j,c2'];simp),if_neg (by simp)]
  ·have c1':(!(x.typ==([]:Tx)))=false:=by simpa using c1
   rw[if_neg c1,ih _ hu,fin false (by rw[at_j,c1'];simp),if_neg (by simp)]
theorem j9p(x:q1a)(k:Bool->List Bool->Option (Bool×Int))(M:List q0c):∀(l:List q0c) (j:Nat) (b:Bool) (u:List Bool),M.drop j=l->u.length=M.length->
  z5b F x k l (j:Int) b u=k (b||(!(x.typ==([]:Tx))&&l.any fun m=>m.Type_==x.typ)) (q2q (fun i=>decide (j<=i)&&z5v M x.typ i) u)
 |[],j,b,u,h,hu=>by
  rw[z5b,z5z]
  ·simp
  intro i hi
  have:M.length<=j:=List.drop_eq_nil_iff.1 h
  have:decide (j<=i)=false:=by simp;omega
  rw[this,Bool.false_and]
 |m::l,j,b,u,h,hu=>by
  obtain⟨hn,h1,h2⟩:=q9t h
  have ih:∀(b':Bool) (u':List Bool),u'.length=M.length->z5b F x k l ((j:Int)+1) b' u'=k (b'||(!(x.typ==([]:Tx))&&l.any fun m=>m.Type_==x.typ)) (q2q (fun i=>decide (j+1<=i)&&z5v M x.typ i) u'):=fun b' u' hu'=>j9p x k M l (j+1) b' u' h2 hu'
  have hM:M[j]? = some m:=by rw[List.getElem?_eq_getElem hn,h1]
  have at_j:z5v M x.typ j=(!(x.typ==([]:Tx))&&m.Type_==x.typ):=by unfold z5v;rw[hM];rfl
  have split:∀i,(decide (j<=i)&&z5v M x.typ i)=((decide (i=j)&&z5v M x.typ i)||(decide (j+1<=i)&&z5v M x.typ i)):=by
   intro i
   by_cases e:i=j
   ·subst e;simp
   ·by_cases e2:j<=i
    ·have:j+1<=i:=by omega
     simp[e,e2,this]
    ·have:¬j+1<=i:=by omega
     simp[e,e2,this]
  have fin:∀b:Bool,z5v M x.typ j=b->q2q (fun i=>decide (j<=i)&&z5v M x.typ i) u=q2q (fun i=>decide (j+1<=i)&&z5v M x.typ i) (if b=true then u.set j true else u):=by
   intro b hb
   cases b
   ·rw[if_neg (by simp)]
    refine q6r fun i _=>?_
    rw[split]
    by_cases e:i=j
    ·subst e;simp[hb]
    ·simp[e]
   ·rw[if_pos rfl,v4m (by omega),z8l]
    refine q6r fun i _=>?_
    rw[split]
    by_cases e:i=j
    ·subst e;simp[hb]
    ·simp[e]
  rw[z5b,List.any_cons]
  simp only[q2e]
  by_cases c1:(!(x.typ==([]:Tx)))=true
  ·rw[if_pos c1]
   by_cases c2:(m.Type_==x.typ)=true
   ·rw[if_pos c2,q2h (show j<u.length by omega),Option.bind_some,Int.toNat_natCast,ih _ _ (by simp[hu]),fin true (by rw[at_j,c1,c2];rfl),if_pos rfl,c1,c2];simp
   ·have c2':(m.Type_==x.typ)=false:=by simpa using c2
    rw[if_neg c2,ih _ _ hu,fin false (by rw[at_j,c2'];simp),if_neg (by simp),c2'];simp
  ·have c1':(!(x.typ==([]:Tx)))=false:=by simpa using c1
   rw[if_neg c1,ih _ _ hu,fin false (by rw[at_j,c1'];simp),if_neg (by simp),c1'];simp
def okA(M:List q0c)(to:Tx)(a:q1a):Bool:=a.to==to&&(a.typ==([]:Tx)||M.any fun m=>m.Type_==a.typ)
def v1s(M:List q0c)(to:Tx)(a:q1a)(i:Nat):Bool:=a.to==to&&z5v M a.typ i
theorem z2j(w:q3e)(h:q5j)(k:Bool->List Bool->Option (Bool×Int)):∀(l:List q1a) (b:Bool) (u:List Bool),u.length=w.Made.length->
  q4w F w h k l b u=k (b||l.any (okA w.Made h.To)) (q2q (fun i=>l.any fun a=>v1s w.Made h.To a i) u)
 |[],b,u,hu=>by rw[q4w,z5z (fun i _=>by simp)];simp
 |a::l,b,u,hu=>by
  rw[q4w]
  simp only[q2e,List.any_cons]
  by_cases c:(a.to==h.To)=true
  ·rw[if_neg (by rw[c];simp)]
   have e0:∀i,v1s w.Made h.To a i=z5v w.Made a.typ i:=fun i=>by unfold v1s;rw[c,Bool.true_and]
   have e1:okA w.Made h.To a=(a.typ==([]:Tx)||w.Made.any fun m=>m.Type_==a.typ):=by unfold okA;rw[c,Bool.true_and]
   have em:∀u:List Bool,u.length=w.Made.length->q2q (fun i=>l.any fun a=>v1s w.Made h.To a i) (q2q (fun i=>decide (0<=i)&&z5v w.Made a.typ i) u)=q2q (fun i=>v1s w.Made h.To a i||l.any fun a=>v1s w.Made h.To a i) u:=fun u hu=>by
    rw[z8l]
    refine q6r fun i _=>?_
    rw[e0];simp
   cases b
   ·rw[if_neg (by simp)]
    have:=j9p (F:=F) a (fun b204 l205=>q4w F w h k l b204 l205) w.Made w.Made 0 (a.typ==([]:Tx)) u rfl hu
    rw[show((0:Nat):Int)=0 from rfl] at this
    rw[this,z2j w h k l _ _ (by rw[j6c];exact hu),em u hu,e1]
    congr 1
    cases (a.typ==([]:Tx))<;>simp
   ·rw[if_pos rfl]
    have:=j0q (F:=F) a (fun l186=>q4w F w h k l true l186) w.Made w.Made 0 u rfl hu
    rw[show((0:Nat):Int)=0 from rfl] at this
    rw[this,z2j w h k l _ _ (by rw[j6c];exact hu),em u hu]
    simp
  ·have c':(a.to==h.To)=false:=by simpa using c
   rw[if_pos (by rw[c'];rfl),z2j w h k l b u hu]
   have e1:okA w.Made h.To a=false:=by unfold okA;rw[c'];rfl
   have e0:∀i,v1s w.Made h.To a i=false:=fun i=>by unfold v1s;rw[c'];rfl
   simp only[e1,e0,Bool.false_or]
def z9j(on:Tx->Bool)(n:Int)(c:Int)(cs:List q6c):Option q6c:=if n<=c then (cs[(c - n).toNat]?).bind fun x=>if on x.Feature=true then some x else none else none
theorem j2a{on:Tx->Bool}{n c:Int}{cs:List q6c}(h:c<n):z9j on n c cs=none:=if_neg (by omega)
theorem j4p{on:Tx->Bool}{n c:Int}{x:q6c}{cs:List q6c}:z9j on n c (x::cs)=if c=n then (if on x.Feature=true then some x else none) else z9j on (n+1) c cs:=by
 unfold z9j
 by_cases h:c=n
 ·subst h
  rw[if_pos (Int.le_refl _),if_pos rfl,Int.sub_self]
  simp
 ·rw[if_neg h]
  by_cases h2:n<=c
  ·rw[if_pos h2,if_pos (by omega)]
   have:(c - n).toNat=(c - (n+1)).toNat+1:=by omega
   rw[this];simp
  ·rw[if_neg h2,if_neg (by omega)]
theorem v3f(w:q3e)(h:q5j)(k:Bool->List Bool->Option (Bool×Int))(on:Tx->Bool):∀(cs:List q6c) (n:Int) (b:Bool) (u:List Bool),
  z5x F w h k (lks g on h.Site.Func n cs) b u=match z9j on n h.Site.Call cs with|some c=>q4w F w h k (q3j g c) b u|none=>k b u
 |[],n,b,u=>by
  have:z9j on n h.Site.Call []=none:=by unfold z9j;split<;>simp
  rw[this];rfl
 |c::cs,n,b,u=>by
  rw[j4p,lks]
  have ih:=v3f w h k on cs (n+1)
  by_cases ho:on c.Feature=true
  ·rw[if_pos ho,if_pos ho,z5x]
   simp only[q2e]
   by_cases e:h.Site.Call=n
   ·have hsite:q2n.mk h.Site.Func n=h.Site:=by rw[<-e]
    rw[if_neg (by simp[hsite]),if_pos e]
    have:(fun b60 l61=>z5x F w h k (lks g on h.Site.Func (n+1) cs) b60 l61)=k:=by
     funext b' u'
     rw[ih,j2a (by omega)]
    rw[this]
   ·have hsite:q2n.mk h.Site.Func n≠h.Site:=fun q=>e (by rw[<-q])
    rw[if_pos (by simp[hsite]),if_neg e]
    exact ih b u
  ·rw[if_neg ho,if_neg ho]
   by_cases e:h.Site.Call=n
   ·rw[if_pos e,ih,j2a (by omega)]
   ·rw[if_neg e];exact ih b u
theorem w3f(x:q5e)(h:q5j)(e:h.Site.Func=x.Name):z3b fs x h=z9j (onF fs) 0 h.Site.Call x.Calls:=by
 unfold z3b z9j
 by_cases h0:0<=h.Site.Call
 ·rw[if_pos ⟨e,h0⟩,if_pos h0,Int.sub_zero]
 ·rw[if_neg (fun q=>h0 q.2),if_neg h0]
theorem any_ok{M:List q0c}{to:Tx}{c:q6c}:(q3j g c).any (okA M to)=((q9q g c to).any (fun a=>a.typ==([]:Tx))||M.any (mkP g c to)):=by
 rw[Bool.eq_iff_iff,Bool.or_eq_true,List.any_eq_true,List.any_eq_true,List.any_eq_true]
 constructor
 ·rintro⟨a,ha,h⟩
  unfold okA at h
  rw[Bool.and_eq_true,Bool.or_eq_true,beq_iff_eq] at h
  by_cases ht:(a.typ==([]:Tx))=true
  ·exact .inl ⟨a,q8m.2 ⟨ha,h.1⟩,ht⟩
  ·rcases h.2 with h2|h2
   ·exact absurd h2 ht
   ·obtain⟨m,hm,h3⟩:=List.any_eq_true.1 h2
    refine .inr ⟨m,hm,?_⟩
    unfold mkP
    exact List.any_eq_true.2 ⟨a,q8m.2 ⟨ha,h.1⟩,by rw[h3,Bool.and_true];simpa using ht⟩
 ·rintro(⟨a,ha,h⟩|⟨m,hm,h⟩)
  ·obtain⟨h1,h2⟩:=q8m.1 ha
   exact⟨a,h1,by unfold okA;rw[h,h2];simp⟩
  ·unfold mkP at h
   obtain⟨a,ha,h3⟩:=List.any_eq_true.1 h
   obtain⟨h1,h2⟩:=q8m.1 ha
   rw[Bool.and_eq_true] at h3
   refine⟨a,h1,?_⟩
   unfold okA
   rw[h2]
   simp only[beq_self_eq_true,Bool.true_and,Bool.or_eq_true]
   exact .inr (List.any_eq_true.2 ⟨m,hm,h3.2⟩)
theorem any_ty{M:List q0c}{to:Tx}{c:q6c}(i:Nat):((q3j g c).any fun a=>v1s M to a i)=mkI g c to M i:=by
 unfold mkI
 cases hM:M[i]? with
 |none=>
  show _=false
  rw[List.any_eq_false]
  intro a _
  simp[v1s,z5v,hM]
 |some m=>
  show _=mkP g c to m
  unfold mkP
  rw[Bool.eq_iff_iff,List.any_eq_true,List.any_eq_true]
  constructor
  ·rintro⟨a,ha,h⟩
   unfold v1s z5v at h
   rw[hM,Bool.and_eq_true,beq_iff_eq] at h
   exact⟨a,q8m.2 ⟨ha,h.1⟩,h.2⟩
  ·rintro⟨a,ha,h⟩
   obtain⟨h1,h2⟩:=q8m.1 ha
   refine⟨a,h1,?_⟩
   unfold v1s z5v
   rw[hM,h2]
   simpa using h
theorem v4f(R:q0h g){n:q2b}(N:z3m g fs n)(w:q3e)(k:Tx->List Bool->Option (Bool×Int)):∀(hs:List q5j) (s:Tx) (u:List Bool),q4q g s=true->u.length=w.Made.length->
  j0j F w n k hs s u=match q8w g 2 fs w.Made hs s u with|none=>some (false,0)|some p=>k p.1 p.2
 |[],s,u,_,_=>rfl
 |h::hs,s,u,hs1,hu=>by
  rw[j0j,q8w]
  simp only[q2e]
  obtain⟨i,hi,he⟩:=q3q hs1
  have hfind:(g.Funcs.find? fun x=>x.Name==s)=some g.Funcs[i]:=by rw[<-he];exact z1e R hi
  unfold j8t
  rw[hfind,Option.bind_some]
  by_cases hf:h.Site.Func=s
  ·rw[if_neg (by simp[hf]),w3f _ h (hf.trans he.symm)]
   have hl:(q6b n.links s).getD []=lks g (onF fs) h.Site.Func 0 (g.Funcs[i]).Calls:=by rw[hf,<-he];exact N.l _ (List.getElem_mem hi)
   rw[hl,v3f]
   cases hc:z9j (onF fs) 0 h.Site.Call (g.Funcs[i]).Calls with
   |none=>simp
   |some c=>
    rw[Option.bind_some]
    simp only
    rw[z2j _ _ _ _ _ _ hu,Bool.false_or,any_ok]
    have e2:q2q (fun i=>(q3j g c).any fun a=>v1s w.Made h.To a i) u=q2q (mkI g c h.To w.Made) u:=q6r fun i _=>any_ty i
    rw[e2]
    have hcm:c∈(g.Funcs[i]).Calls:=by
     unfold z9j at hc
     split at hc
     ·rw[Option.bind_eq_some_iff] at hc
      obtain⟨c',h2,h3⟩:=hc
      split at h3
      ·simp only[Option.some.injEq] at h3;subst h3;exact List.mem_of_getElem? h2
      ·simp at h3
     ·simp at hc
    by_cases ha:q9q g c h.To=[]
    ·have:w.Made.any (mkP g c h.To)=false:=by
      rw[List.any_eq_false];intro m _;unfold mkP;rw[ha];simp
     rw[ha,this,if_pos rfl];simp
    ·rw[if_neg ha,if_neg (show ¬((2:Int)=1) by decide)]
     have hto:q4q g h.To=true:=by
      obtain⟨a,ha1,ha2⟩:=z9e.1 ha
      rw[<-ha2];exact q1r R (List.getElem_mem hi) hcm ha1
     cases ((q9q g c h.To).any (fun a=>a.typ==([]:Tx))||w.Made.any (mkP g c h.To))
     ·simp
     ·rw[if_neg (by simp),if_pos rfl,Option.bind_some]
      exact v4f R N w k hs h.To _ hto (by rw[j6c];exact hu)
  ·rw[if_pos (by simpa using hf)]
   have:z3b fs g.Funcs[i] h=none:=by unfold z3b;rw[if_neg (fun q=>hf (q.1.trans he))]
   rw[this];simp
theorem z4r(w:q3e)(hw:w.Made=[])(h:q5j)(k:Bool->List Bool->Option (Bool×Int)):∀(l:List q1a) (b:Bool) (u:List Bool),
  z5r F w h k l b u=k (b||l.any fun a=>a.to==h.To) u
 |[],b,u=>by rw[z5r];simp
 |a::l,b,u=>by
  rw[z5r]
  simp only[q2e,List.any_cons]
  cases c:(a.to==h.To)
  ·rw[if_pos (by simp),z4r w hw h k l b u];simp
  ·rw[if_neg (by simp),hw]
   cases b
   ·rw[if_neg (by simp),j6p,z4r w hw h k l];simp
   ·rw[if_pos rfl,j7p,z4r w hw h k l];simp
theorem v6f(w:q3e)(h:q5j)(k:Bool->List Bool->Option (Bool×Int))(on:Tx->Bool):∀(cs:List q6c) (n:Int) (b:Bool) (u:List Bool),
  z6x F w h k (lks g on h.Site.Func n cs) b u=match z9j on n h.Site.Call cs with|some c=>z5r F w h k (q3j g c) b u|none=>k b u
 |[],n,b,u=>by
  have:z9j on n h.Site.Call []=none:=by unfold z9j;split<;>simp
  rw[this];rfl
 |c::cs,n,b,u=>by
  rw[j4p,lks]
  have ih:=v6f w h k on cs (n+1)
  by_cases ho:on c.Feature=true
  ·rw[if_pos ho,if_pos ho,z6x]
   simp only[q2e]
   by_cases e:h.Site.Call=n
   ·have hsite:q2n.mk h.Site.Func n=h.Site:=by rw[<-e]
    rw[if_neg (by simp[hsite]),if_pos e]
    have:(fun b60 l61=>z6x F w h k (lks g on h.Site.Func (n+1) cs) b60 l61)=k:=by
     funext b' u'
     rw[ih,j2a (by omega)]
    rw[this]
   ·have hsite:q2n.mk h.Site.Func n≠h.Site:=fun q=>e (by rw[<-q])
    rw[if_pos (by simp[hsite]),if_neg e]
    exact ih b u
  ·rw[if_neg ho,if_neg ho]
   by_cases e:h.Site.Call=n
   ·rw[if_pos e,ih,j2a (by omega)]
   ·rw[if_neg e];exact ih b u
theorem v7f(R:q0h g){n:q2b}(N:z3m g fs n)(w:q3e)(hw:w.Made=[])(k:Tx->List Bool->Option (Bool×Int)):∀(hs:List q5j) (s:Tx) (u:List Bool),q4q g s=true->
  j2j F w n k hs s u=match q8w g 1 fs w.Made hs s u with|none=>some (false,0)|some p=>k p.1 p.2
 |[],s,u,_=>rfl
 |h::hs,s,u,hs1=>by
  rw[j2j,q8w]
  simp only[q2e]
  obtain⟨i,hi,he⟩:=q3q hs1
  have hfind:(g.Funcs.find? fun x=>x.Name==s)=some g.Funcs[i]:=by rw[<-he];exact z1e R hi
  unfold j8t
  rw[hfind,Option.bind_some]
  by_cases hf:h.Site.Func=s
  ·rw[if_neg (by simp[hf]),w3f _ h (hf.trans he.symm)]
   have hl:(q6b n.links s).getD []=lks g (onF fs) h.Site.Func 0 (g.Funcs[i]).Calls:=by rw[hf,<-he];exact N.l _ (List.getElem_mem hi)
   rw[hl,v6f]
   cases hc:z9j (onF fs) 0 h.Site.Call (g.Funcs[i]).Calls with
   |none=>simp
   |some c=>
    rw[Option.bind_some]
    simp only
    rw[z4r _ hw,Bool.false_or]
    have hcm:c∈(g.Funcs[i]).Calls:=by
     unfold z9j at hc
     split at hc
     ·rw[Option.bind_eq_some_iff] at hc
      obtain⟨c',h2,h3⟩:=hc
      split at h3
      ·simp only[Option.some.injEq] at h3;subst h3;exact List.mem_of_getElem? h2
      ·simp at h3
     ·simp at hc
    by_cases ha:q9q g c h.To=[]
    ·have:((q3j g c).any fun a=>a.to==h.To)=false:=by
      rw[List.any_eq_false]
      intro a haa hat
      have:=q8m.2 ⟨haa,by simpa using hat⟩
      rw[ha] at this;simp at this
     rw[this,if_pos ha];simp
    ·have:((q3j g c).any fun a=>a.to==h.To)=true:=by
      obtain⟨a,ha1,ha2⟩:=z9e.1 ha
      exact List.any_eq_true.2 ⟨a,ha1,by simpa using ha2⟩
     rw[this,if_neg ha]
     have hto:q4q g h.To=true:=by
      obtain⟨a,ha1,ha2⟩:=z9e.1 ha
      rw[<-ha2];exact q1r R (List.getElem_mem hi) hcm ha1
     simp only[Bool.not_true,Bool.false_eq_true,if_false,if_true,Option.bind_some]
     exact v7f R N w hw k hs h.To _ hto
  ·rw[if_pos (by simpa using hf)]
   have:z3b fs g.Funcs[i] h=none:=by unfold z3b;rw[if_neg (fun q=>hf (q.1.trans he))]
   rw[this];simp
end
end Go.Proofs.YtpbkggamiipdmaaGreat
