/- Part of the proof: O, P, R, S. -/
import Derived.Test.YtelmfadihfcgnaaGreatDoorXPvM
import Derived.Orders
import Derived.OrdersIn
import Derived.Laws.StructEq
import Derived.Laws.Strings
import Derived.Lib.Strings
set_option linter.unusedSimpArgs false
set_option linter.unusedVariables false
namespace Go.Pv
open Go
def j6d{α:Type}(d:α):List (Nat×α)->Nat->α
 |[],_=>d
 |(k,v)::e,t=>if k=t then v else j6d d e t
theorem q1r(e:Env)(t:Nat):get e t=j6d .any e t:=by
 induction e with
 |nil=>rfl
 |cons p e ih=>obtain⟨k,v⟩:=p;rw[q4k,j6d,ih]
theorem q3o(e:q8d)(t:Nat):q7b e t=j6d .dead e t:=by
 induction e with
 |nil=>rfl
 |cons p e ih=>obtain⟨k,v⟩:=p;rw[q0b,j6d,ih]
def z9x{α:Type}(t:Nat)(l:List (Nat×α)):Bool:=l.any fun p=>Nat.beq p.1 t
theorem q8q{α:Type}(d:α)(l e:List (Nat×α))(t:Nat):j6d d (l++e) t=if z9x t l=true then j6d d l t else j6d d e t:=by
 induction l with
 |nil=>simp[z9x]
 |cons p l ih=>
  obtain⟨k,v⟩:=p;simp only[List.cons_append,j6d];by_cases h:k=t
  ·subst h;simp[z9x]
  ·have hk:Nat.beq k t=false:=by cases hb:Nat.beq k t;rfl;exact absurd (co9 hb) h
   have hs:z9x t ((k,v)::l)=z9x t l:=by simp[z9x,hk]
   rw[if_neg h,if_neg h,ih,hs]
theorem z1f{α:Type}(d:α)(l e:List (Nat×α))(t:Nat)(h:z9x t l=true):j6d d (l++e) t=j6d d l t:=by rw[q8q,if_pos h]
def runs{α:Type}(p:Nat->Bool):Nat->List (List (Nat×α))->List (Nat×α)->List (Nat×α)
 |_,[],e=>e
 |i,u::us,e=>runs p (i+1) us (if p i then u++e else e)
theorem q0y{α:Type}(d:α)(p:Nat->Bool)(t:Nat):∀(us:List (List (Nat×α))) (i:Nat) (e:List (Nat×α)),
  (∀j u,us[j]? = some u->z9x t u=true->p (i+j)=false)->j6d d (runs p i us e) t=j6d d e t
 |[],_,_,_=>rfl
 |u::us,i,e,h=>by
  rw[runs,q0y d p t us (i+1) _ (fun j u' hu hs=>by have:=h (j+1) u' (by simpa using hu) hs;rw[<-this];congr 1;omega)];split
  ·rename_i hp;rw[q8q,if_neg];intro hs;have:=h 0 u rfl hs;simp[hp] at this
  ·rfl
theorem q2q{α:Type}(d:α)(p q:Nat->Bool)(t:Nat):∀(us:List (List (Nat×α))) (i:Nat) (e e':List (Nat×α)),j6d d e t=j6d d e' t->
  (∀j u,us[j]? = some u->z9x t u=true->p (i+j)=q (i+j))->j6d d (runs p i us e) t=j6d d (runs q i us e') t
 |[],_,_,_,he,_=>he
 |u::us,i,e,e',he,h=>by
  rw[runs,runs];refine q2q d p q t us (i+1) _ _ ?_ (fun j u' hu hs=>by have:=h (j+1) u' (by simpa using hu) hs;have e1:i+1+j=i+(j+1):=(by omega);rw[e1];exact this);by_cases hs:z9x t u=true
  ·have:=h 0 u rfl hs;simp only[bh8] at this;rw[this];split
   ·rw[z1f _ _ _ _ hs,z1f _ _ _ _ hs]
   ·exact he
  ·have:∀e,j6d d (if p i then u++e else e) t=j6d d e t:=by
    intro e;split
    ·rw[q8q,if_neg hs]
    ·rfl
   rw[this]
   have:∀e,j6d d (if q i then u++e else e) t=j6d d e t:=by
    intro e;split
    ·rw[q8q,if_neg hs]
    ·rfl
   rw[this];exact he
theorem z7z{α:Type}(d:α)(p:Nat->Bool)(t:Nat):∀(us:List (List (Nat×α))) (i:Nat) (e:List (Nat×α)) (j:Nat) (u:List (Nat×α)),us[j]? = some u->z9x t u=true->p (i+j)=true->
  (∀j' u',j<j'->us[j']? = some u'->z9x t u'=true->p (i+j')=false)->j6d d (runs p i us e) t=j6d d u t
 |[],_,_,_,_,h,_,_,_=>by simp at h
 |u0::us,i,e,0,u,hu,hs,hp,hl=>by
  simp at hu;subst hu;simp only[bh8] at hp;rw[runs,if_pos hp,q0y d p t us (i+1) _ (fun j u' hu' hs'=>by have:=hl (j+1) u' (by omega) (by simpa using hu') hs';rw[<-this];congr 1;omega),z1f _ _ _ _ hs]
 |u0::us,i,e,j+1,u,hu,hs,hp,hl=>by
  rw[runs];refine z7z d p t us (i+1) _ j u (by simpa using hu) hs (by rw[<-hp];congr 1;omega) (fun j' u' hj' hu' hs'=>?_);have:=hl (j'+1) u' (by omega) (by simpa using hu') hs';rw[<-this];congr 1;omega
structure OD where
 re:List (Nat×V)
 rh:List (Nat×Ob)
 ue:List (Nat×V)
 uh:List (Nat×Ob)
def RdE(e:Env):List (Nat×V)->Prop
 |[]=>True
 |(t,v)::r=>get e t=v/\RdE e r
def RdH(e:q8d):List (Nat×Ob)->Prop
 |[]=>True
 |(t,v)::r=>q7b e t=v/\RdH e r
theorem RdE.congr{e e':Env}:∀{l:List (Nat×V)},(∀t,z9x t l=true->get e t=get e' t)->RdE e l->RdE e' l
 |[],_,_=>trivial
 |(t,v)::r,h,hr=>⟨by rw[<-h t (by simp[z9x])];exact hr.1,RdE.congr (fun t' ht'=>h t' (by simp only[z9x,cj9,at9] at *;exact .inr ht')) hr.2⟩
theorem RdH.congr{e e':q8d}:∀{l:List (Nat×Ob)},(∀t,z9x t l=true->q7b e t=q7b e' t)->RdH e l->RdH e' l
 |[],_,_=>trivial
 |(t,v)::r,h,hr=>⟨by rw[<-h t (by simp[z9x])];exact hr.1,RdH.congr (fun t' ht'=>h t' (by simp only[z9x,cj9,at9] at *;exact .inr ht')) hr.2⟩
def St.upd(S:St)(D:OD):St:=⟨D.ue++S.env,D.uh++S.hp,S.nx⟩
def w7e(K:Ctx)(nx:Nat)(ops:Array Oper)(o:Oper)(D:OD):Prop:=∀S,S.nx=nx->RdE S.env D.re->RdH S.hp D.rh->q1d K ops [o] (fun e T=>e=.normal/\T=S.upd D) S
def v9m(K:Ctx)(A:q8d->Prop)(nx:Nat)(ops:Array Oper)(o:Oper)(D:OD):Prop:=∀S,S.nx=nx->A S.hp->RdE S.env D.re->RdH S.hp D.rh->q1d K ops [o] (fun e T=>e=.normal/\T=S.upd D) S
def j0r:St->List OD->Prop
 |_,[]=>True
 |S,D::ds=>RdE S.env D.re/\RdH S.hp D.rh/\j0r (S.upd D) ds
def z9b:St->List OD->St
 |S,[]=>S
 |S,D::ds=>z9b (S.upd D) ds
theorem y2p:∀(ds:List OD) (S:St) (j:Nat) (D:OD),j0r S ds->ds[j]? = some D->
  RdE (runs (fun i=>Nat.blt i j) 0 (ds.map (·.ue)) S.env) D.re/\RdH (runs (fun i=>Nat.blt i j) 0 (ds.map (·.uh)) S.hp) D.rh:=by
 -- by the number of the first operation
 have key:∀(ds:List OD) (S:St) (k j:Nat) (D:OD),j0r S ds->ds[j]? = some D->
   RdE (runs (fun i=>Nat.blt i (k+j)) k (ds.map (·.ue)) S.env) D.re/\RdH (runs (fun i=>Nat.blt i (k+j)) k (ds.map (·.uh)) S.hp) D.rh:=by
  intro ds
  induction ds with
  |nil=>intro S k j D _ h;simp at h
  |cons D0 ds ih=>
   intro S k j D hl h;obtain⟨h1,h2,h3⟩:=hl;cases j with
   |zero=>
    simp at h;subst h;simp only[bo9,bh8];constructor
    ·refine RdE.congr (fun t _=>?_) h1;rw[q1r,q1r];refine(q0y .any _ t _ k S.env ?_).symm;intro j u _ _;cases hb:Nat.blt (k+j) k;rfl;have:=az8 hb;omega
    ·refine RdH.congr (fun t _=>?_) h2;rw[q3o,q3o];refine(q0y .dead _ t _ k S.hp ?_).symm;intro j u _ _;cases hb:Nat.blt (k+j) k;rfl;have:=az8 hb;omega
   |succ j=>
    have hk:Nat.blt k (k+(j+1))=true:=cp9 (by omega);have:=ih (S.upd D0) (k+1) j D h3 (by simpa using h);simp only[bo9,runs,hk,if_true];have e1:k+1+j=k+(j+1):=by omega
    rw[e1] at this;exact this
 intro ds S j D hl h;have:=key ds S 0 j D hl h
 simpa using this
theorem v8y:∀(ds:List OD) (S:St) (k:Nat),z9b S ds=⟨runs (fun _=>true) k (ds.map (·.ue)) S.env,runs (fun _=>true) k (ds.map (·.uh)) S.hp,S.nx⟩
 |[],S,k=>rfl
 |D::ds,S,k=>by
  rw[z9b,v8y ds (S.upd D) (k+1)];simp[runs,St.upd]
def z1r(o:Oper):List Nat:=(o.after.toList.filter fun e=>Region.binds .any e).map (·.on)
def v8s:List Oper->List (List Nat)->List (List Nat)
 |[],acc=>acc
 |o::os,acc=>v8s os (acc++[z1r o++(z1r o).flatMap fun j=>acc.getD j []])
def z0o{α β:Type}(l:List (Nat×α))(l':List (Nat×β)):Bool:=l.any fun p=>l'.any fun q=>Nat.beq p.1 q.1
def z5e(D D':OD):Bool:=z0o D.ue D'.re||z0o D.ue D'.ue||z0o D.re D'.ue||z0o D.uh D'.rh||z0o D.uh D'.uh||z0o D.rh D'.uh
def j9y(os:List Oper)(ds:List OD):Bool:=
 let A:=v8s os []
 Nat.beq os.length ds.length &&
 (List.range os.length).all fun i=>(match os[i]? with|some o=>(z1r o).all fun j=>Nat.blt j i|none=>false) &&
  (List.range i).all fun j=>match ds[j]?,ds[i]? with|some D,some D'=>!z5e D D'||(A.getD i []).any fun k=>Nat.beq k j|_,_=>false
def v7m(os:List Oper)(ds:List OD):Bool:=
 let A:=v8s os []
 Nat.ble ds.length os.length &&
 (List.range os.length).all fun i=>(match os[i]? with|some o=>(z1r o).all (fun j=>Nat.blt j i)|none=>false) &&
  (List.range i).all fun j=>match Nat.blt i ds.length with
   |true=>(match ds[j]?,ds[i]? with|some D,some D'=>!z5e D D'||(A.getD i []).any fun k=>Nat.beq k j|_,_=>false)
   |false=>!Nat.blt j ds.length||(A.getD i []).any fun k=>Nat.beq k j
theorem q6v{α β:Type}{l:List (Nat×α)}{l':List (Nat×β)}{t:Nat}(h:z9x t l=true)(h':z9x t l'=true):z0o l l'=true:=by
 simp only[z9x,cj8] at h h';obtain⟨p,hp,hpt⟩:=h;obtain⟨q,hq,hqt⟩:=h';simp only[z0o,cj8];refine⟨p,hp,q,hq,?_⟩;rw[co9 hpt,co9 hqt];exact ak8 t
theorem z4l{os:List Oper}{listed:Nat->Bool}:∀(rest:List Oper) (acc:List (List Nat)) (done:List Oper),os=done++rest->acc.length=done.length->
  (∀(i:Nat) (o:Oper),os[i]? = some o->listed i=true->∀j,j∈z1r o->listed j=true)->
  (∀(i:Nat) (l:List Nat),acc[i]? = some l->listed i=true->∀j,j∈l->listed j=true)->
  ∀(i:Nat) (l:List Nat),(v8s rest acc)[i]? = some l->listed i=true->∀j,j∈l->listed j=true:=by
 intro rest
 induction rest with
 |nil=>intro acc done _ _ _ h;exact h
 |cons o rest ih=>
  intro acc done hos hlen hcl hacc;refine ih _ (done++[o]) (by simp[hos]) (by simp[hlen]) hcl ?_;intro i l hi hli j hj;rw[bv8] at hi;split at hi
  ·exact hacc i l hi hli j hj
  ·rename_i hge
   have hi0:i - acc.length=0:=by
    cases hx:i - acc.length with
    |zero=>rfl
    |succ n=>rw[hx] at hi;simp at hi
   rw[hi0] at hi;simp at hi;subst hi;have hil:i=done.length:=by omega
   have ho:os[i]? = some o:=by rw[hos,hil];simp
   rcases cc8.1 hj with hj|hj
   ·exact hcl i o ho hli j hj
   ·simp only[ad9] at hj;obtain⟨k,hk,hjk⟩:=hj;have hlk:=hcl i o ho hli k hk;cases hak:acc[k]? with
    |none=>simp[hak] at hjk
    |some l=>
     simp[hak] at hjk;exact hacc k l hak hlk j hjk
section
variable{K:Ctx}{Q:q5l}{S S':St}
variable{m:Mem}{β:q4h}{w:World}{a:Act}
theorem Rel.congr(r:Rel K m β w a S)(he:∀t,get S'.env t=get S.env t)(hh:∀t,q7b S'.hp t=q7b S.hp t)(hn:S'.nx=S.nx):Rel K m β w a S':=
 ⟨r.imm,r.ext,r.mold,r.frame,r.size,r.same,r.tn,r.df,fun t=>by rw[he];exact r.env t,fun i=>by rw[hh];exact r.own i,fun i b c h=>r.priv i b c (by rw[<-hh];exact h),
  fun i i' b c c' h h'=>r.inj i i' b c c' (by rw[<-hh];exact h) (by rw[<-hh];exact h'),
  fun i x h hx=>let q:=r.hid i x (by rw[<-hh];exact h) hx;⟨q.lt,q.m,q.old,fun i' b c h'=>q.ne i' b c (by rw[<-hh];exact h'),fun i' h'=>q.un i' (by rw[<-hh];exact h')⟩,fun i h=>r.nx i (by rw[<-hn];exact h),fun q hq=>by rw[hn];exact r.pin q hq⟩
theorem j9b{A:q8d->Prop}{rid:Nat}{l:List Oper}(ds:List OD)(hm:K.P.follows .mixedOrders=true)(hlex:j0r S ds)(hok:v7m l ds=true)(hA:∀p:Nat->Bool,A (runs p 0 (ds.map (·.uh)) S.hp))
  (hst:∀(i:Nat) (o:Oper) (D:OD),l[i]? = some o->ds[i]? = some D->v9m K A S.nx l.toArray o D) (hend:∀(listed:Array Bool) (m:Mem) (β:q4h) (w:World) (a:Act),listed.size=l.length->(∀i,listed.getD i false=Nat.blt i ds.length)->Rel K m β w a (z9b S ds)->wpAnyIn K.fc 0 K.P .any l.toArray (Q.at K) (l.length - ds.length) listed a w):AWP K (.region rid l.toArray true) Q S:=by
 intro m β w a r;refine wpIn_region_any hm ?_;have r0:Rel K m β { w with drawn:=w.drawn+1 } a S:=r.drawn (w.drawn+1) (am8 _)
 -- what 'anyOk' z9x
 simp only[v7m,as9,as8,cr8] at hok;obtain⟨hlen,hall⟩:=hok;have hlen:=az8 hlen
 have hpre:∀(i:Nat) (o:Oper),l[i]? = some o->∀j,j∈z1r o->j<i:=by
  intro i o ho j hj;have hi:i<l.length:=(bf9.1 ho).1;have:=(hall i hi).1;rw[ho] at this;exact az8 (as8.1 this j hj)
 have hclash:∀(i j:Nat) (D D':OD),j<i->ds[j]? = some D->ds[i]? = some D'->z5e D D'=true->j∈(v8s l []).getD i []:=by
  intro i j D D' hji hD hD' hc;have hi0:i<ds.length:=(bf9.1 hD').1;have hi:i<l.length:=by omega
  have:=(hall i hi).2 j hji;rw[show Nat.blt i ds.length=true from cp9 hi0,hD,hD'] at this;simp only[hc,bx8,ck9,cj8] at this;obtain⟨k,hk,hkj⟩:=this;rw[<-co9 hkj];exact hk
 -- what stands behind
 have hfirst:∀i,ds.length<=i->i<l.length->∀j,j<ds.length->j∈(v8s l []).getD i []:=by
  intro i hge hn j hj;have:=(hall i hn).2 j (by omega)
  have hb:Nat.blt i ds.length=false:=by
   cases hb:Nat.blt i ds.length;rfl;have:=az8 hb;omega
  rw[hb,show Nat.blt j ds.length=true from cp9 hj] at this;simp only[bx8,ck9,cj8] at this;obtain⟨k,hk,hkj⟩:=this;rw[<-co9 hkj];exact hk
 let US:=ds.map (·.ue)
 let HS:=ds.map (·.uh)
 let St' (p:Nat->Bool):St:=⟨runs p 0 US S.env,runs p 0 HS S.hp,S.nx⟩
 have key:∀(fuel:Nat) (listed:Array Bool) (a:Act) (w:World),listed.size=l.length->fuel+(listed.toList.filter id).length=l.length->
   (∀(i:Nat) (o:Oper),l[i]? = some o->listed.getD i false=true->∀j,j∈z1r o->listed.getD j false=true)->
   ((∀i,ds.length<=i->listed.getD i false=false)/\∃m β,Rel K m β w a (St' fun i=>listed.getD i false))->wpAnyIn K.fc 0 K.P .any l.toArray (Q.at K) fuel listed a w:=by
  -- all are listed: the end
  have fin0:∀(listed:Array Bool) (a:Act) (w:World),(∀i,i<ds.length->listed.getD i false=true)->(∃m β,Rel K m β w a (St' fun i=>listed.getD i false))->∃m β,Rel K m β w a (z9b S ds):=by
   rintro listed a w hl ⟨m,β,r⟩
   refine⟨m,β,?_⟩;rw[v8y ds S 0];refine r.congr (fun t=>?_) (fun t=>?_) rfl
   ·show get (runs (fun _=>true) 0 US S.env) t=get (runs (fun i=>listed.getD i false) 0 US S.env) t
    rw[q1r,q1r];refine q2q _ _ _ t _ 0 _ _ rfl fun j u hu _=>?_;rw[ch8,hl j];have:=(bf9.1 hu).1;simp only[US,bk8] at this;omega
   ·show q7b (runs (fun _=>true) 0 HS S.hp) t=q7b (runs (fun i=>listed.getD i false) 0 HS S.hp) t
    rw[q3o,q3o];refine q2q _ _ _ t _ 0 _ _ rfl fun j u hu _=>?_;rw[ch8,hl j];have:=(bf9.1 hu).1;simp only[HS,bk8] at this;omega
  have hready:∀(listed:Array Bool) i,i∈Region.ready .any l.toArray listed<->i<l.length/\listed.getD i true=false/\∃o,l[i]? = some o/\∀j,j∈z1r o->listed.getD j false=true:=by
   intro listed i;simp only[Region.ready,cc9,cr8,bp8,bi8,as9,Bool.not_eq_true'];constructor
   ·rintro⟨h1,h2,h3⟩
    refine⟨h1,h2,l[i],bb9 h1,fun j hj=>?_⟩;rw[bb9 h1] at h3;simp only[bc8,ca8,Array.all_eq_true] at h3;simp only[z1r,bg9,cc9] at hj;obtain⟨e,⟨he,hb⟩,rfl⟩:=hj;obtain⟨k,hk,rfl⟩:=bl9 he;have:=h3 k (by simpa using hk);simp only[Array.getElem_toList] at hb ⊢
    simpa[hb] using this
   ·rintro⟨h1,h2,o,ho,h3⟩
    refine⟨h1,h2,?_⟩;rw[ho];simp only[bc8,ca8,Array.all_eq_true];intro k hk;by_cases hb:Region.binds .any o.after[k]=true
    ·have:=h3 o.after[k].on (by
      simp only[z1r,bg9,cc9];exact⟨o.after[k],⟨by simp,hb⟩,rfl⟩)
     simp[hb,this]
    ·simp[Bool.eq_false_iff.2 hb]
  have none_ready:∀(listed:Array Bool),listed.size=l.length->Region.ready .any l.toArray listed=[]->∀i,i<l.length->listed.getD i false=true:=by
   intro listed hsz hr i
   induction i using Nat.strongRecOn with
   |_ i ih=>
    intro hi;cases hli:listed.getD i false with
    |true=>rfl
    |false=>
     exfalso
     have:i∈Region.ready .any l.toArray listed:=by
      rw[hready];refine⟨hi,?_,l[i],bb9 hi,fun j hj=>?_⟩
      ·have hi':i<listed.size:=by omega
       simp only[bo8,bd8 hi',ca8] at hli ⊢;exact hli
      ·have:=hpre i _ (bb9 hi) j hj;exact ih j this (by omega)
     rw[hr] at this;simp at this
  have step:∀(listed:Array Bool) (i:Nat) (a:Act) (w:World) (K':Act->World->Prop),listed.size=l.length->
    (∀(i:Nat) (o:Oper),l[i]? = some o->listed.getD i false=true->∀j,j∈z1r o->listed.getD j false=true)->
    (∃m β,Rel K m β w a (St' fun i=>listed.getD i false))->i∈Region.ready .any l.toArray listed->i<ds.length->
    (∀a w,(∃m β,Rel K m β w a (St' fun j=>(listed.setIfInBounds i true).getD j false))->K' a w)->wpOpIn K.fc 0 K.P l.toArray (Q.at K) i K' a w:=by
   rintro listed i a w K' hsz hcl ⟨m,β,r⟩ hi hin hK
   rw[hready] at hi;obtain⟨hil,hli,o,ho,hpr⟩:=hi;obtain⟨D,hD⟩:∃D,ds[i]? = some D:=⟨ds[i]'(by omega),bb9 (by omega)⟩
   have hlf:listed.getD i false=false:=by
    have hi':i<listed.size:=by omega
    simp only[bo8,bd8 hi',ca8] at hli ⊢;exact hli
   -- who stands ahead
   have anc:∀k,listed.getD k false=true->∀j,j∈(v8s l []).getD k []->listed.getD j false=true:=by
    intro k hk j hj;cases hak:(v8s l [])[k]? with
    |none=>simp[hak] at hj
    |some L=>
     simp[hak] at hj;exact z4l (os:=l) (listed:=fun i=>listed.getD i false) l [] [] rfl rfl hcl (by simp) k L hak hk j hj
   have ancI:∀j,j∈(v8s l []).getD i []->listed.getD j false=true:=by
    intro j hj
    have hcl':∀(k:Nat) (o':Oper),l[k]? = some o'->(listed.getD k false||Nat.beq k i)=true->∀j,j∈z1r o'->(listed.getD j false||Nat.beq j i)=true:=by
     intro k o' ho' hk j hj;rw[at9] at hk ⊢;rcases hk with hk|hk
     ·exact .inl (hcl k o' ho' hk j hj)
     ·have:=co9 hk;subst this;rw[ho] at ho';cases ho';exact .inl (hpr j hj)
    cases hak:(v8s l [])[i]? with
    |none=>simp[hak] at hj
    |some L=>
     simp[hak] at hj;have h1:=z4l (os:=l) (listed:=fun k=>listed.getD k false||Nat.beq k i) l [] [] rfl rfl hcl' (by simp) i L hak (by simp[ak8]) j hj;simp only[at9] at h1;rcases h1 with h1|h1
     ·exact h1
     ·exfalso
      -- nothing stands ahead of itself
      have hlt:∀(rest:List Oper) (acc:List (List Nat)) (done:List Oper),l=done++rest->acc.length=done.length->(∀(k:Nat) (L:List Nat),acc[k]? = some L->∀j,j∈L->j<k)->∀(k:Nat) (L:List Nat),(v8s rest acc)[k]? = some L->∀j,j∈L->j<k:=by
       intro rest
       induction rest with
       |nil=>intro acc done _ _ h;exact h
       |cons o' rest ih=>
        intro acc done hos hl2 hacc;refine ih _ (done++[o']) (by simp[hos]) (by simp[hl2]) ?_;intro k L hk j hj;rw[bv8] at hk;split at hk
        ·exact hacc k L hk j hj
        ·have hk0:k - acc.length=0:=by
          cases hx:k - acc.length with
          |zero=>rfl
          |succ n=>rw[hx] at hk;simp at hk
         rw[hk0] at hk;simp at hk;subst hk;have hkl:k=done.length:=by omega
         have ho'':l[k]? = some o':=by rw[hos,hkl];simp
         rcases cc8.1 hj with hj|hj
         ·exact hpre k o' ho'' j hj
         ·simp only[ad9] at hj;obtain⟨q,hq,hjq⟩:=hj;have hqk:=hpre k o' ho'' q hq;cases haq:acc[q]? with
          |none=>simp[haq] at hjq
          |some L=>
           simp[haq] at hjq;have:=hacc q L haq j hjq;omega
      have:=hlt l [] [] rfl rfl (by simp) i L hak j hj;have:=co9 h1;omega
   -- another one that clashes
   have other:∀(j:Nat) (D':OD),j≠i->ds[j]? = some D'->(z5e D' D=true\/z5e D D'=true)->(j<i->z5e D' D=true)->(i<j->z5e D D'=true)->(listed.getD j false=Nat.blt j i):=by
    intro j D' hne hD' _ h1 h2;rcases Nat.lt_or_gt_of_ne hne with hlt|hgt
    ·rw[ancI j (hclash i j D' D hlt hD' hD (h1 hlt))];exact(cp9 hlt).symm
    ·have hb:Nat.blt j i=false:=by
      cases hb:Nat.blt j i;rfl;have:=az8 hb;omega
     rw[hb];cases hx:listed.getD j false with
     |false=>rfl
     |true=>
      have:=anc j hx i (hclash j i D D' hgt hD hD' (h2 hgt));rw[hlf] at this;simp at this
   have hblt:Nat.blt i i=false:=by
    cases hb:Nat.blt i i;rfl;have:=az8 hb;omega
   have clash_l:∀D1 D2:OD,(z0o D1.ue D2.re=true\/z0o D1.ue D2.ue=true\/z0o D1.re D2.ue=true\/z0o D1.uh D2.rh=true\/z0o D1.uh D2.uh=true\/z0o D1.rh D2.uh=true)->z5e D1 D2=true:=by
    intro D1 D2 h;simp only[z5e,at9];rcases h with h|h|h|h|h|h<;>simp[h]
   obtain⟨lr,lh⟩:=y2p ds S i D hlex hD
   -- the reads
   have hre:RdE (runs (fun i=>listed.getD i false) 0 US S.env) D.re:=by
    refine RdE.congr (fun t ht=>?_) lr;rw[q1r,q1r];refine q2q _ _ _ t _ 0 _ _ rfl fun j u hu hs=>?_;rw[ch8];simp only[bb8] at hu;cases hDj:ds[j]? with
    |none=>simp[hDj] at hu
    |some D'=>
     simp[hDj] at hu;subst hu;by_cases hji:j=i
     ·subst hji;rw[hblt,hlf]
     ·have c1:z5e D' D=true:=clash_l _ _ (.inl (q6v hs ht));have c2:z5e D D'=true:=clash_l _ _ (.inr (.inr (.inl (q6v ht hs))));exact(other j D' hji hDj (.inl c1) (fun _=>c1) (fun _=>c2)).symm
   have hrh:RdH (runs (fun i=>listed.getD i false) 0 HS S.hp) D.rh:=by
    refine RdH.congr (fun t ht=>?_) lh;rw[q3o,q3o];refine q2q _ _ _ t _ 0 _ _ rfl fun j u hu hs=>?_;rw[ch8];simp only[bb8] at hu;cases hDj:ds[j]? with
    |none=>simp[hDj] at hu
    |some D'=>
     simp[hDj] at hu;subst hu;by_cases hji:j=i
     ·subst hji;rw[hblt,hlf]
     ·have c1:z5e D' D=true:=clash_l _ _ (.inr (.inr (.inr (.inl (q6v hs ht)))));have c2:z5e D D'=true:=clash_l _ _ (.inr (.inr (.inr (.inr (.inr (q6v ht hs))))));exact(other j D' hji hDj (.inl c1) (fun _=>c1) (fun _=>c2)).symm
   have hset:∀j,(listed.setIfInBounds i true).getD j false=if j=i then true else listed.getD j false:=by
    intro j;simp only[bo8,bs9];by_cases hji:i=j
    ·subst hji;simp[show i<listed.size by omega]
    ·simp[hji,Ne.symm hji]
   -- the writings
   have hwe:∀t,get (runs (fun j=>(listed.setIfInBounds i true).getD j false) 0 US S.env) t=get (D.ue++runs (fun j=>listed.getD j false) 0 US S.env) t:=by
    intro t;rw[q1r,q1r];by_cases hs:z9x t D.ue=true
    ·rw[z1f _ _ _ _ hs];refine z7z _ _ t _ 0 _ i D.ue (by simp[US,hD]) hs (by rw[ch8,hset,if_pos rfl]) ?_;intro j u hj hu hs';rw[ch8,hset,if_neg (by omega)];simp only[US,bb8] at hu;cases hDj:ds[j]? with
     |none=>simp[hDj] at hu
     |some D'=>
      simp[hDj] at hu;subst hu;have c1:z5e D' D=true:=clash_l _ _ (.inr (.inl (q6v hs' hs)));have c2:z5e D D'=true:=clash_l _ _ (.inr (.inl (q6v hs hs')));rw[other j D' (by omega) hDj (.inl c1) (fun _=>c1) (fun _=>c2)];cases hb:Nat.blt j i;rfl;have:=az8 hb;omega
    ·rw[q8q,if_neg hs];refine q2q _ _ _ t _ 0 _ _ rfl fun j u hu hs'=>?_;rw[ch8,hset];by_cases hji:j=i
     ·subst hji;simp only[US,bb8,hD,bc8,az9] at hu;subst hu;exact absurd hs' hs
     ·rw[if_neg hji]
   have hwh:∀t,q7b (runs (fun j=>(listed.setIfInBounds i true).getD j false) 0 HS S.hp) t=q7b (D.uh++runs (fun j=>listed.getD j false) 0 HS S.hp) t:=by
    intro t;rw[q3o,q3o];by_cases hs:z9x t D.uh=true
    ·rw[z1f _ _ _ _ hs];refine z7z _ _ t _ 0 _ i D.uh (by simp[HS,hD]) hs (by rw[ch8,hset,if_pos rfl]) ?_;intro j u hj hu hs';rw[ch8,hset,if_neg (by omega)];simp only[HS,bb8] at hu;cases hDj:ds[j]? with
     |none=>simp[hDj] at hu
     |some D'=>
      simp[hDj] at hu;subst hu;have c1:z5e D' D=true:=clash_l _ _ (.inr (.inr (.inr (.inr (.inl (q6v hs' hs))))));have c2:z5e D D'=true:=clash_l _ _ (.inr (.inr (.inr (.inr (.inl (q6v hs hs'))))));rw[other j D' (by omega) hDj (.inl c1) (fun _=>c1) (fun _=>c2)];cases hb:Nat.blt j i;rfl;have:=az8 hb;omega
    ·rw[q8q,if_neg hs];refine q2q _ _ _ t _ 0 _ _ rfl fun j u hu hs'=>?_;rw[ch8,hset];by_cases hji:j=i
     ·subst hji;simp only[HS,bb8,hD,bc8,az9] at hu;subst hu;exact absurd hs' hs
     ·rw[if_neg hji]
   have hstep:=hst i o D ho hD (St' fun i=>listed.getD i false) rfl (hA _) hre hrh m β w a r
   have hcont:∀a w,(∃m β,Rel K m β w a ((St' fun i=>listed.getD i false).upd D))->K' a w:=by
    rintro a w ⟨m,β,r⟩
    exact hK a w ⟨m,β,r.congr hwe hwh rfl⟩
   unfold wpListIn at hstep;unfold wpOpIn;simp only[bi8,ho]
   have conv:∀a w,wpListIn K.fc 0 K.P l.toArray (q5l.at K fun e T=>e=.normal/\T=(St' fun i=>listed.getD i false).upd D) [] a w->K' a w:=by
    rintro a w ⟨_,T,m,β,⟨_,rfl⟩,r⟩
    exact hcont a w ⟨m,β,r⟩
   split
   ·rename_i hw;rw[if_pos hw] at hstep;obtain⟨hab,hstep⟩:=hstep;refine⟨hab,?_⟩;generalize (o.semAt K.fc.round a.eval).run K.P w=res at *;cases res with
    |ok n w'=>
     cases n<;>simp only[Oper.uponIn] at hstep ⊢
     ·exact conv _ _ hstep
     ·exact conv _ _ hstep
     ·exact⟨hstep.1,hstep.2.mono fun e w'' he=>by
       cases e with
       |returned v=>exact conv _ _ he
       |panicked ch=>obtain⟨_,T,m,β,⟨h,_⟩,_⟩:=he;simp at h
       |outgrown=>obtain⟨a,w,h,_⟩:=he;simp[q2u] at h⟩
     ·exact⟨hstep.1,hstep.2.mono fun e w'' he=>by
       cases e with
       |returned v=>exact conv _ _ he
       |panicked ch=>obtain⟨_,T,m,β,⟨h,_⟩,_⟩:=he;simp at h
       |outgrown=>obtain⟨a,w,h,_⟩:=he;simp[q2u] at h⟩
     ·exact conv _ _ hstep
     ·exact⟨hstep.1,hstep.2.mono fun v w'' he=>conv _ _ he⟩
    |halt x w'=>
     cases x<;>simp only[Oper.uponIn] at hstep ⊢;obtain⟨_,T,m,β,⟨h,_⟩,_⟩:=hstep;simp at h
   ·rename_i hw;rw[if_neg hw] at hstep;exact⟨hstep.1,conv _ _ hstep.2⟩
  -- all that stands ahead is listed
  have cnt:∀(listed:Array Bool),listed.size=l.length->(∀i,listed.getD i false=Nat.blt i ds.length)->(listed.toList.filter id).length=ds.length:=by
   intro listed hsz h
   have:listed.toList=List.replicate ds.length true++List.replicate (l.length - ds.length) false:=by
    apply au8;intro i;have hi:=h i;simp only[bo8] at hi;by_cases h1:i<ds.length
    ·rw[av9 (by simpa using h1),List.getElem?_replicate,if_pos h1];have hs:i<listed.size:=by omega
     rw[bd8 hs,ca8,show Nat.blt i ds.length=true from cp9 h1] at hi;simp[hs,hi]
    ·rw[av8 (by simpa using h1),List.getElem?_replicate,aj8];by_cases h2:i<l.length
     ·rw[if_pos (by omega)];have hs:i<listed.size:=by omega
      have hb:Nat.blt i ds.length=false:=by
       cases hb:Nat.blt i ds.length;rfl;have:=az8 hb;omega
      rw[bd8 hs,ca8,hb] at hi;simp[hs,hi]
     ·rw[if_neg (by omega)];simp;omega
   rw[this];simp
  have ahead:∀(fuel:Nat) (listed:Array Bool) (a:Act) (w:World),listed.size=l.length->fuel+(listed.toList.filter id).length=l.length->(∀i,i<ds.length->listed.getD i false=true)->(∀i,ds.length<=i->listed.getD i false=false)->
    (∃m β,Rel K m β w a (St' fun i=>listed.getD i false))->wpAnyIn K.fc 0 K.P .any l.toArray (Q.at K) fuel listed a w:=by
   intro fuel listed a w hsz hcount h1 h2 h3
   have hl:∀i,listed.getD i false=Nat.blt i ds.length:=by
    intro i;by_cases hi:i<ds.length
    ·rw[h1 i hi];exact(cp9 hi).symm
    ·rw[h2 i (by omega)];cases hb:Nat.blt i ds.length with
     |false=>rfl
     |true=>have:=az8 hb;omega
   obtain⟨m,β,r⟩:=fin0 listed a w h1 h3;have hf:fuel=l.length - ds.length:=by rw[cnt listed hsz hl] at hcount;omega
   rw[hf];exact hend listed m β w a hsz hl r
  intro fuel
  induction fuel with
  |zero=>
   intro listed a w hsz hcount hcl hr
   have hfull:∀i,i<l.length->listed.getD i false=true:=by
    intro i hi;have h1:(listed.toList.filter id).length=listed.toList.length:=by simp only[bm9];omega
    have h2:=List.length_filter_eq_length_iff.1 h1;have hi':i<listed.size:=by omega
    have:=h2 listed[i] (by simp);simp only[bo8,bd8 hi',ca8];exact this
   exact ahead 0 listed a w hsz hcount (fun i hi=>hfull i (by omega)) hr.1 hr.2
  |succ fuel ih=>
   intro listed a w hsz hcount hcl hr;by_cases hA:∀i,i<ds.length->listed.getD i false=true
   ·exact ahead _ listed a w hsz hcount hA hr.1 hr.2
   refine⟨fun h0=>absurd (fun i hi=>none_ready listed hsz h0 i (by omega)) hA,fun i hi=>?_⟩;have hready_i:=(hready listed i).1 hi
   have hin:i<ds.length:=by
    rcases bu9 i ds.length with h|hge
    ·exact h
    ·exfalso;apply hA;intro j hj;obtain⟨o,ho,hpr⟩:=hready_i.2.2;have hin:=hfirst i hge hready_i.1 j hj
     have hcl':∀(k:Nat) (o':Oper),l[k]? = some o'->(listed.getD k false||Nat.beq k i)=true->∀j,j∈z1r o'->(listed.getD j false||Nat.beq j i)=true:=by
      intro k o' ho' hk j hj;rw[at9] at hk ⊢;rcases hk with hk|hk
      ·exact .inl (hcl k o' ho' hk j hj)
      ·have:=co9 hk;subst this;rw[ho] at ho';cases ho';exact .inl (hpr j hj)
     cases hak:(v8s l [])[i]? with
     |none=>simp[hak] at hin
     |some L=>
      simp[hak] at hin;have h1:=z4l (os:=l) (listed:=fun k=>listed.getD k false||Nat.beq k i) l [] [] rfl rfl hcl' (by simp) i L hak (by simp[ak8]) j hin;simp only[at9] at h1;rcases h1 with h1|h1
      ·exact h1
      ·have:=co9 h1;omega
   refine step listed i a w _ hsz hcl hr.2 hi hin ?_;intro a w hr';have hi2:=(hready listed i).1 hi;have hi':i<listed.size:=by omega
   have hfalse:listed[i]=false:=by
    have:=hi2.2.1;simp only[bo8,bd8 hi',ca8] at this;exact this
   refine ih _ a w (by simp[hsz]) ?_ ?_ ⟨fun j hj=>by
    have hset:(listed.setIfInBounds i true).getD j false=listed.getD j false:=by
     simp only[bo8,bs9];rw[if_neg (by omega)]
    rw[hset];exact hr.1 j hj,hr'⟩
   ·have:((listed.setIfInBounds i true).toList.filter id).length=(listed.toList.filter id).length+1:=by
     rw[Array.toList_setIfInBounds]
     have gen:∀(L:List Bool) (i:Nat) (h:i<L.length),L[i]=false->((L.set i true).filter id).length=(L.filter id).length+1:=by
      intro L
      induction L with
      |nil=>intro i h;simp at h
      |cons b L ihL=>
       intro i h hb;cases i with
       |zero=>simp at hb;subst hb;simp
       |succ i=>
        simp only[List.set_cons_succ,ab9];have:=ihL i (by simpa using h) (by simpa using hb);split<;>simp[this]
     exact gen listed.toList i (by simpa using hi') (by simpa using hfalse)
    omega
   ·intro k o' ho' hk j hj
    have hset:∀j,(listed.setIfInBounds i true).getD j false=if j=i then true else listed.getD j false:=by
     intro j;simp only[bo8,bs9];by_cases hji:i=j
     ·subst hji;simp[hi']
     ·simp[hji,Ne.symm hji]
    rw[hset] at hk ⊢;split
    ·rfl
    ·by_cases hki:k=i
     ·subst hki;obtain⟨_,_,o'',ho'',hpr⟩:=hi2;rw[ho'] at ho'';cases ho'';exact hpr j hj
     ·rw[if_neg hki] at hk;exact hcl k o' ho' hk j hj
 refine key l.length (Array.replicate l.length false) a { w with drawn:=w.drawn+1 } (by simp) (by simp) ?_ ⟨fun i _=>by simp only[bo8,ck8];split<;>rfl,?_⟩
 ·intro i o _ h;simp only[bo8,ck8] at h;split at h<;>simp at h
 ·refine⟨m,β,r0.congr (fun t=>?_) (fun t=>?_) rfl⟩
  ·rw[q1r,q1r];refine q0y _ _ t _ 0 _ fun j u _ _=>?_;simp only[bo8,ck8];split<;>rfl
  ·rw[q3o,q3o];refine q0y _ _ t _ 0 _ fun j u _ _=>?_;simp only[bo8,ck8];split<;>rfl
theorem w1e{os:List Oper}{ds:List OD}(h:j9y os ds=true):v7m os ds=true/\os.length=ds.length:=by
 simp only[j9y,as9,as8,cr8] at h;obtain⟨h1,h2⟩:=h;have h1:=co9 h1;refine⟨?_,h1⟩;simp only[v7m,as9,as8,cr8];refine⟨cp9 (by omega),fun i hi=>⟨?_,fun j hj=>?_⟩⟩
 ·have:=(h2 i hi).1;rw[bb9 hi] at this ⊢;exact this
 ·rw[show Nat.blt i ds.length=true from cp9 (by omega)];exact(h2 i hi).2 j hj
theorem z8e{A:q8d->Prop}{rid:Nat}{l:List Oper}(ds:List OD)(hm:K.P.follows .mixedOrders=true)(hlex:j0r S ds)(hok:j9y l ds=true)(hA:∀p:Nat->Bool,A (runs p 0 (ds.map (·.uh)) S.hp))
  (hst:∀(i:Nat) (o:Oper) (D:OD),l[i]? = some o->ds[i]? = some D->v9m K A S.nx l.toArray o D) (hend:Q .normal (z9b S ds)):AWP K (.region rid l.toArray true) Q S:=
 j9b ds hm hlex (w1e hok).1 hA hst fun listed m β w a hsz hl r=>by
  have hlen:=(w1e hok).2;rw[hlen,Nat.sub_self];refine⟨?_,rfl,_,m,β,hend,r⟩;cases hrd:Region.ready .any l.toArray listed with
  |nil=>rfl
  |cons i is=>
   have hi:i∈Region.ready .any l.toArray listed:=by rw[hrd];simp
   simp only[Region.ready,cc9,cr8,bp8,as9,Bool.not_eq_true'] at hi;have h1:=hl i;have hi':i<listed.size:=by omega
   have h2:=hi.2.1;rw[show Nat.blt i ds.length=true from cp9 (by omega)] at h1;simp only[bo8,bd8 hi',ca8] at h1 h2;rw[h1] at h2;simp at h2
theorem j9g{rid:Nat}{l:List Oper}(ds:List OD)(hm:K.P.follows .mixedOrders=true)(hlex:j0r S ds)(hok:j9y l ds=true)
  (hst:∀(i:Nat) (o:Oper) (D:OD),l[i]? = some o->ds[i]? = some D->w7e K S.nx l.toArray o D) (hend:Q .normal (z9b S ds)):AWP K (.region rid l.toArray true) Q S:=
 z8e (A:=fun _=>True) ds hm hlex hok (fun _=>trivial) (fun i o D h1 h2 S hn _=>hst i o D h1 h2 S hn) hend
end
section
variable{K:Ctx}{Q:q5l}{S S':St}{ops:Array Oper}{rest:List Oper}{op:Op}{ty:TypeId}{pos:String}{after:Array Edge}{g:Option (Nat×Bool)}
variable{m:Mem}{β:q4h}{w:World}{a:Act}
abbrev str(l:B8):Value:=.string ⟨l.toArray⟩
def y6s(op:BinOp)(a b:B8):Option Value:=
 match op with
 | .add=>if a.length+b.length<=9223372036854775807 then some (str (a++b)) else none
 | .eql=>some (.bool (a==b))
 | .neq=>some (.bool (!(a==b)))
 | .lss=>some (.bool (Op.bytesLess a b))
 | .leq=>some (.bool (Op.bytesLess a b||a==b))
 | .gtr=>some (.bool (!(Op.bytesLess a b||a==b)))
 | .geq=>some (.bool (!Op.bytesLess a b))
 |_=>none
theorem w8i{P:Program}{w:World}{op:BinOp}{T:TypeId}{x y:Operand}{a b:B8}{v:Value}(h:y6s op a b=some v):
  (do eqGuard op T x y (str a) (str b);binOp op T (str a) (str b):Sem Value).run P w=.ok v w:=by
 have hg:(eqGuard op T x y (str a) (str b)).run P w=.ok () w:=by
  unfold eqGuard;cases op<;>simp[pure]
 rw[Sem.run_bind,hg,Result.andThen_ok];cases op<;>simp only[y6s,reduceCtorEq,az9] at h
 all_goals simp only[binOp,Op.stringOp,ByteArray.toList_mk]
 case add=>
  split at h
  ·rename_i hl;simp only[az9] at h;subst h;rw[if_neg]
   ·have:(⟨a.toArray⟩:ByteArray)++⟨b.toArray⟩=⟨(a++b).toArray⟩:=by
     apply ByteArray.ext;simp
    rw[this];rfl
   ·have e1:(⟨a.toArray⟩:ByteArray).size=a.length:=by simp[ByteArray.size]
    have e2:(⟨b.toArray⟩:ByteArray).size=b.length:=by simp[ByteArray.size]
    rw[e1,e2];simp only[IntKind.max,IntKind.signed,IntKind.bits];simp;omega
  ·simp at h
 all_goals (subst h;rfl)
theorem z1q{d:Nat}{bop:BinOp}{x y:Operand}{T T':TypeId}{la lb:B8}(v:Value)(hw:q2d ops S ⟨some d,.binOp bop T x y T',ty,pos,after,g⟩ true)
  (hx:evl K S x=.con (str la)) (hy:evl K S y=.con (str lb)) (hv:y6s bop la lb=some v) (hN:Nat.blt d K.N=true)
  (k:q1d K ops rest Q (S.put d (.con v))):q1d K ops (⟨some d,.binOp bop T x y T',ty,pos,after,g⟩::rest) Q S:=
 q8c (.con v) hw hN (fun m β w a r=>⟨v,by
  simp only[execOp,r.con hx,r.con hy];exact q4c (w8i hv),.imm (.con v)⟩) k
theorem w0e{d:Nat}{x:Operand}{T:TypeId}{l:B8}(hT:z7q K.P T=true)
  (hw:q2d ops S ⟨some d,.call ⟨.builtin .len,#[x],#[T]⟩,ty,pos,after,g⟩ true) (hx:evl K S x=.con (str l)) (hN:Nat.blt d K.N=true)
  (kk:q1d K ops rest Q (S.put d (.con (.int .i64 l.length)))):
  q1d K ops (⟨some d,.call ⟨.builtin .len,#[x],#[T]⟩,ty,pos,after,g⟩::rest) Q S:=
 j4y hT hw hx hN (by have:(⟨l.toArray⟩:ByteArray).size=l.length:=(by simp[ByteArray.size]);rw[this];exact kk)
theorem j9c{d:Nat}{x y:Operand}{T:TypeId}{l:B8}{ik:IntKind}{n:Int}(b:UInt8)(hT:z7q K.P T=true)
  (hw:q2d ops S ⟨some d,.index T x y,ty,pos,after,g⟩ true) (hx:evl K S x=.con (str l)) (hy:evl K S y=.con (.int ik n)) (h0:0<=n) (hb:l[n.toNat]? = some b)
  (hN:Nat.blt d K.N=true) (kk:q1d K ops rest Q (S.put d (.con (.int .u8 b.toNat)))):
  q1d K ops (⟨some d,.index T x y,ty,pos,after,g⟩::rest) Q S:=
 q8c _ hw hN (fun m β w a r=>⟨.int .u8 b.toNat,by
  simp only[execOp,r.con hx,r.con hy];refine q4c ?_;simp only[Instr.index,asIntOf,Sem.run_bind,pure,Sem.run,Result.andThen_ok,run_underlying (z1d hT)];rw[if_pos h0]
  have:(⟨l.toArray⟩:ByteArray)[n.toNat]? = some b:=by
   have hl:n.toNat<(⟨l.toArray⟩:ByteArray).size:=by
    have:=(bf9.1 hb).1;simpa[ByteArray.size] using this
   rw[getElem?_pos (⟨l.toArray⟩:ByteArray) n.toNat hl];obtain⟨h1,h2⟩:=bf9.1 hb;rw[<-h2];rfl
  rw[this];rfl,.imm (.con _)⟩) kk
theorem z9k{d:Nat}{x:Operand}{lo hi:Option Operand}{T:TypeId}{l:B8}(a0 b0:Nat)(l':B8)(hT:z7q K.P T=true)
  (hw:q2d ops S ⟨some d,.slice T x lo hi none,ty,pos,after,g⟩ true) (hx:evl K S x=.con (str l))
  (hlo:match lo with|none=>a0=0|some y=>∃ik,evl K S y=.con (.int ik a0)) (hhi:match hi with|none=>b0=l.length|some y=>∃ik,evl K S y=.con (.int ik b0))
  (h1:a0<=b0) (h2:b0<=l.length) (hl:(l.drop a0).take (b0 - a0)=l') (hN:Nat.blt d K.N=true) (kk:q1d K ops rest Q (S.put d (.con (str l')))):
  q1d K ops (⟨some d,.slice T x lo hi none,ty,pos,after,g⟩::rest) Q S:=
 q8c _ hw hN (fun m β w a r=>⟨str l',by
  have hsz:(⟨l.toArray⟩:ByteArray).size=l.length:=by simp[ByteArray.size]
  have hu:=z1d hT
  have hext:(⟨l.toArray⟩:ByteArray).extract a0 b0=⟨l'.toArray⟩:=by
   apply ByteArray.ext;have:=Lib.extract_toList (⟨l.toArray⟩:ByteArray) a0 b0;rw[ByteArray.toList_eq] at this;apply au9;rw[this,<-hl]
  have bnd:∀(n y:Nat) (c:BoundsCode) (ik:IntKind),n<=y->(Instr.sliceBound (.int ik n) y c).run K.P w=.ok n w:=by
   intro n y c ik h;simp only[Instr.sliceBound,asIntOf,Sem.run_bind,pure,Sem.run,Result.andThen_ok];rw[if_pos ⟨by omega,by omega⟩];simp
  simp only[execOp,r.con hx];refine q4c ?_
  have hs:(Instr.slice T (str l) (lo.map a.eval) (hi.map a.eval) none).run K.P w=.ok (str l') w:=by
   simp only[Instr.slice,Sem.run_bind,run_underlying hu,Result.andThen_ok,Option.isSome_none,cp8,if_false,hsz]
   have hb:(Instr.sliceBounds false l.length l.length (lo.map a.eval) (hi.map a.eval) none).run K.P w=.ok (a0,b0,l.length) w:=by
    cases lo with
    |none=>
     simp only at hlo;subst hlo;cases hi with
     |none=>simp only at hhi;subst hhi;simp[Instr.sliceBounds,pure]
     |some y=>
      obtain⟨ik,hy⟩:=hhi;simp only[Instr.sliceBounds,al9,bc8,r.con hy,Sem.run_bind,pure,Sem.run,Result.andThen_ok,bnd b0 _ _ ik h2,cp8,if_false]
    |some z=>
     obtain⟨ik,hz⟩:=hlo;cases hi with
     |none=>simp only at hhi;subst hhi;simp[Instr.sliceBounds,pure,r.con hz,bnd a0 _ _ ik h1]
     |some y=>
      obtain⟨ik',hy⟩:=hhi;simp[Instr.sliceBounds,pure,r.con hz,r.con hy,bnd a0 _ _ ik h1,bnd b0 _ _ ik' h2]
   rw[hb];simp only[Result.andThen_ok,hext];rfl
  simp only[Instr.sliceAt,Sem.run_bind,run_underlying hu,Result.andThen_ok,al9];exact hs,.imm (.con _)⟩) kk
theorem q0x{d k:Nat}{x:Operand}{lo hi:Option Operand}{T:TypeId}{rows:List (List V)}(a0 b0:Nat)(rows':List (List V))(hT:v5c K.P T k=true)
  (hw:q2d ops S ⟨some d,.slice T x lo hi none,ty,pos,after,g⟩ true) (hx:evl K S x=.lst k rows)
  (hlo:match lo with|none=>a0=0|some y=>∃ik,evl K S y=.con (.int ik a0)) (hhi:match hi with|none=>b0=rows.length|some y=>∃ik,evl K S y=.con (.int ik b0))
  (h1:a0<=b0) (h2:b0<=rows.length) (hl:(rows.drop a0).take (b0 - a0)=rows') (hN:Nat.blt d K.N=true) (kk:q1d K ops rest Q (S.put d (.lst k rows'))):
  q1d K ops (⟨some d,.slice T x lo hi none,ty,pos,after,g⟩::rest) Q S:=
 q8c _ hw hN (fun m β w a r=>by
  obtain⟨e,i,hu,hi',hs⟩:=j1m hT;have hk:K.P.cellsOf e=k:=by simp[Program.cellsOf,hi',hs]
  have h:=r.reads x;rw[hx] at h
  have bnd:∀(n y:Nat) (c:BoundsCode) (ik:IntKind),n<=y->(Instr.sliceBound (.int ik n) y c).run K.P w=.ok n w:=by
   intro n y c ik h;simp only[Instr.sliceBound,asIntOf,Sem.run_bind,pure,Sem.run,Result.andThen_ok];rw[if_pos ⟨by omega,by omega⟩];simp
  have hb:∀cap,rows.length<=cap->(Instr.sliceBounds true rows.length cap (lo.map a.eval) (hi.map a.eval) none).run K.P w=.ok (a0,b0,cap) w:=by
   intro cap hcap;cases lo with
   |none=>
    simp only at hlo;subst hlo;cases hi with
    |none=>simp only at hhi;subst hhi;simp[Instr.sliceBounds,pure]
    |some y=>
     obtain⟨ik,hy⟩:=hhi;simp[Instr.sliceBounds,pure,r.con hy,bnd b0 cap _ ik (by omega)]
   |some z=>
    obtain⟨ik,hz⟩:=hlo;cases hi with
    |none=>simp only at hhi;subst hhi;simp[Instr.sliceBounds,pure,r.con hz,bnd a0 _ _ ik h1]
    |some y=>
     obtain⟨ik',hy⟩:=hhi;simp[Instr.sliceBounds,pure,r.con hz,r.con hy,bnd a0 _ _ ik h1,bnd b0 cap _ ik' (by omega)]
  have hrun:∀ad n cap,a.eval x=.slice ad n cap->n=rows.length->rows.length<=cap->
    (execOp a.eval ⟨some d,.slice T x lo hi none,ty,pos,after,g⟩).run K.P w=.ok (.value (.slice (if cap=a0 then ad else ad.map (·.add (a0*k))) (b0 - a0) (cap - a0))) w:=by
   intro ad n cap hv hn hcap;subst hn;simp only[execOp,hv];refine q4c ?_;simp only[Instr.sliceAt,Sem.run_bind,run_underlying hu,Result.andThen_ok,al9,Instr.slice,hb cap hcap,run_sizeOf w hi',hk];rfl
  generalize hv:a.eval x=v at h;cases h with
  |imm h=>
   cases h with
   |nil _ ad cap=>
    have:rows'=[]:=by rw[<-hl];simp
    subst this;simp only[bt8] at h2;have:b0 - a0=0:=by omega
    exact⟨_,hrun ad 0 cap hv rfl (by simp),by rw[this];exact .imm (.nil k _ _)⟩
   | @lst _ _ ad n cap arr T' fr f hm hsp hn hcap hbd hkk hf h=>
    subst hn;refine⟨_,hrun (some ad) _ cap hv rfl hcap,?_⟩;by_cases hc:cap=a0
    ·have h3:b0 - a0=0:=by omega
     have:rows'=[]:=by rw[<-hl,h3];simp
     subst this;rw[h3];exact .imm (.nil k _ _)
    ·rw[if_neg hc]
     have had:(some ad).map (·.add (a0*k))=some ⟨ad.block,ad.off+a0*k,none⟩:=by
      simp only[bc8];rw[z9a hsp,q6o]
     rw[had];have hlen:rows'.length=b0 - a0:=by rw[<-hl];simp;omega
     refine .imm (.lst (fun p=>f (a0*k+p)) hm rfl hlen (by omega) (by omega) (fun row hr=>hkk row (by rw[<-hl] at hr;exact ag9 (List.mem_of_mem_take hr))) ?_ ?_)
     ·intro p hp;simp only;rw[ag8];refine hf _ ?_
      calc a0*k+p<a0*k+rows'.length*k:=by omega
       _=(a0+rows'.length)*k:=by rw[an8]
       _<=rows.length*k:=bh9 _ (by omega)
     ·intro i' j row c hi2 hj;rw[<-hl,bj9] at hi2;split at hi2
      ·rw[aw8] at hi2;have:=h (a0+i') j row c hi2 hj;rw[an8,ag8] at this;exact this
      ·simp at hi2) kk
theorem j8y{d:Nat}{x:Operand}{src dst:TypeId}{k k':IntKind}{n:Int}(hd:K.P.underlying dst=some (.int k))(hs:∃t,K.P.underlying src=some t)
  (hw:q2d ops S ⟨some d,.convert src dst x,ty,pos,after,g⟩ true) (hx:evl K S x=.con (.int k' n)) (hN:Nat.blt d K.N=true)
  (kk:q1d K ops rest Q (S.put d (.con (.int k (k.wrap n))))):q1d K ops (⟨some d,.convert src dst x,ty,pos,after,g⟩::rest) Q S:=
 q8c _ hw hN (fun m β w a r=>⟨.int k (k.wrap n),by
  obtain⟨t,ht⟩:=hs;simp only[execOp,r.con hx];refine q4c ?_;simp only[convert,Sem.run_bind,run_underlying ht,run_underlying hd,Result.andThen_ok,Conv.intToInt];rfl,.imm (.con _)⟩) kk
theorem w0q{d:Nat}{x y:Operand}{T T':TypeId}{k:IntKind}{n n':Int}(hw:q2d ops S ⟨some d,.call ⟨.builtin .min,#[x,y],#[T,T']⟩,ty,pos,after,g⟩ true)
  (hx:evl K S x=.con (.int k n)) (hy:evl K S y=.con (.int k n')) (hN:Nat.blt d K.N=true) (kk:q1d K ops rest Q (S.put d (.con (.int k (if n'<n then n' else n))))):
  q1d K ops (⟨some d,.call ⟨.builtin .min,#[x,y],#[T,T']⟩,ty,pos,after,g⟩::rest) Q S:=
 q8c _ hw hN (fun m β w a r=>⟨_,q3n rfl (by
  simp only[builtin,bn8,bo9,ar8,r.con hx,r.con hy];refine q4c (v:=.int k (if n'<n then n' else n)) ?_;simp[Builtin.min_,Builtin.min2,pure]),.imm (.con _)⟩) kk
theorem w1q{d:Nat}{x y:Operand}{T T':TypeId}{k:IntKind}{n n':Int}(hw:q2d ops S ⟨some d,.call ⟨.builtin .max,#[x,y],#[T,T']⟩,ty,pos,after,g⟩ true)
  (hx:evl K S x=.con (.int k n)) (hy:evl K S y=.con (.int k n')) (hN:Nat.blt d K.N=true) (kk:q1d K ops rest Q (S.put d (.con (.int k (if n'>n then n' else n))))):
  q1d K ops (⟨some d,.call ⟨.builtin .max,#[x,y],#[T,T']⟩,ty,pos,after,g⟩::rest) Q S:=
 q8c _ hw hN (fun m β w a r=>⟨_,q3n rfl (by
  simp only[builtin,bn8,bo9,ar8,r.con hx,r.con hy];refine q4c (v:=.int k (if n'>n then n' else n)) ?_;simp[Builtin.max_,Builtin.max2,pure]),.imm (.con _)⟩) kk
theorem v7g{d f off:Nat}{x:Operand}{T:TypeId}{cs:List V}(c:V)(hF:tyF K.P T f off=true)(hC:∃fs fl,K.P.underlying T=some (.struct fs)/\fs[f]? = some fl/\tyC K.P fl.type=true)
  (hw:q2d ops S ⟨some d,.field T x f,ty,pos,after,g⟩ true) (hx:evl K S x=.agg cs) (hc:cs[off]? = some c) (hN:Nat.blt d K.N=true)
  (kk:q1d K ops rest Q (S.put d c)):q1d K ops (⟨some d,.field T x f,ty,pos,after,g⟩::rest) Q S:=
 q8c _ hw hN (fun m β w a r=>by
  have h:=r.reads x;rw[hx] at h;obtain⟨fs,fl,hu,hf,hcell⟩:=hC
  have hoff:fl.offset=off:=by
   unfold tyF at hF;rw[hu] at hF;simp only[hf,as9,beq_iff_eq] at hF;exact hF.1
  have key:∃vs:Array Value,a.eval x=.agg vs/\∃v,vs[off]? = some v/\q8i m β c v:=by
   generalize a.eval x=u at h
   have get:∀vs:Array Value,cs.length=vs.size->∃v,vs[off]? = some v:=by
    intro vs hl;have:off<vs.size:=by rw[<-hl];exact(bf9.1 hc).1
    exact⟨vs[off],by simp[this]⟩
   cases h with
   |imm h=>cases h with
    |agg hl hh=>obtain⟨v,hv⟩:=get _ hl;exact⟨_,rfl,v,hv,.imm (hh _ _ _ hc hv)⟩
   |agg hl hh=>obtain⟨v,hv⟩:=get _ hl;exact⟨_,rfl,v,hv,hh _ _ _ hc hv⟩
  obtain⟨vs,e1,v,e2,e3⟩:=key;refine⟨v,?_,e3⟩;simp only[execOp,e1];refine q4c ?_;simp only[Instr.field,Sem.run_bind,run_underlying hu,Result.andThen_ok,hf,asAgg,pure,Sem.run,part,(z9q hcell w).1,cp8,if_false,hoff,e2]) kk
end
section
variable{K:Ctx}{Q:q5l}{S S':St}{ops:Array Oper}{rest:List Oper}{op:Op}{ty:TypeId}{pos:String}{after:Array Edge}{g:Option (Nat×Bool)}
variable{m:Mem}{β:q4h}{w:World}{a:Act}
abbrev iV(n:Int):V:=.con (.int .i64 n)
abbrev bV(b:Bool):V:=.con (.bool b)
abbrev sV(l:B8):V:=.con (str l)
abbrev nV:V:=.con (.slice none 0 0)
abbrev w64(n:Int):Int:=IntKind.wrap .i64 n
theorem v1r{c:Operand}{x y:Code}{b:Bool}(hc:evl K S c=.con (.bool b))(hb:b=true)(h:AWP K x Q S):AWP K (.cond c x y) Q S:=
 z8y b hc (fun _=>h) (fun hf=>by rw[hb] at hf;simp at hf)
theorem v2r{c:Operand}{x y:Code}{b:Bool}(hc:evl K S c=.con (.bool b))(hb:b=false)(h:AWP K y Q S):AWP K (.cond c x y) Q S:=
 z8y b hc (fun hf=>by rw[hb] at hf;simp at hf) (fun _=>h)
def jn{α β:Type}(k:α)(b:α->β):β:=b k
theorem w7o{α:Type}{p:Prop}[Decidable p]{x:Option α}{r:α}(h:(if p then x else none)=some r):p/\x=some r:=by
 split at h
 ·exact⟨‹_›,h⟩
 ·simp at h
theorem bind_some{α β:Type}{o:Option α}{f:α->Option β}{r:β}(h:o.bind f=some r):∃x,o=some x/\f x=some r:=Option.bind_eq_some_iff.1 h
def idx{α:Type}(xs:List α)(n:Int):Option α:=if 0<=n then xs[n.toNat]? else none
theorem z1h{α:Type}{xs:List α}{n:Int}{x:α}(h:idx xs n=some x):0<=n/\xs[n.toNat]? = some x:=by
 unfold idx at h;split at h
 ·exact⟨‹_›,h⟩
 ·simp at h
theorem z8r{α β:Type}{xs:List α}{n:Int}{x:α}(f:α->β)(h:idx xs n=some x):(xs.map f)[n.toNat]? = some (f x):=by
 rw[bb8,(z1h h).2];rfl
theorem y0q{α:Type}{xs:List α}{n:Int}{x:α}(h:idx xs n=some x):n.toNat<xs.length:=(bf9.1 (z1h h).2).1
theorem q9a{α:Type}{enc:α->List V}(h:∀x,q1o (enc x)){xs:List α}:∀row,row∈xs.map enc->q1o row:=by
 intro row hr;obtain⟨x,_,rfl⟩:=bg9.1 hr;exact h x
theorem q4l{α:Type}{enc:α->List V}(h:∀x,(enc x).all q4x=true){xs:List α}:∀row,row∈xs.map enc->row.all q4x=true:=by
 intro row hr;obtain⟨x,_,rfl⟩:=bg9.1 hr;exact h x
theorem q0n{α β:Type}(f:α->β)(xs ys:List α):xs.map f++ys.map f=(xs++ys).map f:=cs8.symm
theorem map_set{α β:Type}(f:α->β)(xs:List α)(i:Nat)(x:α):(xs.map f).set i (f x)=(xs.set i x).map f:=List.map_set.symm
theorem q5a.boxC{Y:Hy}{e k:Nat}{r r':List V}(hl:r.length=r'.length)(h:∀(j:Nat) c c',r[j]? = some c->r'[j]? = some c'->j1f Y c c'):q5a Y (.arr e k [r]) (.arr e k [r']):=by
 refine⟨rfl,rfl,rfl,fun i a b h1 h2=>?_⟩;cases i with
 |succ i=>simp at h1
 |zero=>
  simp at h1 h2;subst h1;subst h2;exact⟨hl,h⟩
theorem q5a.box{Y:Hy}{e k:Nat}{r r':List V}(h:j8d Y r r')(hd:ndB r'=true:=by rfl):q5a Y (.arr e k [r]) (.arr e k [r']):=
 .boxC h.len (fun j c c' h1 h2=>.sub (h.get j c c' h1 h2) (z9n hd h2))
theorem q5a.rowsK{n:Nat}{σ:Nat->Nat}{e k:Nat}{rows:List (List V)}(h:∀row,row∈rows->z3m row):q5a (Ren n σ) (.arr e k rows) (.arr e k rows):=by
 refine⟨rfl,rfl,rfl,fun i a b h1 h2=>?_⟩;rw[h1] at h2;simp only[az9] at h2;subst h2;refine⟨rfl,fun j c c' h3 h4=>?_⟩;rw[h3] at h4;simp only[az9] at h4;subst h4;exact .same j2r.h (Sub.kp (h a (ba9 h1) c (ba9 h3)))
theorem q5a.rows{n:Nat}{σ:Nat->Nat}{e k:Nat}{rows:List (List V)}(h:∀row,row∈rows->q1o row):q5a (Ren n σ) (.arr e k rows) (.arr e k rows):=.rowsK fun row hr=>(h row hr).keep
theorem q5a.mapsK{n:Nat}{σ:Nat->Nat}{es:List (Value×V)}(h:∀p,p∈es->q5x p.2):q5a (Ren n σ) (.map es) (.map es):=by
 refine⟨rfl,fun i a b h1 h2=>?_⟩;rw[h1] at h2;simp only[az9] at h2;subst h2;exact⟨rfl,.same j2r.h (Sub.kp (h a (ba9 h1)))⟩
theorem q5a.maps{n:Nat}{σ:Nat->Nat}{es:List (Value×V)}(h:∀p,p∈es->Imm p.2):q5a (Ren n σ) (.map es) (.map es):=.mapsK fun p hp=>(h p hp).2
theorem q5a.keep{Y:Hy}[j2r Y](hk:∀v,Sub Y v v)(ob:Ob):q5a Y ob ob:=.keep' j2r.h (fun c=>.same j2r.h (hk c)) ob
inductive j9d(K:Ctx)(nx:Nat)(ops:Array Oper):List Oper->List OD->Prop
 |nil:j9d K nx ops [] []
 |cons {o:Oper} {D:OD} {os:List Oper} {ds:List OD} (h:w7e K nx ops o D) (t:j9d K nx ops os ds):j9d K nx ops (o::os) (D::ds)
theorem j9d.get{nx:Nat}{ops:Array Oper}{os:List Oper}{ds:List OD}(h:j9d K nx ops os ds):∀(i:Nat) (o:Oper) (D:OD),os[i]? = some o->ds[i]? = some D->w7e K nx ops o D:=by
 induction h with
 |nil=>intro i o D h;simp at h
 |cons h _ ih=>
  intro i o D h1 h2;cases i with
  |zero=>simp at h1 h2;subst h1;subst h2;exact h
  |succ i=>simp at h1 h2;exact ih i o D h1 h2
theorem y1e{rid:Nat}{l:List Oper}(ds:List OD)(hm:K.P.follows .mixedOrders=true)(hlex:j0r S ds)(hok:j9y l ds=true)
  (hst:j9d K S.nx l.toArray l ds) (hend:Q .normal (z9b S ds)):AWP K (.region rid l.toArray true) Q S:=j9g ds hm hlex hok hst.get hend
theorem hpFrz{id k:Nat}{rows:List (List V)}{hp:q8d}(ob:Ob)(id2:Nat)(ho:q5a (Frz id k rows) ob (q7b hp id2)):
  ∀i,q5a (Frz id k rows) (q7b ((id,.dead)::(id2,ob)::hp) i) (q7b hp i):=by
 intro i;rw[q0b];split
 ·simp[q5a]
 ·rw[q0b];split
  ·rename_i h;subst h;exact ho
  ·exact q5a.keep (fun _=>Sub.keep) _
theorem v6k{id k:Nat}{rows:List (List V)}{hp:q8d}:∀i,q5a (Frz id k rows) (q7b ((id,.dead)::hp) i) (q7b hp i):=by
 intro i;rw[q0b];split
 ·simp[q5a]
 ·exact q5a.keep (fun _=>Sub.keep) _
theorem Sub.frzAll{id k n:Nat}{rows:List (List V)}(hn:n=rows.length):Sub (Frz id k rows) (.lst k rows) (.own id n):=Sub.frz (Nat.le_of_eq hn) (by rw[hn];simp)
theorem j3k(id t:Nat){e k n:Nat}{rows:List (List V)}(ho:q7b S.hp id=.arr e k rows)(hi:∀row,row∈rows->q1o row)
  (ht:get S.env t=.own id n) (hn:n=rows.length):q4e K S ⟨(t,.lst k rows)::S.env,(id,.dead)::S.hp,S.nx⟩:=
 q6r id _ _ ho hi (j4k (fun _=>Sub.keep) (by rw[ht];exact Sub.frzAll hn)) v6k (by simp[q0b])
theorem q1k(id id2:Nat){e k:Nat}{rows:List (List V)}(ob:Ob)(ho:q7b S.hp id=.arr e k rows)(hi:∀row,row∈rows->q1o row)
  (hob:q5a (Frz id k rows) ob (q7b S.hp id2)):q4e K S ⟨S.env,(id,.dead)::(id2,ob)::S.hp,S.nx⟩:=
 q6r id _ _ ho hi (fun _=>Sub.keep) (hpFrz ob id2 hob) (by simp[q0b])
theorem z4h(id t:Nat){e k i o:Nat}{rows:List (List V)}{row:List V}(ho:q7b S.hp id=.arr e k rows)(hi:∀row,row∈rows->q1o row)
  (ht:get S.env t=.ptr id k i o) (hr:rows[i]? = some row):q4e K S ⟨(t,.iptr row o)::S.env,(id,.dead)::S.hp,S.nx⟩:=
 q6r id _ _ ho hi (j4k (fun _=>Sub.keep) (by rw[ht];exact Sub.frzptr hr)) v6k (by simp[q0b])
theorem q3q(t e k:Nat)(ht:get S.env t=nV):q4e K S ⟨(t,.own S.nx 0)::S.env,(S.nx,.arr e k [])::S.hp,S.nx+1⟩:=
 j0x e k _ _ (j4k (fun _=>Sub.keepNil) (by rw[ht];exact Sub.mkNil)) (fun _=>q5a.keep (fun _=>Sub.keepNil) _)
theorem q8n(id2 e k:Nat)(ob:Ob)(hob:q5a (Nil S.nx) ob (q7b S.hp id2)):q4e K S ⟨S.env,(S.nx,.arr e k [])::(id2,ob)::S.hp,S.nx+1⟩:=
 j0x e k _ _ (fun _=>Sub.keepNil) (fun i=>by
  rw[q0b];split
  ·rename_i h;subst h;exact hob
  ·exact q5a.keep (fun _=>Sub.keepNil) _)
end
section
variable{K:Ctx}{Q:q5l}{S S':St}{ops:Array Oper}{rest:List Oper}{op:Op}{ty:TypeId}{pos:String}{after:Array Edge}{g:Option (Nat×Bool)}
variable{m:Mem}{β:q4h}{w:World}{a:Act}
theorem q5g:([]:List Operand).map (evl K S)=[]:=rfl
theorem q9b{x:Operand}{v:V}{xs:List Operand}{vs:List V}(h:evl K S x=v)(t:xs.map (evl K S)=vs):(x::xs).map (evl K S)=v::vs:=by rw[bo9,h,t]
theorem q3f:([]:List (Nat×Operand)).map (fun p=>(p.1,evl K S p.2))=[]:=rfl
theorem q8b{i:Nat}{x:Operand}{v:V}{xs:List (Nat×Operand)}{vs:List (Nat×V)}(h:evl K S x=v)(t:xs.map (fun p=>(p.1,evl K S p.2))=vs):
  ((i,x)::xs).map (fun p=>(p.1,evl K S p.2))=(i,v)::vs:=by rw[bo9,h,t]
theorem evmc{first captured vs:List V}{xs:List Operand}(h:xs.map (evl K S)=vs):first++xs.map (evl K S)++captured=first++vs++captured:=by rw[h]
inductive j1r:List (List V)->Prop
 |nil:j1r []
 |cons {r:List V} {rs:List (List V)} (h:q1o r) (t:j1r rs):j1r (r::rs)
theorem q3i{rows:List (List V)}(h:j1r rows):∀row,row∈rows->q1o row:=by
 induction h with
 |nil=>intro row h;simp at h
 |cons h _ ih=>
  intro row hr;rcases at8.1 hr with rfl|hr
  ·exact h
  ·exact ih row hr
def q0m{α β:Type}[DecidableEq α]:List (α×β)->α->β->List (α×β)
 |[],k,v=>[(k,v)]
 |p::r,k,v=>if p.1=k then (k,v)::r else p::q0m r k v
def q7f{α β:Type}[DecidableEq α]:List (α×β)->α->Option β
 |[],_=>none
 |p::r,k=>if p.1=k then some p.2 else q7f r k
theorem j9m{α β:Type}[DecidableEq α]{kv:α->Value}{ev:β->V}(hinj:∀a b,kv a=kv b->a=b)(xs:List (α×β))(k:α)(v:β):
  j8h (kv k) (ev v) (xs.map fun p=>(kv p.1,ev p.2)) ((q0m xs k v).map fun p=>(kv p.1,ev p.2)):=by
 induction xs with
 |nil=>exact .nil
 |cons p r ih=>
  simp only[bo9,q0m];split
  ·rename_i h;subst h;exact .here
  ·rename_i h;exact .there (fun e=>h (hinj _ _ e)) ih
theorem z1o{α β:Type}[DecidableEq α]{kv:α->Value}{ev:β->V}(hinj:∀a b,kv a=kv b->a=b)(xs:List (α×β))(k:α):
  j0f (kv k) (xs.map fun p=>(kv p.1,ev p.2)) ((q7f xs k).map ev):=by
 induction xs with
 |nil=>exact .nil
 |cons p r ih=>
  simp only[bo9,q7f];split
  ·rename_i h;subst h;exact .here
  ·rename_i h;exact .there (fun e=>h (hinj _ _ e)) ih
theorem q7t{β:Type}(ev:β->V)(o:Option β)(z:β):(o.map ev).getD (ev z)=ev (o.getD z):=by cases o<;>rfl
theorem y8b{k:IntKind}:∀a b:Int,(Value.int k a)=.int k b->a=b:=by intro a b h;cases h;rfl
theorem q2p:∀a b:B8,str a=str b->a=b:=by
 intro a b h;simp only[str,Value.string.injEq,ByteArray.mk.injEq] at h
 simpa using congrArg Array.toList h
theorem w0j(r:Rel K m β w a S)(id:Nat){es:List (Value×V)}(ho:q7b S.hp id=.map es)(hi:∀p,p∈es->Imm p.2):
  ∃m',(∀(b:Nat) o,m' b=some o->w.heap[b]? = some o)/\m.le m'/\(∀x,q8i m β (.map id) x->q1l m' (.imap es) x)/\(∀b,b<K.w0.heap.size->K.old b->m' b=K.m0 b)/\
   ∀b,m' b=m b\/∃cap,β id=some (some (b,cap)):=by
 have hown:=r.own id;rw[ho] at hown;cases hb:β id with
 |none=>rw[hb] at hown;simp[q9h] at hown
 |some l=>
 cases l with
 |none=>rw[hb] at hown;simp[q9h] at hown
 |some p=>
 obtain⟨b,cap⟩:=p;rw[hb] at hown;obtain⟨ents,clock,bl,h1,h2,hBl,h3⟩:=hown;have hp':=r.priv id b cap (by rw[ho];simp) hb;obtain⟨E,hE,hvE,hwf⟩:=h1
 let m':Mem:=fun b'=>if b'=b then some (.map E clock) else m b'
 have hle:m.le m':=by
  intro b' o h;have:b'≠b:=by intro e';subst e';rw[hp'.1] at h;simp at h
  simp[m',this,h]
 refine⟨m',?_,hle,?_,?_,?_⟩
 ·intro b' o h;by_cases hbb:b'=b
  ·subst hbb;simp[m'] at h;rw[hE,h]
  ·simp[m',hbb] at h;exact r.imm _ _ h
 ·intro x hx;cases hx with
  |imm h=>cases h
  | @map _ b2 cap2 h=>
   rw[hb] at h;simp only[az9,Prod.mk.injEq] at h;obtain⟨rfl,rfl⟩:=h;refine .imap (ents:=ents) (clock:=clock) ⟨E,by simp[m'],hvE,hwf⟩ h2 (fun i p e a1 a2=>(h3 i p e a1 a2).1) fun i p e a1 a2=>?_;have hii:=hi p (ba9 a1);exact(hii.2 m β e.val ((h3 i p e a1 a2).2.v hii.1)).mono hle
 ·intro b' hb' hold;by_cases hbb:b'=b
  ·subst hbb;exact absurd hold (hp'.2 hb')
  ·simp[m',hbb];exact r.mold b' hb' hold
 ·intro b';by_cases hbb:b'=b
  ·exact .inr ⟨cap,by rw[hbb]⟩
  ·exact .inl (by simp[m',hbb])
def v2s(id:Nat)(es:List (Value×V)):Hy:=fun m β m' β'=>m.le m'/\β'=β/\∀x,q8i m β (.map id) x->q1l m' (.imap es) x
instance {id:Nat} {es:List (Value×V)}:j2r (v2s id es):=⟨fun _ _ _ _ hy=>hy.1⟩
theorem Sub.keepM{id:Nat}{es:List (Value×V)}{v:V}:Sub (v2s id es) v v:=fun _ _ _ _ _ hy hx=>by
 obtain⟨h1,rfl,_⟩:=hy;exact hx.mono h1 (q4h.le_refl _)
theorem Sub.frzM{id:Nat}{es:List (Value×V)}:Sub (v2s id es) (.imap es) (.map id):=fun _ _ _ _ _ hy hx=>.imm (hy.2.2 _ hx)
theorem z6o(id:Nat){es:List (Value×V)}(env:Env)(hp:q8d)(ho:q7b S.hp id=.map es)(hi:∀p,p∈es->Imm p.2)
  (henv:∀t,Sub (v2s id es) (get env t) (get S.env t)) (hhp:∀i,q5a (v2s id es) (q7b hp i) (q7b S.hp i)) (hd:q7b hp id=.dead):q4e K S ⟨env,hp,S.nx⟩:=by
 intro m β w a r;obtain⟨m',k1,hle,hfr,hmold,k2⟩:=w0j r id ho hi;have hy:v2s id es m β m' β:=⟨hle,rfl,hfr⟩
 have hlive:∀i,q7b hp i≠.dead->q7b S.hp i≠.dead/\i≠id:=by
  intro i h;have h2:=hhp i;refine⟨fun hdd=>?_,fun he=>h (by rw[he];exact hd)⟩;rw[hdd] at h2;cases ho':q7b hp i with
  |dead=>exact h ho'
  |arr=>rw[ho'] at h2;simp[q5a] at h2
  |res=>rw[ho'] at h2;simp[q5a] at h2
  |map=>rw[ho'] at h2;simp[q5a] at h2
  |iter=>rw[ho'] at h2;simp[q5a] at h2
  |bld=>rw[ho'] at h2;simp[q5a] at h2
 refine⟨m',β,k1,Mem.le_trans r.ext hle,hmold,r.frame,r.size,r.same,r.tn,r.df.mono hle,fun t=>henv t _ _ _ _ _ hy (r.env t),fun i=>(hhp i).ok hy (r.own i),fun i b cap hl hb'=>?_,
  fun i i' b cap cap' hl hl'=>r.inj i i' b cap cap' (hlive i hl).1 (hlive i' hl').1,fun i x hl hx=>?_,r.nx,r.pin⟩
 rotate_left
 ·have q:=(r.hid i x (hlive i hl).1 hx).weak (fun i h=>(hlive i h).1);refine⟨q.lt,?_,q.old,q.ne,q.un⟩;rcases k2 x with h|⟨cap',h⟩
  ·rw[h];exact q.m
  ·exact absurd rfl ((r.hid i x (hlive i hl).1 hx).ne id x cap' (by rw[ho];simp) h)
 obtain⟨h1,h2⟩:=hlive i hl;have hp':=r.priv i b cap h1 hb';refine⟨?_,hp'.2⟩;rcases k2 b with h|⟨cap',h⟩
 ·rw[h];exact hp'.1
 ·exact absurd (r.inj i id b cap cap' h1 (by rw[ho];simp) hb' h) h2
theorem z4k(id id2:Nat){es:List (Value×V)}(ob:Ob)(ho:q7b S.hp id=.map es)(hi:∀p,p∈es->Imm p.2)(hob:q5a (v2s id es) ob (q7b S.hp id2)):
  q4e K S ⟨S.env,(id,.dead)::(id2,ob)::S.hp,S.nx⟩:=
 z6o id _ _ ho hi (fun _=>Sub.keepM) (fun i=>by
  rw[q0b];split
  ·trivial
  ·rw[q0b];split
   ·rename_i h;subst h;exact hob
   ·exact q5a.keep (fun _=>Sub.keepM) _) (by simp[q0b])
theorem q8o(id t:Nat){e k:Nat}{rows:List (List V)}(v:V)(ho:q7b S.hp id=.arr e k rows)(hi:∀row,row∈rows->q1o row)
  {v0:V} (ht:get S.env t=v0) (hv:Sub (Frz id k rows) v v0):q4e K S ⟨(t,v)::S.env,(id,.dead)::S.hp,S.nx⟩:=
 q6r id _ _ ho hi (j4k (fun _=>Sub.keep) (by rw[ht];exact hv)) v6k (by simp[q0b])
theorem Sub.fnc{Y:Hy}{f:Fn}{cs cs':List V}(h:j8d Y cs cs'):Sub Y (.fn f [] cs) (.fn f [] cs'):=fun m β m' β' x hy hx=>by
 have key:∀us:Array Value,cs'.length=us.size->(∀(i:Nat) (c:V) (v:Value),cs'[i]? = some c->us[i]? = some v->q8i m β c v)->
   ∀(i:Nat) (c:V) (v:Value),cs[i]? = some c->us[i]? = some v->q8i m' β' c v:=by
  intro us hl hh i c v h1 h2;have h3:i<cs'.length:=by rw[<-h.len];exact(bf9.1 h1).1
  exact h.get i c _ h1 (bb9 h3) _ _ _ _ _ hy (hh i _ v (bb9 h3) h2)
 cases hx with
 |imm hx=>cases hx with
  |fn h1 h2 h3 h4=>exact .fn h1 (by rw[h.len];exact h2) (fun i c v q=>by simp at q) (key _ h2 fun i c v q1 q2=>.imm (h4 i c v q1 q2))
 |fn h1 h2 h3 h4=>exact .fn h1 (by rw[h.len];exact h2) (fun i c v q=>by simp at q) (key _ h2 h4)
def Idn:Hy:=fun m β m' β'=>m'=m/\β'=β
instance:j2r Idn:=⟨fun m β m' β' hy=>by rw[hy.1];exact Mem.le_refl _⟩
theorem Sub.keepI{v:V}:Sub Idn v v:=fun _ _ _ _ _ hy hx=>by obtain⟨rfl,rfl⟩:=hy;exact hx
theorem j8a(env:Env)(hp:q8d)(henv:∀t,Sub Idn (get env t) (get S.env t))(hhp:∀i,q5a Idn (q7b hp i) (q7b S.hp i)):q4e K S ⟨env,hp,S.nx⟩:=by
 intro m β w a r;have hy:Idn m β m β:=⟨rfl,rfl⟩
 have hlive:∀i,q7b hp i≠.dead->q7b S.hp i≠.dead:=by
  intro i h hdd;have h2:=hhp i;rw[hdd] at h2;cases ho':q7b hp i with
  |dead=>exact h ho'
  |arr=>rw[ho'] at h2;simp[q5a] at h2
  |res=>rw[ho'] at h2;simp[q5a] at h2
  |map=>rw[ho'] at h2;simp[q5a] at h2
  |iter=>rw[ho'] at h2;simp[q5a] at h2
  |bld=>rw[ho'] at h2;simp[q5a] at h2
 exact⟨m,β,r.imm,r.ext,r.mold,r.frame,r.size,r.same,r.tn,r.df,fun t=>henv t _ _ _ _ _ hy (r.env t),fun i=>(hhp i).ok hy (r.own i),fun i b c h=>r.priv i b c (hlive i h),
  fun i i' b c c' h h'=>r.inj i i' b c c' (hlive i h) (hlive i' h'),fun i x h hx=>(r.hid i x (hlive i h) hx).weak hlive,r.nx,r.pin⟩
theorem q5y(t:Nat)(v:V){v0:V}(ht:get S.env t=v0)(hv:Sub Idn v v0):q4e K S ⟨(t,v)::S.env,S.hp,S.nx⟩:=
 j8a _ _ (j4k (fun _=>Sub.keepI) (by rw[ht];exact hv)) fun _=>q5a.keep (fun _=>Sub.keepI) _
theorem v0f(id:Nat)(ob:Ob){ob0:Ob}(ho:q7b S.hp id=ob0)(hv:q5a Idn ob ob0):q4e K S ⟨S.env,(id,ob)::S.hp,S.nx⟩:=
 j8a _ _ (fun _=>Sub.keepI) fun i=>by
  rw[q0b];split
  ·rename_i h;subst h;rw[ho];exact hv
  ·exact q5a.keep (fun _=>Sub.keepI) _
def upd{α:Type}(f:Nat->α)(j:Nat)(x:α):Nat->α:=fun i=>if i=j then x else f i
def v2g{α:Type}(d:α)(l:List α):Nat->α:=fun i=>l.getD i d
theorem y2e{n j o:Nat}(pre post:List V)(g:Nat->V)(h:j<n){row:List V}(hrow:row=pre++(List.range n).map g++post)(ho:o=pre.length+j*1):row[o]? = some (g j):=by
 subst hrow;subst ho;rw[ce9,av8 (by omega),av9 (by simp;omega)];simp[bc9 h]
theorem z2s{d id k i o:Nat}{x:Operand}(hw:q2d ops S ⟨some d,.nilCheck x,ty,pos,after,g⟩ true)(hx:evl K S x=.ptr id k i o)(hN:Nat.blt d K.N=true)
  (kk:q1d K ops rest Q (S.put d (.ptr id k i o))):q1d K ops (⟨some d,.nilCheck x,ty,pos,after,g⟩::rest) Q S:=
 q8c _ hw hN (fun m β w a r=>by
  have h:=r.reads x;rw[hx] at h;obtain⟨b,cap,hb,hv⟩:=h.ptr_inv;exact⟨a.eval x,by simp only[execOp,hv];rfl,h⟩) kk
theorem z6p{d o:Nat}{row:List V}{x:Operand}(hw:q2d ops S ⟨some d,.nilCheck x,ty,pos,after,g⟩ true)(hx:evl K S x=.iptr row o)(hN:Nat.blt d K.N=true)
  (kk:q1d K ops rest Q (S.put d (.iptr row o))):q1d K ops (⟨some d,.nilCheck x,ty,pos,after,g⟩::rest) Q S:=
 q8c _ hw hN (fun m β w a r=>by
  have h:=r.reads x;rw[hx] at h;obtain⟨ad,arr,T',fr,f,base,hv,_⟩:=h.iptr_inv;exact⟨a.eval x,by simp only[execOp,hv];rfl,h⟩) kk
end
end Go.Pv
