/- Part of the proof: O, P, R. -/
import Derived.Test.YtelmfadihfcgnaaGreatDoorDPvM
import Derived.Orders
import Derived.OrdersIn
import Derived.Laws.StructEq
import Derived.Laws.Strings
import Derived.Lib.Strings
namespace Go.Pv
open Go
set_option linter.unusedVariables false
def aget{α:Type}(d:α):List (Nat×α)->Nat->α
 |[],_=>d
 |(k,v)::e,t=>if k=t then v else aget d e t
theorem get_aget(e:Env)(t:Nat):get e t=aget .any e t:=by
 induction e with
 |nil=>rfl
 |cons p e ih=>obtain⟨k,v⟩:=p;rw[get_put,aget,ih]
theorem hget_aget(e:Heap)(t:Nat):hget e t=aget .dead e t:=by
 induction e with
 |nil=>rfl
 |cons p e ih=>obtain⟨k,v⟩:=p;rw[hget_put,aget,ih]
def says{α:Type}(t:Nat)(l:List (Nat×α)):Bool:=l.any fun p=>Nat.beq p.1 t
theorem aget_append{α:Type}(d:α)(l e:List (Nat×α))(t:Nat):aget d (l++e) t=if says t l=true then aget d l t else aget d e t:=by
 induction l with
 |nil=>simp[says]
 |cons p l ih=>
  obtain⟨k,v⟩:=p
  simp only[List.cons_append,aget]
  by_cases h:k=t
  ·subst h;simp[says]
  ·have hk:Nat.beq k t=false:=by cases hb:Nat.beq k t;rfl;exact absurd (Nat.eq_of_beq_eq_true hb) h
   have hs:says t ((k,v)::l)=says t l:=by simp[says,hk]
   rw[if_neg h,if_neg h,ih,hs]
theorem aget_says{α:Type}(d:α)(l e:List (Nat×α))(t:Nat)(h:says t l=true):aget d (l++e) t=aget d l t:=by rw[aget_append,if_pos h]
def runs{α:Type}(p:Nat->Bool):Nat->List (List (Nat×α))->List (Nat×α)->List (Nat×α)
 |_,[],e=>e
 |i,u::us,e=>runs p (i+1) us (if p i then u++e else e)
theorem runs_base{α:Type}(d:α)(p:Nat->Bool)(t:Nat):∀(us:List (List (Nat×α))) (i:Nat) (e:List (Nat×α)),
  (∀j u,us[j]? = some u->says t u=true->p (i+j)=false)->aget d (runs p i us e) t=aget d e t
 |[],_,_,_=>rfl
 |u::us,i,e,h=>by
  rw[runs,runs_base d p t us (i+1) _ (fun j u' hu hs=>by have:=h (j+1) u' (by simpa using hu) hs;rw[<-this];congr 1;omega)]
  split
  ·rename_i hp
   rw[aget_append,if_neg]
   intro hs
   have:=h 0 u rfl hs
   simp[hp] at this
  ·rfl
theorem runs_congr{α:Type}(d:α)(p q:Nat->Bool)(t:Nat):∀(us:List (List (Nat×α))) (i:Nat) (e e':List (Nat×α)),aget d e t=aget d e' t->
  (∀j u,us[j]? = some u->says t u=true->p (i+j)=q (i+j))->aget d (runs p i us e) t=aget d (runs q i us e') t
 |[],_,_,_,he,_=>he
 |u::us,i,e,e',he,h=>by
  rw[runs,runs]
  refine runs_congr d p q t us (i+1) _ _ ?_ (fun j u' hu hs=>by have:=h (j+1) u' (by simpa using hu) hs;have e1:i+1+j=i+(j+1):=(by omega);rw[e1];exact this)
  by_cases hs:says t u=true
  ·have:=h 0 u rfl hs
   simp only[Nat.add_zero] at this
   rw[this]
   split
   ·rw[aget_says _ _ _ _ hs,aget_says _ _ _ _ hs]
   ·exact he
  ·have:∀e,aget d (if p i then u++e else e) t=aget d e t:=by
    intro e
    split
    ·rw[aget_append,if_neg hs]
    ·rfl
   rw[this]
   have:∀e,aget d (if q i then u++e else e) t=aget d e t:=by
    intro e
    split
    ·rw[aget_append,if_neg hs]
    ·rfl
   rw[this]
   exact he
theorem runs_last{α:Type}(d:α)(p:Nat->Bool)(t:Nat):∀(us:List (List (Nat×α))) (i:Nat) (e:List (Nat×α)) (j:Nat) (u:List (Nat×α)),us[j]? = some u->says t u=true->p (i+j)=true->
  (∀j' u',j<j'->us[j']? = some u'->says t u'=true->p (i+j')=false)->aget d (runs p i us e) t=aget d u t
 |[],_,_,_,_,h,_,_,_=>by simp at h
 |u0::us,i,e,0,u,hu,hs,hp,hl=>by
  simp at hu;subst hu
  simp only[Nat.add_zero] at hp
  rw[runs,if_pos hp,runs_base d p t us (i+1) _ (fun j u' hu' hs'=>by have:=hl (j+1) u' (by omega) (by simpa using hu') hs';rw[<-this];congr 1;omega),aget_says _ _ _ _ hs]
 |u0::us,i,e,j+1,u,hu,hs,hp,hl=>by
  rw[runs]
  refine runs_last d p t us (i+1) _ j u (by simpa using hu) hs (by rw[<-hp];congr 1;omega) (fun j' u' hj' hu' hs'=>?_)
  have:=hl (j'+1) u' (by omega) (by simpa using hu') hs'
  rw[<-this];congr 1;omega
structure OD where
 re:List (Nat×V)
 rh:List (Nat×Ob)
 ue:List (Nat×V)
 uh:List (Nat×Ob)
def RdE(e:Env):List (Nat×V)->Prop
 |[]=>True
 |(t,v)::r=>get e t=v/\RdE e r
def RdH(e:Heap):List (Nat×Ob)->Prop
 |[]=>True
 |(t,v)::r=>hget e t=v/\RdH e r
theorem RdE.congr{e e':Env}:∀{l:List (Nat×V)},(∀t,says t l=true->get e t=get e' t)->RdE e l->RdE e' l
 |[],_,_=>trivial
 |(t,v)::r,h,hr=>⟨by rw[<-h t (by simp[says])];exact hr.1,RdE.congr (fun t' ht'=>h t' (by simp only[says,List.any_cons,Bool.or_eq_true] at *;exact .inr ht')) hr.2⟩
theorem RdH.congr{e e':Heap}:∀{l:List (Nat×Ob)},(∀t,says t l=true->hget e t=hget e' t)->RdH e l->RdH e' l
 |[],_,_=>trivial
 |(t,v)::r,h,hr=>⟨by rw[<-h t (by simp[says])];exact hr.1,RdH.congr (fun t' ht'=>h t' (by simp only[says,List.any_cons,Bool.or_eq_true] at *;exact .inr ht')) hr.2⟩
def St.upd(S:St)(D:OD):St:=⟨D.ue++S.env,D.uh++S.hp,S.nx⟩
def OStep(K:Ctx)(nx:Nat)(ops:Array Oper)(o:Oper)(D:OD):Prop:=∀S,S.nx=nx->RdE S.env D.re->RdH S.hp D.rh->AOps K ops [o] (fun e T=>e=.normal/\T=S.upd D) S
def OStepA(K:Ctx)(A:Heap->Prop)(nx:Nat)(ops:Array Oper)(o:Oper)(D:OD):Prop:=∀S,S.nx=nx->A S.hp->RdE S.env D.re->RdH S.hp D.rh->AOps K ops [o] (fun e T=>e=.normal/\T=S.upd D) S
def LexOk:St->List OD->Prop
 |_,[]=>True
 |S,D::ds=>RdE S.env D.re/\RdH S.hp D.rh/\LexOk (S.upd D) ds
def lexEnd:St->List OD->St
 |S,[]=>S
 |S,D::ds=>lexEnd (S.upd D) ds
theorem lex_at:∀(ds:List OD) (S:St) (j:Nat) (D:OD),LexOk S ds->ds[j]? = some D->
  RdE (runs (fun i=>Nat.blt i j) 0 (ds.map (·.ue)) S.env) D.re/\RdH (runs (fun i=>Nat.blt i j) 0 (ds.map (·.uh)) S.hp) D.rh:=by
 -- by the number of the first operation
 have key:∀(ds:List OD) (S:St) (k j:Nat) (D:OD),LexOk S ds->ds[j]? = some D->
   RdE (runs (fun i=>Nat.blt i (k+j)) k (ds.map (·.ue)) S.env) D.re/\RdH (runs (fun i=>Nat.blt i (k+j)) k (ds.map (·.uh)) S.hp) D.rh:=by
  intro ds
  induction ds with
  |nil=>intro S k j D _ h;simp at h
  |cons D0 ds ih=>
   intro S k j D hl h
   obtain⟨h1,h2,h3⟩:=hl
   cases j with
   |zero=>
    simp at h;subst h
    simp only[List.map_cons,Nat.add_zero]
    constructor
    ·refine RdE.congr (fun t _=>?_) h1
     rw[get_aget,get_aget]
     refine(runs_base .any _ t _ k S.env ?_).symm
     intro j u _ _
     cases hb:Nat.blt (k+j) k;rfl
     have:=Nat.le_of_ble_eq_true hb;omega
    ·refine RdH.congr (fun t _=>?_) h2
     rw[hget_aget,hget_aget]
     refine(runs_base .dead _ t _ k S.hp ?_).symm
     intro j u _ _
     cases hb:Nat.blt (k+j) k;rfl
     have:=Nat.le_of_ble_eq_true hb;omega
   |succ j=>
    have hk:Nat.blt k (k+(j+1))=true:=Nat.ble_eq_true_of_le (by omega)
    have:=ih (S.upd D0) (k+1) j D h3 (by simpa using h)
    simp only[List.map_cons,runs,hk,if_true]
    have e1:k+1+j=k+(j+1):=by omega
    rw[e1] at this
    exact this
 intro ds S j D hl h
 have:=key ds S 0 j D hl h
 simpa using this
theorem lex_end:∀(ds:List OD) (S:St) (k:Nat),lexEnd S ds=⟨runs (fun _=>true) k (ds.map (·.ue)) S.env,runs (fun _=>true) k (ds.map (·.uh)) S.hp,S.nx⟩
 |[],S,k=>rfl
 |D::ds,S,k=>by
  rw[lexEnd,lex_end ds (S.upd D) (k+1)]
  simp[runs,St.upd]
def preds(o:Oper):List Nat:=(o.after.toList.filter fun e=>Region.binds .any e).map (·.on)
def ancs:List Oper->List (List Nat)->List (List Nat)
 |[],acc=>acc
 |o::os,acc=>ancs os (acc++[preds o++(preds o).flatMap fun j=>acc.getD j []])
def meets{α β:Type}(l:List (Nat×α))(l':List (Nat×β)):Bool:=l.any fun p=>l'.any fun q=>Nat.beq p.1 q.1
def clash(D D':OD):Bool:=meets D.ue D'.re||meets D.ue D'.ue||meets D.re D'.ue||meets D.uh D'.rh||meets D.uh D'.uh||meets D.rh D'.uh
def anyOk(os:List Oper)(ds:List OD):Bool:=
 let A:=ancs os []
 Nat.beq os.length ds.length &&
 (List.range os.length).all fun i=>(match os[i]? with|some o=>(preds o).all fun j=>Nat.blt j i|none=>false) &&
  (List.range i).all fun j=>match ds[j]?,ds[i]? with|some D,some D'=>!clash D D'||(A.getD i []).any fun k=>Nat.beq k j|_,_=>false
def anyOkT(os:List Oper)(ds:List OD):Bool:=
 let A:=ancs os []
 Nat.ble ds.length os.length &&
 (List.range os.length).all fun i=>(match os[i]? with|some o=>(preds o).all (fun j=>Nat.blt j i)|none=>false) &&
  (List.range i).all fun j=>match Nat.blt i ds.length with
   |true=>(match ds[j]?,ds[i]? with|some D,some D'=>!clash D D'||(A.getD i []).any fun k=>Nat.beq k j|_,_=>false)
   |false=>!Nat.blt j ds.length||(A.getD i []).any fun k=>Nat.beq k j
theorem meets_of{α β:Type}{l:List (Nat×α)}{l':List (Nat×β)}{t:Nat}(h:says t l=true)(h':says t l'=true):meets l l'=true:=by
 simp only[says,List.any_eq_true] at h h'
 obtain⟨p,hp,hpt⟩:=h
 obtain⟨q,hq,hqt⟩:=h'
 simp only[meets,List.any_eq_true]
 refine⟨p,hp,q,hq,?_⟩
 rw[Nat.eq_of_beq_eq_true hpt,Nat.eq_of_beq_eq_true hqt]
 exact Nat.beq_refl t
theorem ancs_closed{os:List Oper}{listed:Nat->Bool}:∀(rest:List Oper) (acc:List (List Nat)) (done:List Oper),os=done++rest->acc.length=done.length->
  (∀(i:Nat) (o:Oper),os[i]? = some o->listed i=true->∀j,j∈preds o->listed j=true)->
  (∀(i:Nat) (l:List Nat),acc[i]? = some l->listed i=true->∀j,j∈l->listed j=true)->
  ∀(i:Nat) (l:List Nat),(ancs rest acc)[i]? = some l->listed i=true->∀j,j∈l->listed j=true:=by
 intro rest
 induction rest with
 |nil=>intro acc done _ _ _ h;exact h
 |cons o rest ih=>
  intro acc done hos hlen hcl hacc
  refine ih _ (done++[o]) (by simp[hos]) (by simp[hlen]) hcl ?_
  intro i l hi hli j hj
  rw[List.getElem?_append] at hi
  split at hi
  ·exact hacc i l hi hli j hj
  ·rename_i hge
   have hi0:i - acc.length=0:=by
    cases hx:i - acc.length with
    |zero=>rfl
    |succ n=>rw[hx] at hi;simp at hi
   rw[hi0] at hi
   simp at hi
   subst hi
   have hil:i=done.length:=by omega
   have ho:os[i]? = some o:=by rw[hos,hil];simp
   rcases List.mem_append.1 hj with hj|hj
   ·exact hcl i o ho hli j hj
   ·simp only[List.mem_flatMap] at hj
    obtain⟨k,hk,hjk⟩:=hj
    have hlk:=hcl i o ho hli k hk
    cases hak:acc[k]? with
    |none=>simp[hak] at hjk
    |some l=>
     simp[hak] at hjk
     exact hacc k l hak hlk j hjk
section
variable{K:Ctx}{Q:Post}{S S':St}
variable{m:Mem}{β:Locs}{w:World}{a:Act}
theorem Rel.congr(r:Rel K m β w a S)(he:∀t,get S'.env t=get S.env t)(hh:∀t,hget S'.hp t=hget S.hp t)(hn:S'.nx=S.nx):Rel K m β w a S':=
 ⟨r.imm,r.ext,r.mold,r.frame,r.size,r.same,r.tn,r.df,fun t=>by rw[he];exact r.env t,fun i=>by rw[hh];exact r.own i,fun i b c h=>r.priv i b c (by rw[<-hh];exact h),
  fun i i' b c c' h h'=>r.inj i i' b c c' (by rw[<-hh];exact h) (by rw[<-hh];exact h'),
  fun i x h hx=>let q:=r.hid i x (by rw[<-hh];exact h) hx;⟨q.lt,q.m,q.old,fun i' b c h'=>q.ne i' b c (by rw[<-hh];exact h'),fun i' h'=>q.un i' (by rw[<-hh];exact h')⟩,fun i h=>r.nx i (by rw[<-hn];exact h),fun q hq=>by rw[hn];exact r.pin q hq⟩
theorem awp_region_anyT{A:Heap->Prop}{rid:Nat}{l:List Oper}(ds:List OD)(hm:K.P.follows .mixedOrders=true)(hlex:LexOk S ds)(hok:anyOkT l ds=true)(hA:∀p:Nat->Bool,A (runs p 0 (ds.map (·.uh)) S.hp))
  (hst:∀(i:Nat) (o:Oper) (D:OD),l[i]? = some o->ds[i]? = some D->OStepA K A S.nx l.toArray o D) (hend:∀(listed:Array Bool) (m:Mem) (β:Locs) (w:World) (a:Act),listed.size=l.length->(∀i,listed.getD i false=Nat.blt i ds.length)->Rel K m β w a (lexEnd S ds)->wpAnyIn K.fc 0 K.P .any l.toArray (Q.at K) (l.length - ds.length) listed a w):AWP K (.region rid l.toArray true) Q S:=by
 intro m β w a r
 refine wpIn_region_any hm ?_
 have r0:Rel K m β { w with drawn:=w.drawn+1 } a S:=r.drawn (w.drawn+1) (Nat.le_succ _)
 -- what 'anyOk' says
 simp only[anyOkT,Bool.and_eq_true,List.all_eq_true,List.mem_range] at hok
 obtain⟨hlen,hall⟩:=hok
 have hlen:=Nat.le_of_ble_eq_true hlen
 have hpre:∀(i:Nat) (o:Oper),l[i]? = some o->∀j,j∈preds o->j<i:=by
  intro i o ho j hj
  have hi:i<l.length:=(List.getElem?_eq_some_iff.1 ho).1
  have:=(hall i hi).1
  rw[ho] at this
  exact Nat.le_of_ble_eq_true (List.all_eq_true.1 this j hj)
 have hclash:∀(i j:Nat) (D D':OD),j<i->ds[j]? = some D->ds[i]? = some D'->clash D D'=true->j∈(ancs l []).getD i []:=by
  intro i j D D' hji hD hD' hc
  have hi0:i<ds.length:=(List.getElem?_eq_some_iff.1 hD').1
  have hi:i<l.length:=by omega
  have:=(hall i hi).2 j hji
  rw[show Nat.blt i ds.length=true from Nat.ble_eq_true_of_le hi0,hD,hD'] at this
  simp only[hc,Bool.not_true,Bool.false_or,List.any_eq_true] at this
  obtain⟨k,hk,hkj⟩:=this
  rw[<-Nat.eq_of_beq_eq_true hkj];exact hk
 -- what stands behind
 have hfirst:∀i,ds.length<=i->i<l.length->∀j,j<ds.length->j∈(ancs l []).getD i []:=by
  intro i hge hn j hj
  have:=(hall i hn).2 j (by omega)
  have hb:Nat.blt i ds.length=false:=by
   cases hb:Nat.blt i ds.length;rfl
   have:=Nat.le_of_ble_eq_true hb;omega
  rw[hb,show Nat.blt j ds.length=true from Nat.ble_eq_true_of_le hj] at this
  simp only[Bool.not_true,Bool.false_or,List.any_eq_true] at this
  obtain⟨k,hk,hkj⟩:=this
  rw[<-Nat.eq_of_beq_eq_true hkj];exact hk
 let US:=ds.map (·.ue)
 let HS:=ds.map (·.uh)
 let St' (p:Nat->Bool):St:=⟨runs p 0 US S.env,runs p 0 HS S.hp,S.nx⟩
 have key:∀(fuel:Nat) (listed:Array Bool) (a:Act) (w:World),listed.size=l.length->fuel+(listed.toList.filter id).length=l.length->
   (∀(i:Nat) (o:Oper),l[i]? = some o->listed.getD i false=true->∀j,j∈preds o->listed.getD j false=true)->
   ((∀i,ds.length<=i->listed.getD i false=false)/\∃m β,Rel K m β w a (St' fun i=>listed.getD i false))->wpAnyIn K.fc 0 K.P .any l.toArray (Q.at K) fuel listed a w:=by
  -- all are listed: the end
  have fin0:∀(listed:Array Bool) (a:Act) (w:World),(∀i,i<ds.length->listed.getD i false=true)->(∃m β,Rel K m β w a (St' fun i=>listed.getD i false))->∃m β,Rel K m β w a (lexEnd S ds):=by
   rintro listed a w hl ⟨m,β,r⟩
   refine⟨m,β,?_⟩
   rw[lex_end ds S 0]
   refine r.congr (fun t=>?_) (fun t=>?_) rfl
   ·show get (runs (fun _=>true) 0 US S.env) t=get (runs (fun i=>listed.getD i false) 0 US S.env) t
    rw[get_aget,get_aget]
    refine runs_congr _ _ _ t _ 0 _ _ rfl fun j u hu _=>?_
    rw[Nat.zero_add,hl j]
    have:=(List.getElem?_eq_some_iff.1 hu).1
    simp only[US,List.length_map] at this;omega
   ·show hget (runs (fun _=>true) 0 HS S.hp) t=hget (runs (fun i=>listed.getD i false) 0 HS S.hp) t
    rw[hget_aget,hget_aget]
    refine runs_congr _ _ _ t _ 0 _ _ rfl fun j u hu _=>?_
    rw[Nat.zero_add,hl j]
    have:=(List.getElem?_eq_some_iff.1 hu).1
    simp only[HS,List.length_map] at this;omega
  have hready:∀(listed:Array Bool) i,i∈Region.ready .any l.toArray listed<->i<l.length/\listed.getD i true=false/\∃o,l[i]? = some o/\∀j,j∈preds o->listed.getD j false=true:=by
   intro listed i
   simp only[Region.ready,List.mem_filter,List.mem_range,List.size_toArray,List.getElem?_toArray,Bool.and_eq_true,Bool.not_eq_true']
   constructor
   ·rintro⟨h1,h2,h3⟩
    refine⟨h1,h2,l[i],List.getElem?_eq_getElem h1,fun j hj=>?_⟩
    rw[List.getElem?_eq_getElem h1] at h3
    simp only[Option.map_some,Option.getD_some,Array.all_eq_true] at h3
    simp only[preds,List.mem_map,List.mem_filter] at hj
    obtain⟨e,⟨he,hb⟩,rfl⟩:=hj
    obtain⟨k,hk,rfl⟩:=List.getElem_of_mem he
    have:=h3 k (by simpa using hk)
    simp only[Array.getElem_toList] at hb ⊢
    simpa[hb] using this
   ·rintro⟨h1,h2,o,ho,h3⟩
    refine⟨h1,h2,?_⟩
    rw[ho]
    simp only[Option.map_some,Option.getD_some,Array.all_eq_true]
    intro k hk
    by_cases hb:Region.binds .any o.after[k]=true
    ·have:=h3 o.after[k].on (by
      simp only[preds,List.mem_map,List.mem_filter]
      exact⟨o.after[k],⟨by simp,hb⟩,rfl⟩)
     simp[hb,this]
    ·simp[Bool.eq_false_iff.2 hb]
  have none_ready:∀(listed:Array Bool),listed.size=l.length->Region.ready .any l.toArray listed=[]->∀i,i<l.length->listed.getD i false=true:=by
   intro listed hsz hr i
   induction i using Nat.strongRecOn with
   |_ i ih=>
    intro hi
    cases hli:listed.getD i false with
    |true=>rfl
    |false=>
     exfalso
     have:i∈Region.ready .any l.toArray listed:=by
      rw[hready]
      refine⟨hi,?_,l[i],List.getElem?_eq_getElem hi,fun j hj=>?_⟩
      ·have hi':i<listed.size:=by omega
       simp only[Array.getD_eq_getD_getElem?,Array.getElem?_eq_getElem hi',Option.getD_some] at hli ⊢
       exact hli
      ·have:=hpre i _ (List.getElem?_eq_getElem hi) j hj
       exact ih j this (by omega)
     rw[hr] at this
     simp at this
  have step:∀(listed:Array Bool) (i:Nat) (a:Act) (w:World) (K':Act->World->Prop),listed.size=l.length->
    (∀(i:Nat) (o:Oper),l[i]? = some o->listed.getD i false=true->∀j,j∈preds o->listed.getD j false=true)->
    (∃m β,Rel K m β w a (St' fun i=>listed.getD i false))->i∈Region.ready .any l.toArray listed->i<ds.length->
    (∀a w,(∃m β,Rel K m β w a (St' fun j=>(listed.setIfInBounds i true).getD j false))->K' a w)->wpOpIn K.fc 0 K.P l.toArray (Q.at K) i K' a w:=by
   rintro listed i a w K' hsz hcl ⟨m,β,r⟩ hi hin hK
   rw[hready] at hi
   obtain⟨hil,hli,o,ho,hpr⟩:=hi
   obtain⟨D,hD⟩:∃D,ds[i]? = some D:=⟨ds[i]'(by omega),List.getElem?_eq_getElem (by omega)⟩
   have hlf:listed.getD i false=false:=by
    have hi':i<listed.size:=by omega
    simp only[Array.getD_eq_getD_getElem?,Array.getElem?_eq_getElem hi',Option.getD_some] at hli ⊢
    exact hli
   -- who stands ahead
   have anc:∀k,listed.getD k false=true->∀j,j∈(ancs l []).getD k []->listed.getD j false=true:=by
    intro k hk j hj
    cases hak:(ancs l [])[k]? with
    |none=>simp[hak] at hj
    |some L=>
     simp[hak] at hj
     exact ancs_closed (os:=l) (listed:=fun i=>listed.getD i false) l [] [] rfl rfl hcl (by simp) k L hak hk j hj
   have ancI:∀j,j∈(ancs l []).getD i []->listed.getD j false=true:=by
    intro j hj
    have hcl':∀(k:Nat) (o':Oper),l[k]? = some o'->(listed.getD k false||Nat.beq k i)=true->∀j,j∈preds o'->(listed.getD j false||Nat.beq j i)=true:=by
     intro k o' ho' hk j hj
     rw[Bool.or_eq_true] at hk ⊢
     rcases hk with hk|hk
     ·exact .inl (hcl k o' ho' hk j hj)
     ·have:=Nat.eq_of_beq_eq_true hk
      subst this
      rw[ho] at ho';cases ho'
      exact .inl (hpr j hj)
    cases hak:(ancs l [])[i]? with
    |none=>simp[hak] at hj
    |some L=>
     simp[hak] at hj
     have h1:=ancs_closed (os:=l) (listed:=fun k=>listed.getD k false||Nat.beq k i) l [] [] rfl rfl hcl' (by simp) i L hak (by simp[Nat.beq_refl]) j hj
     simp only[Bool.or_eq_true] at h1
     rcases h1 with h1|h1
     ·exact h1
     ·exfalso
      -- nothing stands ahead of itself
      have hlt:∀(rest:List Oper) (acc:List (List Nat)) (done:List Oper),l=done++rest->acc.length=done.length->(∀(k:Nat) (L:List Nat),acc[k]? = some L->∀j,j∈L->j<k)->∀(k:Nat) (L:List Nat),(ancs rest acc)[k]? = some L->∀j,j∈L->j<k:=by
       intro rest
       induction rest with
       |nil=>intro acc done _ _ h;exact h
       |cons o' rest ih=>
        intro acc done hos hl2 hacc
        refine ih _ (done++[o']) (by simp[hos]) (by simp[hl2]) ?_
        intro k L hk j hj
        rw[List.getElem?_append] at hk
        split at hk
        ·exact hacc k L hk j hj
        ·have hk0:k - acc.length=0:=by
          cases hx:k - acc.length with
          |zero=>rfl
          |succ n=>rw[hx] at hk;simp at hk
         rw[hk0] at hk
         simp at hk
         subst hk
         have hkl:k=done.length:=by omega
         have ho'':l[k]? = some o':=by rw[hos,hkl];simp
         rcases List.mem_append.1 hj with hj|hj
         ·exact hpre k o' ho'' j hj
         ·simp only[List.mem_flatMap] at hj
          obtain⟨q,hq,hjq⟩:=hj
          have hqk:=hpre k o' ho'' q hq
          cases haq:acc[q]? with
          |none=>simp[haq] at hjq
          |some L=>
           simp[haq] at hjq
           have:=hacc q L haq j hjq
           omega
      have:=hlt l [] [] rfl rfl (by simp) i L hak j hj
      have:=Nat.eq_of_beq_eq_true h1
      omega
   -- another one that clashes
   have other:∀(j:Nat) (D':OD),j≠i->ds[j]? = some D'->(clash D' D=true\/clash D D'=true)->(j<i->clash D' D=true)->(i<j->clash D D'=true)->(listed.getD j false=Nat.blt j i):=by
    intro j D' hne hD' _ h1 h2
    rcases Nat.lt_or_gt_of_ne hne with hlt|hgt
    ·rw[ancI j (hclash i j D' D hlt hD' hD (h1 hlt))]
     exact(Nat.ble_eq_true_of_le hlt).symm
    ·have hb:Nat.blt j i=false:=by
      cases hb:Nat.blt j i;rfl
      have:=Nat.le_of_ble_eq_true hb;omega
     rw[hb]
     cases hx:listed.getD j false with
     |false=>rfl
     |true=>
      have:=anc j hx i (hclash j i D D' hgt hD hD' (h2 hgt))
      rw[hlf] at this;simp at this
   have hblt:Nat.blt i i=false:=by
    cases hb:Nat.blt i i;rfl
    have:=Nat.le_of_ble_eq_true hb;omega
   have clash_l:∀D1 D2:OD,(meets D1.ue D2.re=true\/meets D1.ue D2.ue=true\/meets D1.re D2.ue=true\/meets D1.uh D2.rh=true\/meets D1.uh D2.uh=true\/meets D1.rh D2.uh=true)->clash D1 D2=true:=by
    intro D1 D2 h
    simp only[clash,Bool.or_eq_true]
    rcases h with h|h|h|h|h|h<;>simp[h]
   obtain⟨lr,lh⟩:=lex_at ds S i D hlex hD
   -- the reads
   have hre:RdE (runs (fun i=>listed.getD i false) 0 US S.env) D.re:=by
    refine RdE.congr (fun t ht=>?_) lr
    rw[get_aget,get_aget]
    refine runs_congr _ _ _ t _ 0 _ _ rfl fun j u hu hs=>?_
    rw[Nat.zero_add]
    simp only[List.getElem?_map] at hu
    cases hDj:ds[j]? with
    |none=>simp[hDj] at hu
    |some D'=>
     simp[hDj] at hu;subst hu
     by_cases hji:j=i
     ·subst hji;rw[hblt,hlf]
     ·have c1:clash D' D=true:=clash_l _ _ (.inl (meets_of hs ht))
      have c2:clash D D'=true:=clash_l _ _ (.inr (.inr (.inl (meets_of ht hs))))
      exact(other j D' hji hDj (.inl c1) (fun _=>c1) (fun _=>c2)).symm
   have hrh:RdH (runs (fun i=>listed.getD i false) 0 HS S.hp) D.rh:=by
    refine RdH.congr (fun t ht=>?_) lh
    rw[hget_aget,hget_aget]
    refine runs_congr _ _ _ t _ 0 _ _ rfl fun j u hu hs=>?_
    rw[Nat.zero_add]
    simp only[List.getElem?_map] at hu
    cases hDj:ds[j]? with
    |none=>simp[hDj] at hu
    |some D'=>
     simp[hDj] at hu;subst hu
     by_cases hji:j=i
     ·subst hji;rw[hblt,hlf]
     ·have c1:clash D' D=true:=clash_l _ _ (.inr (.inr (.inr (.inl (meets_of hs ht)))))
      have c2:clash D D'=true:=clash_l _ _ (.inr (.inr (.inr (.inr (.inr (meets_of ht hs))))))
      exact(other j D' hji hDj (.inl c1) (fun _=>c1) (fun _=>c2)).symm
   have hset:∀j,(listed.setIfInBounds i true).getD j false=if j=i then true else listed.getD j false:=by
    intro j
    simp only[Array.getD_eq_getD_getElem?,Array.getElem?_setIfInBounds]
    by_cases hji:i=j
    ·subst hji;simp[show i<listed.size by omega]
    ·simp[hji,Ne.symm hji]
   -- the writings
   have hwe:∀t,get (runs (fun j=>(listed.setIfInBounds i true).getD j false) 0 US S.env) t=get (D.ue++runs (fun j=>listed.getD j false) 0 US S.env) t:=by
    intro t
    rw[get_aget,get_aget]
    by_cases hs:says t D.ue=true
    ·rw[aget_says _ _ _ _ hs]
     refine runs_last _ _ t _ 0 _ i D.ue (by simp[US,hD]) hs (by rw[Nat.zero_add,hset,if_pos rfl]) ?_
     intro j u hj hu hs'
     rw[Nat.zero_add,hset,if_neg (by omega)]
     simp only[US,List.getElem?_map] at hu
     cases hDj:ds[j]? with
     |none=>simp[hDj] at hu
     |some D'=>
      simp[hDj] at hu;subst hu
      have c1:clash D' D=true:=clash_l _ _ (.inr (.inl (meets_of hs' hs)))
      have c2:clash D D'=true:=clash_l _ _ (.inr (.inl (meets_of hs hs')))
      rw[other j D' (by omega) hDj (.inl c1) (fun _=>c1) (fun _=>c2)]
      cases hb:Nat.blt j i;rfl
      have:=Nat.le_of_ble_eq_true hb;omega
    ·rw[aget_append,if_neg hs]
     refine runs_congr _ _ _ t _ 0 _ _ rfl fun j u hu hs'=>?_
     rw[Nat.zero_add,hset]
     by_cases hji:j=i
     ·subst hji
      simp only[US,List.getElem?_map,hD,Option.map_some,Option.some.injEq] at hu
      subst hu
      exact absurd hs' hs
     ·rw[if_neg hji]
   have hwh:∀t,hget (runs (fun j=>(listed.setIfInBounds i true).getD j false) 0 HS S.hp) t=hget (D.uh++runs (fun j=>listed.getD j false) 0 HS S.hp) t:=by
    intro t
    rw[hget_aget,hget_aget]
    by_cases hs:says t D.uh=true
    ·rw[aget_says _ _ _ _ hs]
     refine runs_last _ _ t _ 0 _ i D.uh (by simp[HS,hD]) hs (by rw[Nat.zero_add,hset,if_pos rfl]) ?_
     intro j u hj hu hs'
     rw[Nat.zero_add,hset,if_neg (by omega)]
     simp only[HS,List.getElem?_map] at hu
     cases hDj:ds[j]? with
     |none=>simp[hDj] at hu
     |some D'=>
      simp[hDj] at hu;subst hu
      have c1:clash D' D=true:=clash_l _ _ (.inr (.inr (.inr (.inr (.inl (meets_of hs' hs))))))
      have c2:clash D D'=true:=clash_l _ _ (.inr (.inr (.inr (.inr (.inl (meets_of hs hs'))))))
      rw[other j D' (by omega) hDj (.inl c1) (fun _=>c1) (fun _=>c2)]
      cases hb:Nat.blt j i;rfl
      have:=Nat.le_of_ble_eq_true hb;omega
    ·rw[aget_append,if_neg hs]
     refine runs_congr _ _ _ t _ 0 _ _ rfl fun j u hu hs'=>?_
     rw[Nat.zero_add,hset]
     by_cases hji:j=i
     ·subst hji
      simp only[HS,List.getElem?_map,hD,Option.map_some,Option.some.injEq] at hu
      subst hu
      exact absurd hs' hs
     ·rw[if_neg hji]
   have hstep:=hst i o D ho hD (St' fun i=>listed.getD i false) rfl (hA _) hre hrh m β w a r
   have hcont:∀a w,(∃m β,Rel K m β w a ((St' fun i=>listed.getD i false).upd D))->K' a w:=by
    rintro a w ⟨m,β,r⟩
    exact hK a w ⟨m,β,r.congr hwe hwh rfl⟩
   unfold wpListIn at hstep
   unfold wpOpIn
   simp only[List.getElem?_toArray,ho]
   have conv:∀a w,wpListIn K.fc 0 K.P l.toArray (Post.at K fun e T=>e=.normal/\T=(St' fun i=>listed.getD i false).upd D) [] a w->K' a w:=by
    rintro a w ⟨_,T,m,β,⟨_,rfl⟩,r⟩
    exact hcont a w ⟨m,β,r⟩
   split
   ·rename_i hw
    rw[if_pos hw] at hstep
    obtain⟨hab,hstep⟩:=hstep
    refine⟨hab,?_⟩
    generalize (o.semAt K.fc.round a.eval).run K.P w=res at *
    cases res with
    |ok n w'=>
     cases n<;>simp only[Oper.uponIn] at hstep ⊢
     ·exact conv _ _ hstep
     ·exact conv _ _ hstep
     ·exact⟨hstep.1,hstep.2.mono fun e w'' he=>by
       cases e with
       |returned v=>exact conv _ _ he
       |panicked ch=>obtain⟨_,T,m,β,⟨h,_⟩,_⟩:=he;simp at h
       |outgrown=>obtain⟨a,w,h,_⟩:=he;simp[plainExit] at h⟩
     ·exact⟨hstep.1,hstep.2.mono fun e w'' he=>by
       cases e with
       |returned v=>exact conv _ _ he
       |panicked ch=>obtain⟨_,T,m,β,⟨h,_⟩,_⟩:=he;simp at h
       |outgrown=>obtain⟨a,w,h,_⟩:=he;simp[plainExit] at h⟩
     ·exact conv _ _ hstep
     ·exact⟨hstep.1,hstep.2.mono fun v w'' he=>conv _ _ he⟩
    |halt x w'=>
     cases x<;>simp only[Oper.uponIn] at hstep ⊢
     obtain⟨_,T,m,β,⟨h,_⟩,_⟩:=hstep
     simp at h
   ·rename_i hw
    rw[if_neg hw] at hstep
    exact⟨hstep.1,conv _ _ hstep.2⟩
  -- all that stands ahead is listed
  have cnt:∀(listed:Array Bool),listed.size=l.length->(∀i,listed.getD i false=Nat.blt i ds.length)->(listed.toList.filter id).length=ds.length:=by
   intro listed hsz h
   have:listed.toList=List.replicate ds.length true++List.replicate (l.length - ds.length) false:=by
    apply List.ext_getElem?
    intro i
    have hi:=h i
    simp only[Array.getD_eq_getD_getElem?] at hi
    by_cases h1:i<ds.length
    ·rw[List.getElem?_append_left (by simpa using h1),List.getElem?_replicate,if_pos h1]
     have hs:i<listed.size:=by omega
     rw[Array.getElem?_eq_getElem hs,Option.getD_some,show Nat.blt i ds.length=true from Nat.ble_eq_true_of_le h1] at hi
     simp[hs,hi]
    ·rw[List.getElem?_append_right (by simpa using h1),List.getElem?_replicate,List.length_replicate]
     by_cases h2:i<l.length
     ·rw[if_pos (by omega)]
      have hs:i<listed.size:=by omega
      have hb:Nat.blt i ds.length=false:=by
       cases hb:Nat.blt i ds.length;rfl
       have:=Nat.le_of_ble_eq_true hb;omega
      rw[Array.getElem?_eq_getElem hs,Option.getD_some,hb] at hi
      simp[hs,hi]
     ·rw[if_neg (by omega)]
      simp;omega
   rw[this]
   simp
  have ahead:∀(fuel:Nat) (listed:Array Bool) (a:Act) (w:World),listed.size=l.length->fuel+(listed.toList.filter id).length=l.length->(∀i,i<ds.length->listed.getD i false=true)->(∀i,ds.length<=i->listed.getD i false=false)->
    (∃m β,Rel K m β w a (St' fun i=>listed.getD i false))->wpAnyIn K.fc 0 K.P .any l.toArray (Q.at K) fuel listed a w:=by
   intro fuel listed a w hsz hcount h1 h2 h3
   have hl:∀i,listed.getD i false=Nat.blt i ds.length:=by
    intro i
    by_cases hi:i<ds.length
    ·rw[h1 i hi];exact(Nat.ble_eq_true_of_le hi).symm
    ·rw[h2 i (by omega)]
     cases hb:Nat.blt i ds.length with
     |false=>rfl
     |true=>have:=Nat.le_of_ble_eq_true hb;omega
   obtain⟨m,β,r⟩:=fin0 listed a w h1 h3
   have hf:fuel=l.length - ds.length:=by rw[cnt listed hsz hl] at hcount;omega
   rw[hf]
   exact hend listed m β w a hsz hl r
  intro fuel
  induction fuel with
  |zero=>
   intro listed a w hsz hcount hcl hr
   have hfull:∀i,i<l.length->listed.getD i false=true:=by
    intro i hi
    have h1:(listed.toList.filter id).length=listed.toList.length:=by simp only[Array.length_toList];omega
    have h2:=List.length_filter_eq_length_iff.1 h1
    have hi':i<listed.size:=by omega
    have:=h2 listed[i] (by simp)
    simp only[Array.getD_eq_getD_getElem?,Array.getElem?_eq_getElem hi',Option.getD_some]
    exact this
   exact ahead 0 listed a w hsz hcount (fun i hi=>hfull i (by omega)) hr.1 hr.2
  |succ fuel ih=>
   intro listed a w hsz hcount hcl hr
   by_cases hA:∀i,i<ds.length->listed.getD i false=true
   ·exact ahead _ listed a w hsz hcount hA hr.1 hr.2
   refine⟨fun h0=>absurd (fun i hi=>none_ready listed hsz h0 i (by omega)) hA,fun i hi=>?_⟩
   have hready_i:=(hready listed i).1 hi
   have hin:i<ds.length:=by
    rcases Nat.lt_or_ge i ds.length with h|hge
    ·exact h
    ·exfalso
     apply hA
     intro j hj
     obtain⟨o,ho,hpr⟩:=hready_i.2.2
     have hin:=hfirst i hge hready_i.1 j hj
     have hcl':∀(k:Nat) (o':Oper),l[k]? = some o'->(listed.getD k false||Nat.beq k i)=true->∀j,j∈preds o'->(listed.getD j false||Nat.beq j i)=true:=by
      intro k o' ho' hk j hj
      rw[Bool.or_eq_true] at hk ⊢
      rcases hk with hk|hk
      ·exact .inl (hcl k o' ho' hk j hj)
      ·have:=Nat.eq_of_beq_eq_true hk
       subst this
       rw[ho] at ho';cases ho'
       exact .inl (hpr j hj)
     cases hak:(ancs l [])[i]? with
     |none=>simp[hak] at hin
     |some L=>
      simp[hak] at hin
      have h1:=ancs_closed (os:=l) (listed:=fun k=>listed.getD k false||Nat.beq k i) l [] [] rfl rfl hcl' (by simp) i L hak (by simp[Nat.beq_refl]) j hin
      simp only[Bool.or_eq_true] at h1
      rcases h1 with h1|h1
      ·exact h1
      ·have:=Nat.eq_of_beq_eq_true h1;omega
   refine step listed i a w _ hsz hcl hr.2 hi hin ?_
   intro a w hr'
   have hi2:=(hready listed i).1 hi
   have hi':i<listed.size:=by omega
   have hfalse:listed[i]=false:=by
    have:=hi2.2.1
    simp only[Array.getD_eq_getD_getElem?,Array.getElem?_eq_getElem hi',Option.getD_some] at this
    exact this
   refine ih _ a w (by simp[hsz]) ?_ ?_ ⟨fun j hj=>by
    have hset:(listed.setIfInBounds i true).getD j false=listed.getD j false:=by
     simp only[Array.getD_eq_getD_getElem?,Array.getElem?_setIfInBounds]
     rw[if_neg (by omega)]
    rw[hset];exact hr.1 j hj,hr'⟩
   ·have:((listed.setIfInBounds i true).toList.filter id).length=(listed.toList.filter id).length+1:=by
     rw[Array.toList_setIfInBounds]
     have gen:∀(L:List Bool) (i:Nat) (h:i<L.length),L[i]=false->((L.set i true).filter id).length=(L.filter id).length+1:=by
      intro L
      induction L with
      |nil=>intro i h;simp at h
      |cons b L ihL=>
       intro i h hb
       cases i with
       |zero=>simp at hb;subst hb;simp
       |succ i=>
        simp only[List.set_cons_succ,List.filter_cons]
        have:=ihL i (by simpa using h) (by simpa using hb)
        split<;>simp[this]
     exact gen listed.toList i (by simpa using hi') (by simpa using hfalse)
    omega
   ·intro k o' ho' hk j hj
    have hset:∀j,(listed.setIfInBounds i true).getD j false=if j=i then true else listed.getD j false:=by
     intro j
     simp only[Array.getD_eq_getD_getElem?,Array.getElem?_setIfInBounds]
     by_cases hji:i=j
     ·subst hji;simp[hi']
     ·simp[hji,Ne.symm hji]
    rw[hset] at hk ⊢
    split
    ·rfl
    ·by_cases hki:k=i
     ·subst hki
      obtain⟨_,_,o'',ho'',hpr⟩:=hi2
      rw[ho'] at ho'';cases ho''
      exact hpr j hj
     ·rw[if_neg hki] at hk
      exact hcl k o' ho' hk j hj
 refine key l.length (Array.replicate l.length false) a { w with drawn:=w.drawn+1 } (by simp) (by simp) ?_ ⟨fun i _=>by simp only[Array.getD_eq_getD_getElem?,Array.getElem?_replicate];split<;>rfl,?_⟩
 ·intro i o _ h
  simp only[Array.getD_eq_getD_getElem?,Array.getElem?_replicate] at h
  split at h<;>simp at h
 ·refine⟨m,β,r0.congr (fun t=>?_) (fun t=>?_) rfl⟩
  ·rw[get_aget,get_aget]
   refine runs_base _ _ t _ 0 _ fun j u _ _=>?_
   simp only[Array.getD_eq_getD_getElem?,Array.getElem?_replicate];split<;>rfl
  ·rw[hget_aget,hget_aget]
   refine runs_base _ _ t _ 0 _ fun j u _ _=>?_
   simp only[Array.getD_eq_getD_getElem?,Array.getElem?_replicate];split<;>rfl
theorem anyOk_T{os:List Oper}{ds:List OD}(h:anyOk os ds=true):anyOkT os ds=true/\os.length=ds.length:=by
 simp only[anyOk,Bool.and_eq_true,List.all_eq_true,List.mem_range] at h
 obtain⟨h1,h2⟩:=h
 have h1:=Nat.eq_of_beq_eq_true h1
 refine⟨?_,h1⟩
 simp only[anyOkT,Bool.and_eq_true,List.all_eq_true,List.mem_range]
 refine⟨Nat.ble_eq_true_of_le (by omega),fun i hi=>⟨?_,fun j hj=>?_⟩⟩
 ·have:=(h2 i hi).1
  rw[List.getElem?_eq_getElem hi] at this ⊢
  exact this
 ·rw[show Nat.blt i ds.length=true from Nat.ble_eq_true_of_le (by omega)]
  exact(h2 i hi).2 j hj
theorem awp_region_anyA{A:Heap->Prop}{rid:Nat}{l:List Oper}(ds:List OD)(hm:K.P.follows .mixedOrders=true)(hlex:LexOk S ds)(hok:anyOk l ds=true)(hA:∀p:Nat->Bool,A (runs p 0 (ds.map (·.uh)) S.hp))
  (hst:∀(i:Nat) (o:Oper) (D:OD),l[i]? = some o->ds[i]? = some D->OStepA K A S.nx l.toArray o D) (hend:Q .normal (lexEnd S ds)):AWP K (.region rid l.toArray true) Q S:=
 awp_region_anyT ds hm hlex (anyOk_T hok).1 hA hst fun listed m β w a hsz hl r=>by
  have hlen:=(anyOk_T hok).2
  rw[hlen,Nat.sub_self]
  refine⟨?_,rfl,_,m,β,hend,r⟩
  cases hrd:Region.ready .any l.toArray listed with
  |nil=>rfl
  |cons i is=>
   have hi:i∈Region.ready .any l.toArray listed:=by rw[hrd];simp
   simp only[Region.ready,List.mem_filter,List.mem_range,List.size_toArray,Bool.and_eq_true,Bool.not_eq_true'] at hi
   have h1:=hl i
   have hi':i<listed.size:=by omega
   have h2:=hi.2.1
   rw[show Nat.blt i ds.length=true from Nat.ble_eq_true_of_le (by omega)] at h1
   simp only[Array.getD_eq_getD_getElem?,Array.getElem?_eq_getElem hi',Option.getD_some] at h1 h2
   rw[h1] at h2;simp at h2
theorem awp_region_any{rid:Nat}{l:List Oper}(ds:List OD)(hm:K.P.follows .mixedOrders=true)(hlex:LexOk S ds)(hok:anyOk l ds=true)
  (hst:∀(i:Nat) (o:Oper) (D:OD),l[i]? = some o->ds[i]? = some D->OStep K S.nx l.toArray o D) (hend:Q .normal (lexEnd S ds)):AWP K (.region rid l.toArray true) Q S:=
 awp_region_anyA (A:=fun _=>True) ds hm hlex hok (fun _=>trivial) (fun i o D h1 h2 S hn _=>hst i o D h1 h2 S hn) hend
end
section
variable{K:Ctx}{Q:Post}{S S':St}{ops:Array Oper}{rest:List Oper}{op:Op}{ty:TypeId}{pos:String}{after:Array Edge}{g:Option (Nat×Bool)}
variable{m:Mem}{β:Locs}{w:World}{a:Act}
abbrev str(l:List UInt8):Value:=.string ⟨l.toArray⟩
def binT(op:BinOp)(a b:List UInt8):Option Value:=
 match op with
 | .add=>if a.length+b.length<=9223372036854775807 then some (str (a++b)) else none
 | .eql=>some (.bool (a==b))
 | .neq=>some (.bool (!(a==b)))
 | .lss=>some (.bool (Op.bytesLess a b))
 | .leq=>some (.bool (Op.bytesLess a b||a==b))
 | .gtr=>some (.bool (!(Op.bytesLess a b||a==b)))
 | .geq=>some (.bool (!Op.bytesLess a b))
 |_=>none
theorem run_binT{P:Program}{w:World}{op:BinOp}{T:TypeId}{x y:Operand}{a b:List UInt8}{v:Value}(h:binT op a b=some v):
  (do eqGuard op T x y (str a) (str b);binOp op T (str a) (str b):Sem Value).run P w=.ok v w:=by
 have hg:(eqGuard op T x y (str a) (str b)).run P w=.ok () w:=by
  unfold eqGuard;cases op<;>simp[pure]
 rw[Sem.run_bind,hg,Result.andThen_ok]
 cases op<;>simp only[binT,reduceCtorEq,Option.some.injEq] at h
 all_goals simp only[binOp,Op.stringOp,ByteArray.toList_mk]
 case add=>
  split at h
  ·rename_i hl
   simp only[Option.some.injEq] at h
   subst h
   rw[if_neg]
   ·have:(⟨a.toArray⟩:ByteArray)++⟨b.toArray⟩=⟨(a++b).toArray⟩:=by
     apply ByteArray.ext;simp
    rw[this];rfl
   ·have e1:(⟨a.toArray⟩:ByteArray).size=a.length:=by simp[ByteArray.size]
    have e2:(⟨b.toArray⟩:ByteArray).size=b.length:=by simp[ByteArray.size]
    rw[e1,e2]
    simp only[IntKind.max,IntKind.signed,IntKind.bits]
    simp;omega
  ·simp at h
 all_goals (subst h;rfl)
theorem aops_binT{d:Nat}{bop:BinOp}{x y:Operand}{T T':TypeId}{la lb:List UInt8}(v:Value)(hw:Wants ops S ⟨some d,.binOp bop T x y T',ty,pos,after,g⟩ true)
  (hx:evl K S x=.con (str la)) (hy:evl K S y=.con (str lb)) (hv:binT bop la lb=some v) (hN:Nat.blt d K.N=true)
  (k:AOps K ops rest Q (S.put d (.con v))):AOps K ops (⟨some d,.binOp bop T x y T',ty,pos,after,g⟩::rest) Q S:=
 aops_val (.con v) hw hN (fun m β w a r=>⟨v,by
  simp only[execOp,r.con hx,r.con hy]
  exact run_value (run_binT hv),.imm (.con v)⟩) k
theorem aops_lenT{d:Nat}{x:Operand}{T:TypeId}{l:List UInt8}(hT:tyStr K.P T=true)
  (hw:Wants ops S ⟨some d,.call ⟨.builtin .len,#[x],#[T]⟩,ty,pos,after,g⟩ true) (hx:evl K S x=.con (str l)) (hN:Nat.blt d K.N=true)
  (kk:AOps K ops rest Q (S.put d (.con (.int .i64 l.length)))):
  AOps K ops (⟨some d,.call ⟨.builtin .len,#[x],#[T]⟩,ty,pos,after,g⟩::rest) Q S:=
 aops_len_str hT hw hx hN (by have:(⟨l.toArray⟩:ByteArray).size=l.length:=(by simp[ByteArray.size]);rw[this];exact kk)
theorem aops_indexT{d:Nat}{x y:Operand}{T:TypeId}{l:List UInt8}{ik:IntKind}{n:Int}(b:UInt8)(hT:tyStr K.P T=true)
  (hw:Wants ops S ⟨some d,.index T x y,ty,pos,after,g⟩ true) (hx:evl K S x=.con (str l)) (hy:evl K S y=.con (.int ik n)) (h0:0<=n) (hb:l[n.toNat]? = some b)
  (hN:Nat.blt d K.N=true) (kk:AOps K ops rest Q (S.put d (.con (.int .u8 b.toNat)))):
  AOps K ops (⟨some d,.index T x y,ty,pos,after,g⟩::rest) Q S:=
 aops_val _ hw hN (fun m β w a r=>⟨.int .u8 b.toNat,by
  simp only[execOp,r.con hx,r.con hy]
  refine run_value ?_
  simp only[Instr.index,asIntOf,Sem.run_bind,pure,Sem.run,Result.andThen_ok,run_underlying (tyStr_inv hT)]
  rw[if_pos h0]
  have:(⟨l.toArray⟩:ByteArray)[n.toNat]? = some b:=by
   have hl:n.toNat<(⟨l.toArray⟩:ByteArray).size:=by
    have:=(List.getElem?_eq_some_iff.1 hb).1;simpa[ByteArray.size] using this
   rw[getElem?_pos (⟨l.toArray⟩:ByteArray) n.toNat hl]
   obtain⟨h1,h2⟩:=List.getElem?_eq_some_iff.1 hb
   rw[<-h2];rfl
  rw[this]
  rfl,.imm (.con _)⟩) kk
theorem aops_sliceT{d:Nat}{x:Operand}{lo hi:Option Operand}{T:TypeId}{l:List UInt8}(a0 b0:Nat)(l':List UInt8)(hT:tyStr K.P T=true)
  (hw:Wants ops S ⟨some d,.slice T x lo hi none,ty,pos,after,g⟩ true) (hx:evl K S x=.con (str l))
  (hlo:match lo with|none=>a0=0|some y=>∃ik,evl K S y=.con (.int ik a0)) (hhi:match hi with|none=>b0=l.length|some y=>∃ik,evl K S y=.con (.int ik b0))
  (h1:a0<=b0) (h2:b0<=l.length) (hl:(l.drop a0).take (b0 - a0)=l') (hN:Nat.blt d K.N=true) (kk:AOps K ops rest Q (S.put d (.con (str l')))):
  AOps K ops (⟨some d,.slice T x lo hi none,ty,pos,after,g⟩::rest) Q S:=
 aops_val _ hw hN (fun m β w a r=>⟨str l',by
  have hsz:(⟨l.toArray⟩:ByteArray).size=l.length:=by simp[ByteArray.size]
  have hu:=tyStr_inv hT
  have hext:(⟨l.toArray⟩:ByteArray).extract a0 b0=⟨l'.toArray⟩:=by
   apply ByteArray.ext
   have:=Lib.extract_toList (⟨l.toArray⟩:ByteArray) a0 b0
   rw[ByteArray.toList_eq] at this
   apply Array.ext'
   rw[this,<-hl]
  have bnd:∀(n y:Nat) (c:BoundsCode) (ik:IntKind),n<=y->(Instr.sliceBound (.int ik n) y c).run K.P w=.ok n w:=by
   intro n y c ik h
   simp only[Instr.sliceBound,asIntOf,Sem.run_bind,pure,Sem.run,Result.andThen_ok]
   rw[if_pos ⟨by omega,by omega⟩]
   simp
  simp only[execOp,r.con hx]
  refine run_value ?_
  have hs:(Instr.slice T (str l) (lo.map a.eval) (hi.map a.eval) none).run K.P w=.ok (str l') w:=by
   simp only[Instr.slice,Sem.run_bind,run_underlying hu,Result.andThen_ok,Option.isSome_none,Bool.false_eq_true,if_false,hsz]
   have hb:(Instr.sliceBounds false l.length l.length (lo.map a.eval) (hi.map a.eval) none).run K.P w=.ok (a0,b0,l.length) w:=by
    cases lo with
    |none=>
     simp only at hlo;subst hlo
     cases hi with
     |none=>simp only at hhi;subst hhi;simp[Instr.sliceBounds,pure]
     |some y=>
      obtain⟨ik,hy⟩:=hhi
      simp only[Instr.sliceBounds,Option.map_none,Option.map_some,r.con hy,Sem.run_bind,pure,Sem.run,Result.andThen_ok,bnd b0 _ _ ik h2,Bool.false_eq_true,if_false]
    |some z=>
     obtain⟨ik,hz⟩:=hlo
     cases hi with
     |none=>simp only at hhi;subst hhi;simp[Instr.sliceBounds,pure,r.con hz,bnd a0 _ _ ik h1]
     |some y=>
      obtain⟨ik',hy⟩:=hhi
      simp[Instr.sliceBounds,pure,r.con hz,r.con hy,bnd a0 _ _ ik h1,bnd b0 _ _ ik' h2]
   rw[hb]
   simp only[Result.andThen_ok,hext];rfl
  simp only[Instr.sliceAt,Sem.run_bind,run_underlying hu,Result.andThen_ok,Option.map_none]
  exact hs,.imm (.con _)⟩) kk
theorem aops_slice_lst{d k:Nat}{x:Operand}{lo hi:Option Operand}{T:TypeId}{rows:List (List V)}(a0 b0:Nat)(rows':List (List V))(hT:tySl K.P T k=true)
  (hw:Wants ops S ⟨some d,.slice T x lo hi none,ty,pos,after,g⟩ true) (hx:evl K S x=.lst k rows)
  (hlo:match lo with|none=>a0=0|some y=>∃ik,evl K S y=.con (.int ik a0)) (hhi:match hi with|none=>b0=rows.length|some y=>∃ik,evl K S y=.con (.int ik b0))
  (h1:a0<=b0) (h2:b0<=rows.length) (hl:(rows.drop a0).take (b0 - a0)=rows') (hN:Nat.blt d K.N=true) (kk:AOps K ops rest Q (S.put d (.lst k rows'))):
  AOps K ops (⟨some d,.slice T x lo hi none,ty,pos,after,g⟩::rest) Q S:=
 aops_val _ hw hN (fun m β w a r=>by
  obtain⟨e,i,hu,hi',hs⟩:=tySl_inv hT
  have hk:K.P.cellsOf e=k:=by simp[Program.cellsOf,hi',hs]
  have h:=r.reads x
  rw[hx] at h
  have bnd:∀(n y:Nat) (c:BoundsCode) (ik:IntKind),n<=y->(Instr.sliceBound (.int ik n) y c).run K.P w=.ok n w:=by
   intro n y c ik h
   simp only[Instr.sliceBound,asIntOf,Sem.run_bind,pure,Sem.run,Result.andThen_ok]
   rw[if_pos ⟨by omega,by omega⟩]
   simp
  have hb:∀cap,rows.length<=cap->(Instr.sliceBounds true rows.length cap (lo.map a.eval) (hi.map a.eval) none).run K.P w=.ok (a0,b0,cap) w:=by
   intro cap hcap
   cases lo with
   |none=>
    simp only at hlo;subst hlo
    cases hi with
    |none=>simp only at hhi;subst hhi;simp[Instr.sliceBounds,pure]
    |some y=>
     obtain⟨ik,hy⟩:=hhi
     simp[Instr.sliceBounds,pure,r.con hy,bnd b0 cap _ ik (by omega)]
   |some z=>
    obtain⟨ik,hz⟩:=hlo
    cases hi with
    |none=>simp only at hhi;subst hhi;simp[Instr.sliceBounds,pure,r.con hz,bnd a0 _ _ ik h1]
    |some y=>
     obtain⟨ik',hy⟩:=hhi
     simp[Instr.sliceBounds,pure,r.con hz,r.con hy,bnd a0 _ _ ik h1,bnd b0 cap _ ik' (by omega)]
  have hrun:∀ad n cap,a.eval x=.slice ad n cap->n=rows.length->rows.length<=cap->
    (execOp a.eval ⟨some d,.slice T x lo hi none,ty,pos,after,g⟩).run K.P w=.ok (.value (.slice (if cap=a0 then ad else ad.map (·.add (a0*k))) (b0 - a0) (cap - a0))) w:=by
   intro ad n cap hv hn hcap
   subst hn
   simp only[execOp,hv]
   refine run_value ?_
   simp only[Instr.sliceAt,Sem.run_bind,run_underlying hu,Result.andThen_ok,Option.map_none,Instr.slice,hb cap hcap,run_sizeOf w hi',hk]
   rfl
  generalize hv:a.eval x=v at h
  cases h with
  |imm h=>
   cases h with
   |nil _ ad cap=>
    have:rows'=[]:=by rw[<-hl];simp
    subst this
    simp only[List.length_nil] at h2
    have:b0 - a0=0:=by omega
    exact⟨_,hrun ad 0 cap hv rfl (by simp),by rw[this];exact .imm (.nil k _ _)⟩
   | @lst _ _ ad n cap arr T' fr f hm hsp hn hcap hbd hkk hf h=>
    subst hn
    refine⟨_,hrun (some ad) _ cap hv rfl hcap,?_⟩
    by_cases hc:cap=a0
    ·have h3:b0 - a0=0:=by omega
     have:rows'=[]:=by rw[<-hl,h3];simp
     subst this
     rw[h3]
     exact .imm (.nil k _ _)
    ·rw[if_neg hc]
     have had:(some ad).map (·.add (a0*k))=some ⟨ad.block,ad.off+a0*k,none⟩:=by
      simp only[Option.map_some];rw[addr_eta hsp,add_spot]
     rw[had]
     have hlen:rows'.length=b0 - a0:=by rw[<-hl];simp;omega
     refine .imm (.lst (fun p=>f (a0*k+p)) hm rfl hlen (by omega) (by omega) (fun row hr=>hkk row (by rw[<-hl] at hr;exact List.mem_of_mem_drop (List.mem_of_mem_take hr))) ?_ ?_)
     ·intro p hp
      simp only
      rw[Nat.add_assoc]
      refine hf _ ?_
      calc a0*k+p<a0*k+rows'.length*k:=by omega
       _=(a0+rows'.length)*k:=by rw[Nat.add_mul]
       _<=rows.length*k:=Nat.mul_le_mul_right _ (by omega)
     ·intro i' j row c hi2 hj
      rw[<-hl,List.getElem?_take] at hi2
      split at hi2
      ·rw[List.getElem?_drop] at hi2
       have:=h (a0+i') j row c hi2 hj
       rw[Nat.add_mul,Nat.add_assoc] at this
       exact this
      ·simp at hi2) kk
theorem aops_convInt{d:Nat}{x:Operand}{src dst:TypeId}{k k':IntKind}{n:Int}(hd:K.P.underlying dst=some (.int k))(hs:∃t,K.P.underlying src=some t)
  (hw:Wants ops S ⟨some d,.convert src dst x,ty,pos,after,g⟩ true) (hx:evl K S x=.con (.int k' n)) (hN:Nat.blt d K.N=true)
  (kk:AOps K ops rest Q (S.put d (.con (.int k (k.wrap n))))):AOps K ops (⟨some d,.convert src dst x,ty,pos,after,g⟩::rest) Q S:=
 aops_val _ hw hN (fun m β w a r=>⟨.int k (k.wrap n),by
  obtain⟨t,ht⟩:=hs
  simp only[execOp,r.con hx]
  refine run_value ?_
  simp only[convert,Sem.run_bind,run_underlying ht,run_underlying hd,Result.andThen_ok,Conv.intToInt];rfl,.imm (.con _)⟩) kk
theorem aops_min{d:Nat}{x y:Operand}{T T':TypeId}{k:IntKind}{n n':Int}(hw:Wants ops S ⟨some d,.call ⟨.builtin .min,#[x,y],#[T,T']⟩,ty,pos,after,g⟩ true)
  (hx:evl K S x=.con (.int k n)) (hy:evl K S y=.con (.int k n')) (hN:Nat.blt d K.N=true) (kk:AOps K ops rest Q (S.put d (.con (.int k (if n'<n then n' else n))))):
  AOps K ops (⟨some d,.call ⟨.builtin .min,#[x,y],#[T,T']⟩,ty,pos,after,g⟩::rest) Q S:=
 aops_val _ hw hN (fun m β w a r=>⟨_,run_builtin rfl (by
  simp only[builtin,List.map_toArray,List.map_cons,List.map_nil,r.con hx,r.con hy]
  refine run_value (v:=.int k (if n'<n then n' else n)) ?_
  simp[Builtin.min_,Builtin.min2,pure]),.imm (.con _)⟩) kk
theorem aops_max{d:Nat}{x y:Operand}{T T':TypeId}{k:IntKind}{n n':Int}(hw:Wants ops S ⟨some d,.call ⟨.builtin .max,#[x,y],#[T,T']⟩,ty,pos,after,g⟩ true)
  (hx:evl K S x=.con (.int k n)) (hy:evl K S y=.con (.int k n')) (hN:Nat.blt d K.N=true) (kk:AOps K ops rest Q (S.put d (.con (.int k (if n'>n then n' else n))))):
  AOps K ops (⟨some d,.call ⟨.builtin .max,#[x,y],#[T,T']⟩,ty,pos,after,g⟩::rest) Q S:=
 aops_val _ hw hN (fun m β w a r=>⟨_,run_builtin rfl (by
  simp only[builtin,List.map_toArray,List.map_cons,List.map_nil,r.con hx,r.con hy]
  refine run_value (v:=.int k (if n'>n then n' else n)) ?_
  simp[Builtin.max_,Builtin.max2,pure]),.imm (.con _)⟩) kk
theorem aops_fieldC{d f off:Nat}{x:Operand}{T:TypeId}{cs:List V}(c:V)(hF:tyF K.P T f off=true)(hC:∃fs fl,K.P.underlying T=some (.struct fs)/\fs[f]? = some fl/\tyC K.P fl.type=true)
  (hw:Wants ops S ⟨some d,.field T x f,ty,pos,after,g⟩ true) (hx:evl K S x=.agg cs) (hc:cs[off]? = some c) (hN:Nat.blt d K.N=true)
  (kk:AOps K ops rest Q (S.put d c)):AOps K ops (⟨some d,.field T x f,ty,pos,after,g⟩::rest) Q S:=
 aops_val _ hw hN (fun m β w a r=>by
  have h:=r.reads x
  rw[hx] at h
  obtain⟨fs,fl,hu,hf,hcell⟩:=hC
  have hoff:fl.offset=off:=by
   unfold tyF at hF
   rw[hu] at hF
   simp only[hf,Bool.and_eq_true,beq_iff_eq] at hF
   exact hF.1
  have key:∃vs:Array Value,a.eval x=.agg vs/\∃v,vs[off]? = some v/\VRel m β c v:=by
   generalize a.eval x=u at h
   have get:∀vs:Array Value,cs.length=vs.size->∃v,vs[off]? = some v:=by
    intro vs hl
    have:off<vs.size:=by rw[<-hl];exact(List.getElem?_eq_some_iff.1 hc).1
    exact⟨vs[off],by simp[this]⟩
   cases h with
   |imm h=>cases h with
    |agg hl hh=>obtain⟨v,hv⟩:=get _ hl;exact⟨_,rfl,v,hv,.imm (hh _ _ _ hc hv)⟩
   |agg hl hh=>obtain⟨v,hv⟩:=get _ hl;exact⟨_,rfl,v,hv,hh _ _ _ hc hv⟩
  obtain⟨vs,e1,v,e2,e3⟩:=key
  refine⟨v,?_,e3⟩
  simp only[execOp,e1]
  refine run_value ?_
  simp only[Instr.field,Sem.run_bind,run_underlying hu,Result.andThen_ok,hf,asAgg,pure,Sem.run,part,(tyC_run hcell w).1,Bool.false_eq_true,if_false,hoff,e2]) kk
end
section
variable{K:Ctx}{Q:Post}{S S':St}{ops:Array Oper}{rest:List Oper}{op:Op}{ty:TypeId}{pos:String}{after:Array Edge}{g:Option (Nat×Bool)}
variable{m:Mem}{β:Locs}{w:World}{a:Act}
abbrev iV(n:Int):V:=.con (.int .i64 n)
abbrev bV(b:Bool):V:=.con (.bool b)
abbrev sV(l:List UInt8):V:=.con (str l)
abbrev nV:V:=.con (.slice none 0 0)
abbrev w64(n:Int):Int:=IntKind.wrap .i64 n
theorem awp_cond_t{c:Operand}{x y:Code}{b:Bool}(hc:evl K S c=.con (.bool b))(hb:b=true)(h:AWP K x Q S):AWP K (.cond c x y) Q S:=
 awp_cond b hc (fun _=>h) (fun hf=>by rw[hb] at hf;simp at hf)
theorem awp_cond_f{c:Operand}{x y:Code}{b:Bool}(hc:evl K S c=.con (.bool b))(hb:b=false)(h:AWP K y Q S):AWP K (.cond c x y) Q S:=
 awp_cond b hc (fun hf=>by rw[hb] at hf;simp at hf) (fun _=>h)
def jn{α β:Type}(k:α)(b:α->β):β:=b k
theorem chk_some{α:Type}{p:Prop}[Decidable p]{x:Option α}{r:α}(h:(if p then x else none)=some r):p/\x=some r:=by
 split at h
 ·exact⟨‹_›,h⟩
 ·simp at h
theorem bind_some{α β:Type}{o:Option α}{f:α->Option β}{r:β}(h:o.bind f=some r):∃x,o=some x/\f x=some r:=Option.bind_eq_some_iff.1 h
def idx{α:Type}(xs:List α)(n:Int):Option α:=if 0<=n then xs[n.toNat]? else none
theorem idx_some{α:Type}{xs:List α}{n:Int}{x:α}(h:idx xs n=some x):0<=n/\xs[n.toNat]? = some x:=by
 unfold idx at h
 split at h
 ·exact⟨‹_›,h⟩
 ·simp at h
theorem idx_map{α β:Type}{xs:List α}{n:Int}{x:α}(f:α->β)(h:idx xs n=some x):(xs.map f)[n.toNat]? = some (f x):=by
 rw[List.getElem?_map,(idx_some h).2];rfl
theorem idx_lt{α:Type}{xs:List α}{n:Int}{x:α}(h:idx xs n=some x):n.toNat<xs.length:=(List.getElem?_eq_some_iff.1 (idx_some h).2).1
theorem rows_imm{α:Type}{enc:α->List V}(h:∀x,Imms (enc x)){xs:List α}:∀row,row∈xs.map enc->Imms row:=by
 intro row hr
 obtain⟨x,_,rfl⟩:=List.mem_map.1 hr
 exact h x
theorem rows_one{α:Type}{enc:α->List V}(h:∀x,(enc x).all oneV=true){xs:List α}:∀row,row∈xs.map enc->row.all oneV=true:=by
 intro row hr
 obtain⟨x,_,rfl⟩:=List.mem_map.1 hr
 exact h x
theorem map_snoc{α β:Type}(f:α->β)(xs ys:List α):xs.map f++ys.map f=(xs++ys).map f:=List.map_append.symm
theorem ObSub.boxC{Y:Hy}{e k:Nat}{r r':List V}(hl:r.length=r'.length)(h:∀(j:Nat) c c',r[j]? = some c->r'[j]? = some c'->CSub Y c c'):ObSub Y (.arr e k [r]) (.arr e k [r']):=by
 refine⟨rfl,rfl,rfl,fun i a b h1 h2=>?_⟩
 cases i with
 |succ i=>simp at h1
 |zero=>
  simp at h1 h2
  subst h1;subst h2
  exact⟨hl,h⟩
theorem ObSub.box{Y:Hy}{e k:Nat}{r r':List V}(h:Subs Y r r')(hd:ndB r'=true:=by rfl):ObSub Y (.arr e k [r]) (.arr e k [r']):=
 .boxC h.len (fun j c c' h1 h2=>.sub (h.get j c c' h1 h2) (ndB_at hd h2))
theorem ObSub.rowsK{n:Nat}{σ:Nat->Nat}{e k:Nat}{rows:List (List V)}(h:∀row,row∈rows->Keeps row):ObSub (Ren n σ) (.arr e k rows) (.arr e k rows):=by
 refine⟨rfl,rfl,rfl,fun i a b h1 h2=>?_⟩
 rw[h1] at h2
 simp only[Option.some.injEq] at h2;subst h2
 refine⟨rfl,fun j c c' h3 h4=>?_⟩
 rw[h3] at h4
 simp only[Option.some.injEq] at h4;subst h4
 exact .same HyMC.h (Sub.kp (h a (List.mem_of_getElem? h1) c (List.mem_of_getElem? h3)))
theorem ObSub.rows{n:Nat}{σ:Nat->Nat}{e k:Nat}{rows:List (List V)}(h:∀row,row∈rows->Imms row):ObSub (Ren n σ) (.arr e k rows) (.arr e k rows):=.rowsK fun row hr=>(h row hr).keep
theorem ObSub.mapsK{n:Nat}{σ:Nat->Nat}{es:List (Value×V)}(h:∀p,p∈es->Keep p.2):ObSub (Ren n σ) (.map es) (.map es):=by
 refine⟨rfl,fun i a b h1 h2=>?_⟩
 rw[h1] at h2
 simp only[Option.some.injEq] at h2;subst h2
 exact⟨rfl,.same HyMC.h (Sub.kp (h a (List.mem_of_getElem? h1)))⟩
theorem ObSub.maps{n:Nat}{σ:Nat->Nat}{es:List (Value×V)}(h:∀p,p∈es->Imm p.2):ObSub (Ren n σ) (.map es) (.map es):=.mapsK fun p hp=>(h p hp).2
theorem ObSub.keep{Y:Hy}[HyMC Y](hk:∀v,Sub Y v v)(ob:Ob):ObSub Y ob ob:=.keep' HyMC.h (fun c=>.same HyMC.h (hk c)) ob
inductive OSteps(K:Ctx)(nx:Nat)(ops:Array Oper):List Oper->List OD->Prop
 |nil:OSteps K nx ops [] []
 |cons {o:Oper} {D:OD} {os:List Oper} {ds:List OD} (h:OStep K nx ops o D) (t:OSteps K nx ops os ds):OSteps K nx ops (o::os) (D::ds)
theorem OSteps.get{nx:Nat}{ops:Array Oper}{os:List Oper}{ds:List OD}(h:OSteps K nx ops os ds):∀(i:Nat) (o:Oper) (D:OD),os[i]? = some o->ds[i]? = some D->OStep K nx ops o D:=by
 induction h with
 |nil=>intro i o D h;simp at h
 |cons h _ ih=>
  intro i o D h1 h2
  cases i with
  |zero=>simp at h1 h2;subst h1;subst h2;exact h
  |succ i=>simp at h1 h2;exact ih i o D h1 h2
theorem awp_any{rid:Nat}{l:List Oper}(ds:List OD)(hm:K.P.follows .mixedOrders=true)(hlex:LexOk S ds)(hok:anyOk l ds=true)
  (hst:OSteps K S.nx l.toArray l ds) (hend:Q .normal (lexEnd S ds)):AWP K (.region rid l.toArray true) Q S:=awp_region_any ds hm hlex hok hst.get hend
theorem hpFrz{id k:Nat}{rows:List (List V)}{hp:Heap}(ob:Ob)(id2:Nat)(ho:ObSub (Frz id k rows) ob (hget hp id2)):
  ∀i,ObSub (Frz id k rows) (hget ((id,.dead)::(id2,ob)::hp) i) (hget hp i):=by
 intro i
 rw[hget_put]
 split
 ·simp[ObSub]
 ·rw[hget_put]
  split
  ·rename_i h;subst h;exact ho
  ·exact ObSub.keep (fun _=>Sub.keep) _
theorem hpFrz0{id k:Nat}{rows:List (List V)}{hp:Heap}:∀i,ObSub (Frz id k rows) (hget ((id,.dead)::hp) i) (hget hp i):=by
 intro i
 rw[hget_put]
 split
 ·simp[ObSub]
 ·exact ObSub.keep (fun _=>Sub.keep) _
theorem Sub.frzAll{id k n:Nat}{rows:List (List V)}(hn:n=rows.length):Sub (Frz id k rows) (.lst k rows) (.own id n):=Sub.frz (Nat.le_of_eq hn) (by rw[hn];simp)
theorem ghost_frzC(id id2:Nat){e k:Nat}{rows:List (List V)}(ob:Ob)(ho:hget S.hp id=.arr e k rows)(hi:∀row,row∈rows->Imms row)
  (hob:ObSub (Frz id k rows) ob (hget S.hp id2)):Ghost K S ⟨S.env,(id,.dead)::(id2,ob)::S.hp,S.nx⟩:=
 ghost_freeze id _ _ ho hi (fun _=>Sub.keep) (hpFrz ob id2 hob) (by simp[hget_put])
theorem ghost_frzP(id t:Nat){e k i o:Nat}{rows:List (List V)}{row:List V}(ho:hget S.hp id=.arr e k rows)(hi:∀row,row∈rows->Imms row)
  (ht:get S.env t=.ptr id k i o) (hr:rows[i]? = some row):Ghost K S ⟨(t,.iptr row o)::S.env,(id,.dead)::S.hp,S.nx⟩:=
 ghost_freeze id _ _ ho hi (envPut (fun _=>Sub.keep) (by rw[ht];exact Sub.frzptr hr)) hpFrz0 (by simp[hget_put])
theorem ghost_nilE(t e k:Nat)(ht:get S.env t=nV):Ghost K S ⟨(t,.own S.nx 0)::S.env,(S.nx,.arr e k [])::S.hp,S.nx+1⟩:=
 ghost_nil e k _ _ (envPut (fun _=>Sub.keepNil) (by rw[ht];exact Sub.mkNil)) (fun _=>ObSub.keep (fun _=>Sub.keepNil) _)
theorem ghost_nilC(id2 e k:Nat)(ob:Ob)(hob:ObSub (Nil S.nx) ob (hget S.hp id2)):Ghost K S ⟨S.env,(S.nx,.arr e k [])::(id2,ob)::S.hp,S.nx+1⟩:=
 ghost_nil e k _ _ (fun _=>Sub.keepNil) (fun i=>by
  rw[hget_put]
  split
  ·rename_i h;subst h;exact hob
  ·exact ObSub.keep (fun _=>Sub.keepNil) _)
end
end Go.Pv
