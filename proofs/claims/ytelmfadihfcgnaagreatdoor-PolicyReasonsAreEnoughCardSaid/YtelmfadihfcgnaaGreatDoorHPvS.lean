/- Part of the proof. -/
import Derived.Test.YtelmfadihfcgnaaGreatDoorHPvM
import Derived.Lib.Strings
set_option linter.unusedSimpArgs false
set_option linter.unusedVariables false
namespace Go.Pv
open Go
def gO{α:Type}(d:α):List (Nat×α)->Nat->α
 |[],_=>d
 |(k,v)::e,t=>if k=t then v else gO d e t
theorem dW(e:cc)(t:Nat):get e t=gO .any e t:=by
 induction e with
 |nil=>rfl
 |cons p e ih=>grind [cn,gO]
theorem dq(e:aC)(t:Nat):ak e t=gO .dead e t:=by
 induction e with
 |nil=>rfl
 |cons p e ih=>grind [av,gO]
def gW{α:Type}(t:Nat)(l:List (Nat×α)):Bool:=l.any fun p=>Nat.beq p.1 t
theorem eI{α:Type}(d:α)(l e:List (Nat×α))(t:Nat):gO d (l++e) t=if gW t l=true then gO d l t else gO d e t:=by
 induction l with
 |nil=>simp[gW]
 |cons p l ih=>
  obtain⟨k,v⟩:=p;simp only[List.cons_append,gO];by_cases h:k=t
  ·subst h;simp[gW]
  ·have hk:Nat.beq k t=false:=by cases hb:Nat.beq k t;rfl;exact absurd (ci9 hb) h
   have hs:gW t ((k,v)::l)=gW t l:=by simp[gW,hk]
   grind
theorem mU{α:Type}(d:α)(l e:List (Nat×α))(t:Nat)(h:gW t l=true):gO d (l++e) t=gO d l t:=by rw[eI,if_pos h]
def runs{α:Type}(p:Nat->Bool):Nat->List (List (Nat×α))->List (Nat×α)->List (Nat×α)
 |_,[],e=>e
 |i,u::us,e=>runs p (i+1) us (if p i then u++e else e)
theorem iu{α:Type}(d:α)(p:Nat->Bool)(t:Nat):∀(us:List (List (Nat×α))) (i:Nat) (e:List (Nat×α)),
  (∀j u,us[j]? = some u->gW t u=true->p (i+j)=false)->gO d (runs p i us e) t=gO d e t
 |[],_,_,_=>rfl
 |u::us,i,e,h=>by
  rw[runs,iu d p t us (i+1) _ (fun j u' hu hs=>by have:=h (j+1) u' (by grind) hs;grind)];split
  ·rename_i hp;rw[eI,if_neg];intro hs;have:=h 0 u rfl hs
   grind
  ·rfl
theorem dM{α:Type}(d:α)(p q:Nat->Bool)(t:Nat):∀(us:List (List (Nat×α))) (i:Nat) (e e':List (Nat×α)),gO d e t=gO d e' t->
  (∀j u,us[j]? = some u->gW t u=true->p (i+j)=q (i+j))->gO d (runs p i us e) t=gO d (runs q i us e') t
 |[],_,_,_,he,_=>he
 |u::us,i,e,e',he,h=>by
  rw[runs,runs];refine dM d p q t us (i+1) _ _ ?_ (fun j u' hu hs=>by have:=h (j+1) u' (by grind) hs;grind);by_cases hs:gW t u=true
  ·have:=h 0 u rfl hs;simp only[bg8] at this
   grind [mU]
  ·have:∀e,gO d (if p i then u++e else e) t=gO d e t:=by
    intro e;split
    ·rw[eI,if_neg hs]
    ·rfl
   rw[this]
   have:∀e,gO d (if q i then u++e else e) t=gO d e t:=by
    intro e;split
    ·rw[eI,if_neg hs]
    ·rfl
   grind
theorem pn{α:Type}(d:α)(p:Nat->Bool)(t:Nat):∀(us:List (List (Nat×α))) (i:Nat) (e:List (Nat×α)) (j:Nat) (u:List (Nat×α)),us[j]? = some u->gW t u=true->p (i+j)=true->
  (∀j' u',j<j'->us[j']? = some u'->gW t u'=true->p (i+j')=false)->gO d (runs p i us e) t=gO d u t
 |[],_,_,_,_,h,_,_,_=>by simp at h
 |u0::us,i,e,0,u,hu,hs,hp,hl=>by
  simp at hu;subst hu;simp only[bg8] at hp;rw[runs,if_pos hp,iu d p t us (i+1) _ (fun j u' hu' hs'=>by have:=hl (j+1) u' (by omega) (by grind) hs';grind),mU _ _ _ _ hs]
 |u0::us,i,e,j+1,u,hu,hs,hp,hl=>by
  rw[runs];refine pn d p t us (i+1) _ j u (by grind) hs (by grind) (fun j' u' hj' hu' hs'=>?_);have:=hl (j'+1) u' (by omega) (by grind) hs'
  grind
structure OD where
 re:List (Nat×V)
 rh:List (Nat×Ob)
 ue:List (Nat×V)
 uh:List (Nat×Ob)
def tz(e:cc):List (Nat×V)->Prop
 |[]=>True
 |(t,v)::r=>get e t=v/\tz e r
def lp(e:aC):List (Nat×Ob)->Prop
 |[]=>True
 |(t,v)::r=>ak e t=v/\lp e r
theorem tz.congr{e e':cc}:∀{l:List (Nat×V)},(∀t,gW t l=true->get e t=get e' t)->tz e l->tz e' l
 |[],_,_=>trivial
 |(t,v)::r,h,hr=>⟨by rw[<-h t (by simp[gW])];exact hr.1,tz.congr (fun t' ht'=>h t' (by simp_all[gW])) hr.2⟩
theorem lp.congr{e e':aC}:∀{l:List (Nat×Ob)},(∀t,gW t l=true->ak e t=ak e' t)->lp e l->lp e' l
 |[],_,_=>trivial
 |(t,v)::r,h,hr=>⟨by rw[<-h t (by simp[gW])];exact hr.1,lp.congr (fun t' ht'=>h t' (by simp_all[gW])) hr.2⟩
def St.upd(S:St)(D:OD):St:=⟨D.ue++S.env,D.uh++S.hp,S.nx⟩
def zk(K:cR)(nx:Nat)(ops:Array Oper)(o:Oper)(D:OD):Prop:=∀S,S.nx=nx->tz S.env D.re->lp S.hp D.rh->ay K ops [o] (fun e T=>e=.normal/\T=S.upd D) S
def tA(K:cR)(A:aC->Prop)(nx:Nat)(ops:Array Oper)(o:Oper)(D:OD):Prop:=∀S,S.nx=nx->A S.hp->tz S.env D.re->lp S.hp D.rh->ay K ops [o] (fun e T=>e=.normal/\T=S.upd D) S
def nz:St->List OD->Prop
 |_,[]=>True
 |S,D::ds=>tz S.env D.re/\lp S.hp D.rh/\nz (S.upd D) ds
def ef:St->List OD->St
 |S,[]=>S
 |S,D::ds=>ef (S.upd D) ds
theorem Le:∀(ds:List OD) (S:St) (j:Nat) (D:OD),nz S ds->ds[j]? = some D->
  tz (runs (fun i=>Nat.blt i j) 0 (ds.map (·.ue)) S.env) D.re/\lp (runs (fun i=>Nat.blt i j) 0 (ds.map (·.uh)) S.hp) D.rh:=by
 -- by the number of the first operation
 have key:∀(ds:List OD) (S:St) (k j:Nat) (D:OD),nz S ds->ds[j]? = some D->
   tz (runs (fun i=>Nat.blt i (k+j)) k (ds.map (·.ue)) S.env) D.re/\lp (runs (fun i=>Nat.blt i (k+j)) k (ds.map (·.uh)) S.hp) D.rh:=by
  intro ds
  induction ds with
  |nil=>grind
  |cons D0 ds ih=>
   intro S k j D hl h;obtain⟨h1,h2,h3⟩:=hl;cases j with
   |zero=>
    simp at h;subst h;simp only[bm9,bg8];constructor
    ·refine tz.congr (fun t _=>?_) h1;rw[dW,dW];refine(iu .any _ t _ k S.env ?_).symm;intro j u _ _;cases hb:Nat.blt (k+j) k;rfl;have:=ax8 hb;omega
    ·refine lp.congr (fun t _=>?_) h2;rw[dq,dq];refine(iu .dead _ t _ k S.hp ?_).symm;intro j u _ _;cases hb:Nat.blt (k+j) k;rfl;have:=ax8 hb;omega
   |succ j=>
    have hk:Nat.blt k (k+(j+1))=true:=cj9 (by omega);have:=ih (S.upd D0) (k+1) j D h3 (by grind);simp only[bm9,runs,hk,if_true];have e1:k+1+j=k+(j+1):=by omega
    rw[e1] at this;exact this
 grind
theorem wj:∀(ds:List OD) (S:St) (k:Nat),ef S ds=⟨runs (fun _=>true) k (ds.map (·.ue)) S.env,runs (fun _=>true) k (ds.map (·.uh)) S.hp,S.nx⟩
 |[],S,k=>rfl
 |D::ds,S,k=>by
  rw[ef,wj ds (S.upd D) (k+1)];simp[runs,St.upd]
def eZ(o:Oper):List Nat:=(o.after.toList.filter fun e=>Region.binds .any e).map (·.on)
def qY:List Oper->List (List Nat)->List (List Nat)
 |[],acc=>acc
 |o::os,acc=>qY os (acc++[eZ o++(eZ o).flatMap fun j=>acc.getD j []])
def jf{α β:Type}(l:List (Nat×α))(l':List (Nat×β)):Bool:=l.any fun p=>l'.any fun q=>Nat.beq p.1 q.1
def oM(D D':OD):Bool:=jf D.ue D'.re||jf D.ue D'.ue||jf D.re D'.ue||jf D.uh D'.rh||jf D.uh D'.uh||jf D.rh D'.uh
def qr(os:List Oper)(ds:List OD):Bool:=
 let A:=qY os []
 Nat.beq os.length ds.length &&
 (List.range os.length).all fun i=>(match os[i]? with|some o=>(eZ o).all fun j=>Nat.blt j i|none=>false) &&
  (List.range i).all fun j=>match ds[j]?,ds[i]? with|some D,some D'=>!oM D D'||(A.getD i []).any fun k=>Nat.beq k j|_,_=>false
def nR(os:List Oper)(ds:List OD)(nf:Nat):Bool:=
 let A:=qY os []
 Nat.ble ds.length os.length &&
 (List.range os.length).all fun i=>(match os[i]? with|some o=>(eZ o).all (fun j=>Nat.blt j i)|none=>false) &&
  (List.range i).all fun j=>match Nat.blt i ds.length with
   |true=>(match ds[j]?,ds[i]? with|some D,some D'=>!oM D D'||(A.getD i []).any fun k=>Nat.beq k j|_,_=>false)
   |false=>!Nat.blt j nf||(A.getD i []).any fun k=>Nat.beq k j
def xc(os:List Oper)(ds:List OD):Bool:=nR os ds ds.length
theorem oA{α β:Type}{l:List (Nat×α)}{l':List (Nat×β)}{t:Nat}(h:gW t l=true)(h':gW t l'=true):jf l l'=true:=by
 grind [gW,jf,Nat.eq_of_beq_eq_true]
theorem md{os:List Oper}{listed:Nat->Bool}:∀(rest:List Oper) (acc:List (List Nat)) (done:List Oper),os=done++rest->acc.length=done.length->
  (∀(i:Nat) (o:Oper),os[i]? = some o->listed i=true->∀j,j∈eZ o->listed j=true)->
  (∀(i:Nat) (l:List Nat),acc[i]? = some l->listed i=true->∀j,j∈l->listed j=true)->
  ∀(i:Nat) (l:List Nat),(qY rest acc)[i]? = some l->listed i=true->∀j,j∈l->listed j=true:=by
 intro rest
 induction rest with
 |nil=>intro acc done _ _ _ h;exact h
 |cons o rest ih=>
  intro acc done hos hlen hcl hacc;refine ih _ (done++[o]) (by simp[hos]) (by simp[hlen]) hcl ?_
  grind
section
variable{K:cR}{Q:ca}{S S':St}
variable{m:bB}{β:ba}{w:World}{a:Act}
theorem bX.congr(r:bX K m β w a S)(he:∀t,get S'.env t=get S.env t)(hh:∀t,ak S'.hp t=ak S.hp t)(hn:S'.nx=S.nx):bX K m β w a S':=
 ⟨r.imm,r.ext,r.mold,r.frame,r.size,r.same,r.tn,r.df,fun t=>by rw[he];exact r.env t,fun i=>by rw[hh];exact r.own i,fun i b c h=>r.priv i b c (by grind),
  fun i i' b c c' h h'=>r.inj i i' b c c' (by grind) (by grind),
  fun i x h hx=>let q:=r.hid i x (by grind) hx;⟨q.lt,q.m,q.old,fun i' b c h'=>q.ne i' b c (by grind),fun i' h'=>q.un i' (by grind)⟩,fun i h=>r.nx i (by grind),fun q hq=>by rw[hn];exact r.pin q hq⟩
set_option maxHeartbeats 4000000 in
theorem kV{A:aC->Prop}{rid:Nat}{l:List Oper}(ds:List OD)(hm:K.P.follows .mixedOrders=true)(hlex:nz S ds)(nf:Nat)(hnf:nf<=ds.length)(hok:nR l ds nf=true)(hA:∀p:Nat->Bool,A (runs p 0 (ds.map (·.uh)) S.hp))
  (hst:∀(i:Nat) (o:Oper) (D:OD),l[i]? = some o->ds[i]? = some D->tA K A S.nx l.toArray o D) (hend:∀(fuel:Nat) (listed:Array Bool) (m:bB) (β:ba) (w:World) (a:Act),listed.size=l.length->fuel+(listed.toList.filter id).length=l.length->(∀i,i<nf->listed.getD i false=true)->(∀i,ds.length<=i->listed.getD i false=false)->
   bX K m β w a ⟨runs (fun i=>listed.getD i false) 0 (ds.map (·.ue)) S.env,runs (fun i=>listed.getD i false) 0 (ds.map (·.uh)) S.hp,S.nx⟩->wpAnyIn K.fc 0 K.P .any l.toArray (Q.at K) fuel listed a w):iC K (.region rid l.toArray true) Q S:=by
 intro m β w a r;refine wpIn_region_any hm ?_;have r0:bX K m β { w with drawn:=w.drawn+1 } a S:=r.drawn (w.drawn+1) (al9 _)
 -- what 'anyOk' gW
 simp only[nR,aq9,aq8,cl8] at hok;obtain⟨hlen,hall⟩:=hok;have hlen:=ax8 hlen
 have hpre:∀(i:Nat) (o:Oper),l[i]? = some o->∀j,j∈eZ o->j<i:=by
  intro i o ho j hj;have hi:i<l.length:=(bd9.1 ho).1;have:=(hall i hi).1;rw[ho] at this;exact ax8 (aq8.1 this j hj)
 have hclash:∀(i j:Nat) (D D':OD),j<i->ds[j]? = some D->ds[i]? = some D'->oM D D'=true->j∈(qY l []).getD i []:=by
  intro i j D D' hji hD hD' hc;have hi0:i<ds.length:=(bd9.1 hD').1;have hi:i<l.length:=by omega
  have:=(hall i hi).2 j hji;rw[show Nat.blt i ds.length=true from cj9 hi0,hD,hD'] at this;simp only[hc,bv9,Bool.false_or,cf9] at this;obtain⟨k,hk,hkj⟩:=this;rw[<-ci9 hkj];exact hk
 -- what stands behind
 have hfirst:∀i,ds.length<=i->i<l.length->∀j,j<nf->j∈(qY l []).getD i []:=by
  intro i hge hn j hj;have:=(hall i hn).2 j (by omega)
  have hb:Nat.blt i ds.length=false:=by
   cases hb:Nat.blt i ds.length;rfl;have:=ax8 hb;omega
  rw[hb,show Nat.blt j nf=true from cj9 hj] at this;simp only[bv9,Bool.false_or,cf9] at this;obtain⟨k,hk,hkj⟩:=this;rw[<-ci9 hkj];exact hk
 let US:=ds.map (·.ue)
 let HS:=ds.map (·.uh)
 let St' (p:Nat->Bool):St:=⟨runs p 0 US S.env,runs p 0 HS S.hp,S.nx⟩
 have key:∀(fuel:Nat) (listed:Array Bool) (a:Act) (w:World),listed.size=l.length->fuel+(listed.toList.filter id).length=l.length->
   (∀(i:Nat) (o:Oper),l[i]? = some o->listed.getD i false=true->∀j,j∈eZ o->listed.getD j false=true)->
   ((∀i,ds.length<=i->listed.getD i false=false)/\∃m β,bX K m β w a (St' fun i=>listed.getD i false))->wpAnyIn K.fc 0 K.P .any l.toArray (Q.at K) fuel listed a w:=by
  -- all are listed: the end
  have hready:∀(listed:Array Bool) i,i∈Region.ready .any l.toArray listed<->i<l.length/\listed.getD i true=false/\∃o,l[i]? = some o/\∀j,j∈eZ o->listed.getD j false=true:=by
   intro listed i;simp only[Region.ready,bz9,cl8,bn8,bh8,aq9,ar9];constructor
   ·rintro⟨h1,h2,h3⟩
    refine⟨h1,h2,l[i],az9 h1,fun j hj=>?_⟩;rw[az9 h1] at h3;simp only[ba8,bx8,bh9] at h3;simp only[eZ,bf9,bz9] at hj
    grind [List.getElem_of_mem]
   ·rintro⟨h1,h2,o,ho,h3⟩
    refine⟨h1,h2,?_⟩;rw[ho];simp only[ba8,bx8,bh9]
    grind [eZ]
  have none_ready:∀(listed:Array Bool),listed.size=l.length->Region.ready .any l.toArray listed=[]->∀i,i<l.length->listed.getD i false=true:=by
   intro listed hsz hr i
   induction i using Nat.strongRecOn with
   |_ i ih=>
    grind
  have step:∀(listed:Array Bool) (i:Nat) (a:Act) (w:World) (K':Act->World->Prop),listed.size=l.length->
    (∀(i:Nat) (o:Oper),l[i]? = some o->listed.getD i false=true->∀j,j∈eZ o->listed.getD j false=true)->
    (∃m β,bX K m β w a (St' fun i=>listed.getD i false))->i∈Region.ready .any l.toArray listed->i<ds.length->
    (∀a w,(∃m β,bX K m β w a (St' fun j=>(listed.setIfInBounds i true).getD j false))->K' a w)->wpOpIn K.fc 0 K.P l.toArray (Q.at K) i K' a w:=by
   rintro listed i a w K' hsz hcl ⟨m,β,r⟩ hi hin hK
   rw[hready] at hi;obtain⟨hil,hli,o,ho,hpr⟩:=hi;obtain⟨D,hD⟩:∃D,ds[i]? = some D:=⟨ds[i]'(by omega),az9 (by omega)⟩
   have hlf:listed.getD i false=false:=by
    have hi':i<listed.size:=by omega
    simp only[bm8,bb8 hi',bx8] at hli ⊢;exact hli
   -- who stands ahead
   have anc:∀k,listed.getD k false=true->∀j,j∈(qY l []).getD k []->listed.getD j false=true:=by
    intro k hk j hj;cases hak:(qY l [])[k]? with
    |none=>grind
    |some L=>
     simp[hak] at hj;exact md (os:=l) (listed:=fun i=>listed.getD i false) l [] [] Y Y hcl (by simp) k L hak hk j hj
   have ancI:∀j,j∈(qY l []).getD i []->listed.getD j false=true:=by
    intro j hj
    have hcl':∀(k:Nat) (o':Oper),l[k]? = some o'->(listed.getD k false||Nat.beq k i)=true->∀j,j∈eZ o'->(listed.getD j false||Nat.beq j i)=true:=by
     intro k o' ho' hk j hj;rw[ar8] at hk ⊢;rcases hk with hk|hk
     ·grind
     ·grind [Nat.eq_of_beq_eq_true]
    cases hak:(qY l [])[i]? with
    |none=>grind
    |some L=>
     simp[hak] at hj;have h1:=md (os:=l) (listed:=fun k=>listed.getD k false||Nat.beq k i) l [] [] rfl rfl hcl' (by simp) i L hak (by simp[aj9]) j hj;simp only[ar8] at h1;rcases h1 with h1|h1
     ·exact h1
     ·exfalso
      -- nothing stands ahead of itself
      have hlt:∀(rest:List Oper) (acc:List (List Nat)) (done:List Oper),l=done++rest->acc.length=done.length->(∀(k:Nat) (L:List Nat),acc[k]? = some L->∀j,j∈L->j<k)->∀(k:Nat) (L:List Nat),(qY rest acc)[k]? = some L->∀j,j∈L->j<k:=by
       intro rest
       induction rest with
       |nil=>intro acc done _ _ h;exact h
       |cons o' rest ih=>
        intro acc done hos hl2 hacc;refine ih _ (done++[o']) (by simp[hos]) (by simp[hl2]) ?_;intro k L hk j hj;rw[bu9] at hk;split at hk
        ·grind
        ·have hk0:k - acc.length=0:=by
          cases hx:k - acc.length with
          |zero=>rfl
          |succ n=>grind
         rw[hk0] at hk;simp at hk;subst hk;have hkl:k=done.length:=by omega
         have ho'':l[k]? = some o':=by rw[hos,hkl];simp
         rcases bz8.1 hj with hj|hj
         ·grind
         ·simp only[ac8] at hj;obtain⟨q,hq,hjq⟩:=hj;have hqk:=hpre k o' ho'' q hq;cases haq:acc[q]?<;>grind
      have:=hlt l [] [] rfl rfl (by simp) i L hak j hj
      grind [Nat.eq_of_beq_eq_true]
   -- another one that clashes
   have other:∀(j:Nat) (D':OD),j≠i->ds[j]? = some D'->(oM D' D=true\/oM D D'=true)->(j<i->oM D' D=true)->(i<j->oM D D'=true)->(listed.getD j false=Nat.blt j i):=by
    intro j D' hne hD' _ h1 h2;rcases Nat.lt_or_gt_of_ne hne with hlt|hgt
    ·rw[ancI j (hclash i j D' D hlt hD' hD (h1 hlt))];exact(cj9 hlt).symm
    ·grind [Nat.blt,Nat.le_of_ble_eq_true]
   have hblt:Nat.blt i i=false:=by
    cases hb:Nat.blt i i;rfl;have:=ax8 hb;omega
   have clash_l:∀D1 D2:OD,(jf D1.ue D2.re=true\/jf D1.ue D2.ue=true\/jf D1.re D2.ue=true\/jf D1.uh D2.rh=true\/jf D1.uh D2.uh=true\/jf D1.rh D2.uh=true)->oM D1 D2=true:=by
    intro D1 D2 h;simp only[oM,ar8]
    grind
   obtain⟨lr,lh⟩:=Le ds S i D hlex hD
   -- the reads
   have hre:tz (runs (fun i=>listed.getD i false) 0 US S.env) D.re:=by
    refine tz.congr (fun t ht=>?_) lr;rw[dW,dW];refine dM _ _ _ t _ 0 _ _ Y fun j u hu hs=>?_;rw[ce9];simp only[az8] at hu;cases hDj:ds[j]? with
    |none=>grind
    |some D'=>
     grind [oA]
   have hrh:lp (runs (fun i=>listed.getD i false) 0 HS S.hp) D.rh:=by
    refine lp.congr (fun t ht=>?_) lh;rw[dq,dq];refine dM _ _ _ t _ 0 _ _ Y fun j u hu hs=>?_;rw[ce9];simp only[az8] at hu;cases hDj:ds[j]? with
    |none=>grind
    |some D'=>
     grind [oA]
   have hset:∀j,(listed.setIfInBounds i true).getD j false=if j=i then true else listed.getD j false:=by
    intro j;simp only[bm8,bq8];by_cases hji:i=j
    ·grind
    ·grind
   -- the writings
   have hwe:∀t,get (runs (fun j=>(listed.setIfInBounds i true).getD j false) 0 US S.env) t=get (D.ue++runs (fun j=>listed.getD j false) 0 US S.env) t:=by
    intro t;rw[dW,dW];by_cases hs:gW t D.ue=true
    ·rw[mU _ _ _ _ hs];refine pn _ _ t _ 0 _ i D.ue (by grind) hs (by grind) ?_;intro j u hj hu hs';rw[ce9,hset,if_neg (by omega)]
     grind [oA]
    ·rw[eI,if_neg hs];refine dM _ _ _ t _ 0 _ _ Y fun j u hu hs'=>?_;rw[ce9,hset]
     grind
   have hwh:∀t,ak (runs (fun j=>(listed.setIfInBounds i true).getD j false) 0 HS S.hp) t=ak (D.uh++runs (fun j=>listed.getD j false) 0 HS S.hp) t:=by
    intro t;rw[dq,dq];by_cases hs:gW t D.uh=true
    ·rw[mU _ _ _ _ hs];refine pn _ _ t _ 0 _ i D.uh (by grind) hs (by grind) ?_;intro j u hj hu hs';rw[ce9,hset,if_neg (by omega)]
     grind [oA]
    ·rw[eI,if_neg hs];refine dM _ _ _ t _ 0 _ _ Y fun j u hu hs'=>?_;rw[ce9,hset]
     grind
   have hstep:=hst i o D ho hD (St' fun i=>listed.getD i false) rfl (hA _) hre hrh m β w a r
   have hcont:∀a w,(∃m β,bX K m β w a ((St' fun i=>listed.getD i false).upd D))->K' a w:=by
    rintro a w ⟨m,β,r⟩
    exact hK a w ⟨m,β,r.congr hwe hwh Y⟩
   unfold wpListIn at hstep;unfold wpOpIn;simp only[bh8,ho]
   have conv:∀a w,wpListIn K.fc 0 K.P l.toArray (ca.at K fun e T=>e=.normal/\T=(St' fun i=>listed.getD i false).upd D) [] a w->K' a w:=by
    rintro a w ⟨_,T,m,β,⟨_,rfl⟩,r⟩
    exact hcont a w ⟨m,β,r⟩
   split
   ·rename_i hw;rw[if_pos hw] at hstep;obtain⟨hab,hstep⟩:=hstep;refine⟨hab,?_⟩;generalize (o.semAt K.fc.round a.eval).run K.P w=res at *;cases res with
    |ok n w'=>
     cases n<;>simp only[Oper.uponIn] at hstep ⊢
     ·grind
     ·grind
     ·exact⟨hstep.1,hstep.2.mono fun e w'' he=>by
       cases e with
       |returned v=>grind
       |panicked ch=>obtain⟨_,T,m,β,⟨h,_⟩,_⟩:=he;simp at h
       |outgrown=>obtain⟨a,w,h,_⟩:=he<;>grind⟩
     ·exact⟨hstep.1,hstep.2.mono fun e w'' he=>by
       cases e with
       |returned v=>grind
       |panicked ch=>obtain⟨_,T,m,β,⟨h,_⟩,_⟩:=he;simp at h
       |outgrown=>obtain⟨a,w,h,_⟩:=he<;>grind⟩
     ·grind
     ·exact⟨hstep.1,hstep.2.mono fun v w'' he=>conv _ _ he⟩
    |halt x w'=>
     cases x<;>simp only[Oper.uponIn] at hstep ⊢;obtain⟨_,T,m,β,⟨h,_⟩,_⟩:=hstep;simp at h
   ·grind
  intro fuel
  induction fuel with
  |zero=>
   intro listed a w hsz hcount hcl hr
   have hfull:∀i,i<l.length->listed.getD i false=true:=by
    intro i hi;have h1:(listed.toList.filter id).length=listed.toList.length:=by simp only[bk8];omega
    have h2:=List.length_filter_eq_length_iff.1 h1;have hi':i<listed.size:=by omega
    have:=h2 listed[i] (by simp);simp only[bm8,bb8 hi',bx8];exact this
   obtain⟨hr1,m,β,r⟩:=hr;exact hend 0 listed m β w a hsz hcount (fun i hi=>hfull i (by omega)) hr1 r
  |succ fuel ih=>
   intro listed a w hsz hcount hcl hr;by_cases hA:∀i,i<nf->listed.getD i false=true
   ·obtain⟨hr1,m,β,r⟩:=hr;exact hend _ listed m β w a hsz hcount hA hr1 r
   refine⟨fun h0=>absurd (fun i hi=>none_ready listed hsz h0 i (by omega)) hA,fun i hi=>?_⟩;have hready_i:=(hready listed i).1 hi
   have hin:i<ds.length:=by
    rcases bs8 i ds.length with h|hge
    ·exact h
    ·exfalso;apply hA;intro j hj;obtain⟨o,ho,hpr⟩:=hready_i.2.2;have hin:=hfirst i hge hready_i.1 j hj
     have hcl':∀(k:Nat) (o':Oper),l[k]? = some o'->(listed.getD k false||Nat.beq k i)=true->∀j,j∈eZ o'->(listed.getD j false||Nat.beq j i)=true:=by
      intro k o' ho' hk j hj;rw[ar8] at hk ⊢;rcases hk with hk|hk
      ·grind
      ·grind [Nat.eq_of_beq_eq_true]
     cases hak:(qY l [])[i]? with
     |none=>grind
     |some L=>
      simp[hak] at hin;have h1:=md (os:=l) (listed:=fun k=>listed.getD k false||Nat.beq k i) l [] [] rfl rfl hcl' (by simp) i L hak (by simp[aj9]) j hin;simp only[ar8] at h1
      grind [Nat.eq_of_beq_eq_true]
   refine step listed i a w _ hsz hcl hr.2 hi hin ?_;intro a w hr';have hi2:=(hready listed i).1 hi;have hi':i<listed.size:=by omega
   have hfalse:listed[i]=false:=by
    have:=hi2.2.1;simp only[bm8,bb8 hi',bx8] at this;exact this
   refine ih _ a w (by simp[hsz]) ?_ ?_ ⟨fun j hj=>by
    have hset:(listed.setIfInBounds i true).getD j false=listed.getD j false:=by
     simp only[bm8,bq8];rw[if_neg (by omega)]
    grind,hr'⟩
   ·have:((listed.setIfInBounds i true).toList.filter id).length=(listed.toList.filter id).length+1:=by
     rw[Array.toList_setIfInBounds]
     have gen:∀(L:List Bool) (i:Nat) (h:i<L.length),L[i]=false->((L.set i true).filter id).length=(L.filter id).length+1:=by
      intro L
      induction L with
      |nil=>grind
      |cons b L ihL=>
       intro i h hb;cases i with
       |zero=>grind
       |succ i=>
        simp only[List.set_cons_succ,aa8];have:=ihL i (by grind) (by grind);split<;>grind
     exact gen listed.toList i (by grind) (by grind)
    omega
   ·intro k o' ho' hk j hj
    have hset:∀j,(listed.setIfInBounds i true).getD j false=if j=i then true else listed.getD j false:=by
     intro j;simp only[bm8,bq8];by_cases hji:i=j
     ·grind
     ·grind
    rw[hset] at hk ⊢;split
    ·rfl
    ·by_cases hki:k=i
     ·subst hki;obtain⟨_,_,o'',ho'',hpr⟩:=hi2<;>grind
     grind
 refine key l.length (Array.replicate l.length false) a { w with drawn:=w.drawn+1 } (by simp) (by simp) ?_ ⟨fun i _=>by simp only[bm8,cf8];grind,?_⟩
 ·intro i o _ h;simp only[bm8,cf8] at h
  grind
 ·refine⟨m,β,r0.congr (fun t=>?_) (fun t=>?_) Y⟩
  ·rw[dW,dW];refine iu _ _ t _ 0 _ fun j u _ _=>?_;simp only[bm8,cf8];grind
  ·rw[dq,dq];refine iu _ _ t _ 0 _ fun j u _ _=>?_;simp only[bm8,cf8];grind
theorem qO{A:aC->Prop}{rid:Nat}{l:List Oper}(ds:List OD)(hm:K.P.follows .mixedOrders=true)(hlex:nz S ds)(hok:xc l ds=true)(hA:∀p:Nat->Bool,A (runs p 0 (ds.map (·.uh)) S.hp))
  (hst:∀(i:Nat) (o:Oper) (D:OD),l[i]? = some o->ds[i]? = some D->tA K A S.nx l.toArray o D) (hend:∀(listed:Array Bool) (m:bB) (β:ba) (w:World) (a:Act),listed.size=l.length->(∀i,listed.getD i false=Nat.blt i ds.length)->bX K m β w a (ef S ds)->wpAnyIn K.fc 0 K.P .any l.toArray (Q.at K) (l.length - ds.length) listed a w):iC K (.region rid l.toArray true) Q S:=by
 refine kV ds hm hlex ds.length (ae9 _) hok hA hst fun fuel listed m β w a hsz hcount h1 h2 r=>?_
 have hlen:ds.length<=l.length:=by
  simp only[xc,nR,aq9] at hok;exact ax8 hok.1
 let US:=ds.map (·.ue)
 let HS:=ds.map (·.uh)
 let St' (p:Nat->Bool):St:=⟨runs p 0 US S.env,runs p 0 HS S.hp,S.nx⟩
 have fin0:∀(listed:Array Bool) (a:Act) (w:World),(∀i,i<ds.length->listed.getD i false=true)->(∃m β,bX K m β w a (St' fun i=>listed.getD i false))->∃m β,bX K m β w a (ef S ds):=by
  rintro listed a w hl ⟨m,β,r⟩
  refine⟨m,β,?_⟩;rw[wj ds S 0];refine r.congr (fun t=>?_) (fun t=>?_) Y
  ·show get (runs (fun _=>true) 0 US S.env) t=get (runs (fun i=>listed.getD i false) 0 US S.env) t
   rw[dW,dW];refine dM _ _ _ t _ 0 _ _ Y fun j u hu _=>?_
   grind
  ·show ak (runs (fun _=>true) 0 HS S.hp) t=ak (runs (fun i=>listed.getD i false) 0 HS S.hp) t
   rw[dq,dq];refine dM _ _ _ t _ 0 _ _ Y fun j u hu _=>?_
   grind
 -- all that stands ahead is listed
 have cnt:∀(listed:Array Bool),listed.size=l.length->(∀i,listed.getD i false=Nat.blt i ds.length)->(listed.toList.filter id).length=ds.length:=by
  intro listed hsz h
  have:listed.toList=List.replicate ds.length true++List.replicate (l.length - ds.length) false:=by
   apply at9;intro i;have hi:=h i;simp only[bm8] at hi;by_cases h1:i<ds.length
   ·rw[at8 (by grind),List.getElem?_replicate,if_pos h1]
    grind [Nat.blt,Nat.ble_eq_true_of_le]
   ·rw[au9 (by grind),List.getElem?_replicate,ai9];by_cases h2:i<l.length
    ·rw[if_pos (by omega)];have hs:i<listed.size:=by omega
     have hb:Nat.blt i ds.length=false:=by
      cases hb:Nat.blt i ds.length;rfl;have:=ax8 hb;omega
     grind
    grind
  rw[this];simp
 have hl:∀i,listed.getD i false=Nat.blt i ds.length:=by
  intro i;by_cases hi:i<ds.length
  ·rw[h1 i hi];exact(cj9 hi).symm
  ·grind [Nat.blt,Nat.le_of_ble_eq_true]
 obtain⟨m,β,r⟩:=fin0 listed a w h1 ⟨m,β,r⟩;have hf:fuel=l.length - ds.length:=by rw[cnt listed hsz hl] at hcount;omega
 rw[hf];exact hend listed m β w a hsz hl r
theorem Cc{os:List Oper}{ds:List OD}(h:qr os ds=true):xc os ds=true/\os.length=ds.length:=by
 simp only[qr,aq9,aq8,cl8] at h;obtain⟨h1,h2⟩:=h;have h1:=ci9 h1;refine⟨?_,h1⟩;simp only[xc,nR,aq9,aq8,cl8]
 grind [Nat.ble_eq_true_of_le,Nat.blt]
theorem kW{A:aC->Prop}{rid:Nat}{l:List Oper}(ds:List OD)(hm:K.P.follows .mixedOrders=true)(hlex:nz S ds)(hok:qr l ds=true)(hA:∀p:Nat->Bool,A (runs p 0 (ds.map (·.uh)) S.hp))
  (hst:∀(i:Nat) (o:Oper) (D:OD),l[i]? = some o->ds[i]? = some D->tA K A S.nx l.toArray o D) (hend:Q .normal (ef S ds)):iC K (.region rid l.toArray true) Q S:=
 qO ds hm hlex (Cc hok).1 hA hst fun listed m β w a hsz hl r=>by
  have hlen:=(Cc hok).2;rw[hlen,Nat.sub_self];refine⟨?_,Y,_,m,β,hend,r⟩;cases hrd:Region.ready .any l.toArray listed with
  |nil=>rfl
  |cons i is=>
   have hi:i∈Region.ready .any l.toArray listed:=by rw[hrd];simp
   simp only[Region.ready,bz9,cl8,bn8,aq9,ar9] at hi
   grind [Nat.blt,Nat.ble_eq_true_of_le]
theorem tf{rid:Nat}{l:List Oper}(ds:List OD)(hm:K.P.follows .mixedOrders=true)(hlex:nz S ds)(hok:qr l ds=true)
  (hst:∀(i:Nat) (o:Oper) (D:OD),l[i]? = some o->ds[i]? = some D->zk K S.nx l.toArray o D) (hend:Q .normal (ef S ds)):iC K (.region rid l.toArray true) Q S:=
 kW (A:=fun _=>True) ds hm hlex hok (fun _=>trivial) (fun i o D h1 h2 S hn _=>hst i o D h1 h2 S hn) hend
end
section
variable{K:cR}{Q:ca}{S S':St}{ops:Array Oper}{rest:List Oper}{op:Op}{ty:TypeId}{pos:String}{after:Array Edge}{g:Option (Nat×Bool)}
variable{m:bB}{β:ba}{w:World}{a:Act}
abbrev str(l:B8):Value:=.string ⟨l.toArray⟩
def GK(op:BinOp)(a b:B8):Option Value:=
 match op with
 | .add=>if a.length+b.length<=9223372036854775807 then some (str (a++b)) else none
 | .eql=>some (.bool (a==b))
 | .neq=>some (.bool (!(a==b)))
 | .lss=>some (.bool (Op.bytesLess a b))
 | .leq=>some (.bool (Op.bytesLess a b||a==b))
 | .gtr=>some (.bool (!(Op.bytesLess a b||a==b)))
 | .geq=>some (.bool (!Op.bytesLess a b))
 |_=>none
theorem EU{P:Program}{w:World}{op:BinOp}{T:TypeId}{x y:Operand}{a b:B8}{v:Value}(h:GK op a b=some v):
  (do eqGuard op T x y (str a) (str b);binOp op T (str a) (str b):Sem Value).run P w=.ok v w:=by
 have hg:(eqGuard op T x y (str a) (str b)).run P w=.ok () w:=by
  unfold eqGuard;simp_all
 rw[Sem.run_bind,hg,Result.andThen_ok];cases op<;>simp only[GK,reduceCtorEq,ax9] at h
 all_goals simp only[binOp,Op.stringOp,ByteArray.toList_mk]
 case add=>
  split at h
  ·rename_i hl;simp only[ax9] at h;subst h;rw[if_neg]
   ·have:(⟨a.toArray⟩:ByteArray)++⟨b.toArray⟩=⟨(a++b).toArray⟩:=by
     apply ByteArray.ext;simp
    simp_all
   grind [ByteArray.size,IntKind.max,IntKind.bits]
  grind
 all_goals simp_all
theorem mS{d:Nat}{bop:BinOp}{x y:Operand}{T T':TypeId}{la lb:B8}(v:Value)(hw:aN ops S ⟨some d,.binOp bop T x y T',ty,pos,after,g⟩ true)
  (hx:evl K S x=.con (str la)) (hy:evl K S y=.con (str lb)) (hv:GK bop la lb=some v) (hN:Nat.blt d K.N=true)
  (k:ay K ops rest Q (S.put d (.con v))):ay K ops (⟨some d,.binOp bop T x y T',ty,pos,after,g⟩::rest) Q S:=
 aX (.con v) hw hN (fun m β w a r=>⟨v,by
  simp only[execOp,r.con hx,r.con hy];exact bk (EU hv),.imm (.con v)⟩) k
theorem Dl{d:Nat}{x:Operand}{T:TypeId}{l:B8}(hT:jO K.P T=true)
  (hw:aN ops S ⟨some d,.call ⟨.builtin .len,#[x],#[T]⟩,ty,pos,after,g⟩ true) (hx:evl K S x=.con (str l)) (hN:Nat.blt d K.N=true)
  (kk:ay K ops rest Q (S.put d (.con (.int .i64 l.length)))):
  ay K ops (⟨some d,.call ⟨.builtin .len,#[x],#[T]⟩,ty,pos,after,g⟩::rest) Q S:=
 w6 hT hw hx hN (by simp_all[ByteArray.size])
theorem qn{d:Nat}{x y:Operand}{T:TypeId}{l:B8}{ik:IntKind}{n:Int}(b:UInt8)(hT:jO K.P T=true)
  (hw:aN ops S ⟨some d,.index T x y,ty,pos,after,g⟩ true) (hx:evl K S x=.con (str l)) (hy:evl K S y=.con (.int ik n)) (h0:0<=n) (hb:l[n.toNat]? = some b)
  (hN:Nat.blt d K.N=true) (kk:ay K ops rest Q (S.put d (.con (.int .u8 b.toNat)))):
  ay K ops (⟨some d,.index T x y,ty,pos,after,g⟩::rest) Q S:=
 aX _ hw hN (fun m β w a r=>⟨.int .u8 b.toNat,by
  simp only[execOp,r.con hx,r.con hy];refine bk ?_;simp only[Instr.index,asIntOf,Sem.run_bind,pure,Sem.run,Result.andThen_ok,run_underlying (jN hT)];rw[if_pos h0]
  have:(⟨l.toArray⟩:ByteArray)[n.toNat]? = some b:=by
   have hl:n.toNat<(⟨l.toArray⟩:ByteArray).size:=by
    have:=(bd9.1 hb).1;simpa[ByteArray.size] using this
   rw[getElem?_pos (⟨l.toArray⟩:ByteArray) n.toNat hl];obtain⟨h1,h2⟩:=bd9.1 hb;rw[<-h2];rfl
  simp_all,.imm (.con _)⟩) kk
theorem lX{d:Nat}{x:Operand}{lo hi:Option Operand}{T:TypeId}{l:B8}(a0 b0:Nat)(l':B8)(hT:jO K.P T=true)
  (hw:aN ops S ⟨some d,.slice T x lo hi none,ty,pos,after,g⟩ true) (hx:evl K S x=.con (str l))
  (hlo:match lo with|none=>a0=0|some y=>∃ik,evl K S y=.con (.int ik a0)) (hhi:match hi with|none=>b0=l.length|some y=>∃ik,evl K S y=.con (.int ik b0))
  (h1:a0<=b0) (h2:b0<=l.length) (hl:(l.drop a0).take (b0 - a0)=l') (hN:Nat.blt d K.N=true) (kk:ay K ops rest Q (S.put d (.con (str l')))):
  ay K ops (⟨some d,.slice T x lo hi none,ty,pos,after,g⟩::rest) Q S:=
 aX _ hw hN (fun m β w a r=>⟨str l',by
  have hsz:(⟨l.toArray⟩:ByteArray).size=l.length:=by simp[ByteArray.size]
  have hu:=jN hT
  have hext:(⟨l.toArray⟩:ByteArray).extract a0 b0=⟨l'.toArray⟩:=by
   apply ByteArray.ext;have:=Lib.extract_toList (⟨l.toArray⟩:ByteArray) a0 b0;rw[ByteArray.toList_eq] at this;apply as8
   grind
  have bnd:∀(n y:Nat) (c:BoundsCode) (ik:IntKind),n<=y->(Instr.sliceBound (.int ik n) y c).run K.P w=.ok n w:=by
   intro n y c ik h;simp only[Instr.sliceBound,asIntOf,Sem.run_bind,pure,Sem.run,Result.andThen_ok];rw[if_pos ⟨by omega,by omega⟩];simp
  simp only[execOp,r.con hx];refine bk ?_
  have hs:(Instr.slice T (str l) (lo.map a.eval) (hi.map a.eval) none).run K.P w=.ok (str l') w:=by
   simp only[Instr.slice,Sem.run_bind,run_underlying hu,Result.andThen_ok,Option.isSome_none,cj8,if_false,hsz]
   have hb:(Instr.sliceBounds false l.length l.length (lo.map a.eval) (hi.map a.eval) none).run K.P w=.ok (a0,b0,l.length) w:=by
    cases lo with
    |none=>
     simp only at hlo;subst hlo;cases hi with
     |none=>simp_all[Instr.sliceBounds]
     |some y=>
      obtain⟨ik,hy⟩:=hhi;simp only[Instr.sliceBounds,aj8,ba8,r.con hy,Sem.run_bind,pure,Sem.run,Result.andThen_ok,bnd b0 _ _ ik h2,cj8,if_false]
    |some z=>
     obtain⟨ik,hz⟩:=hlo;cases hi with
     |none=>simp only at hhi;subst hhi;simp[Instr.sliceBounds,pure,r.con hz,bnd a0 _ _ ik h1]
     |some y=>
      obtain⟨ik',hy⟩:=hhi;simp[Instr.sliceBounds,pure,r.con hz,r.con hy,bnd a0 _ _ ik h1,bnd b0 _ _ ik' h2]
   rw[hb];simp only[Result.andThen_ok,hext];rfl
  simp_all[Instr.sliceAt,run_underlying],.imm (.con _)⟩) kk
theorem iR{d k:Nat}{x:Operand}{lo hi:Option Operand}{T:TypeId}{rows:List (List V)}(a0 b0:Nat)(rows':List (List V))(hT:mW K.P T k=true)
  (hw:aN ops S ⟨some d,.slice T x lo hi none,ty,pos,after,g⟩ true) (hx:evl K S x=.lst k rows)
  (hlo:match lo with|none=>a0=0|some y=>∃ik,evl K S y=.con (.int ik a0)) (hhi:match hi with|none=>b0=rows.length|some y=>∃ik,evl K S y=.con (.int ik b0))
  (h1:a0<=b0) (h2:b0<=rows.length) (hl:(rows.drop a0).take (b0 - a0)=rows') (hN:Nat.blt d K.N=true) (kk:ay K ops rest Q (S.put d (.lst k rows'))):
  ay K ops (⟨some d,.slice T x lo hi none,ty,pos,after,g⟩::rest) Q S:=
 aX _ hw hN (fun m β w a r=>by
  obtain⟨e,i,hu,hi',hs⟩:=rP hT;have hk:K.P.cellsOf e=k:=by simp[Program.cellsOf,hi',hs]
  have h:=r.reads x;rw[hx] at h
  have bnd:∀(n y:Nat) (c:BoundsCode) (ik:IntKind),n<=y->(Instr.sliceBound (.int ik n) y c).run K.P w=.ok n w:=by
   intro n y c ik h;simp only[Instr.sliceBound,asIntOf,Sem.run_bind,pure,Sem.run,Result.andThen_ok];rw[if_pos ⟨by omega,by omega⟩];simp
  have hb:∀cap,rows.length<=cap->(Instr.sliceBounds true rows.length cap (lo.map a.eval) (hi.map a.eval) none).run K.P w=.ok (a0,b0,cap) w:=by
   intro cap hcap;cases lo with
   |none=>
    simp only at hlo;subst hlo;cases hi with
    |none=>simp_all[Instr.sliceBounds]
    |some y=>
     obtain⟨ik,hy⟩:=hhi;simp[Instr.sliceBounds,pure,r.con hy,bnd b0 cap _ ik (by omega)]
   |some z=>
    obtain⟨ik,hz⟩:=hlo;cases hi with
    |none=>simp only at hhi;subst hhi;simp[Instr.sliceBounds,pure,r.con hz,bnd a0 _ _ ik h1]
    |some y=>
     obtain⟨ik',hy⟩:=hhi;simp[Instr.sliceBounds,pure,r.con hz,r.con hy,bnd a0 _ _ ik h1,bnd b0 cap _ ik' (by omega)]
  have hrun:∀ad n cap,a.eval x=.slice ad n cap->n=rows.length->rows.length<=cap->
    (execOp a.eval ⟨some d,.slice T x lo hi none,ty,pos,after,g⟩).run K.P w=.ok (.value (.slice (if cap=a0 then ad else ad.map (·.add (a0*k))) (b0 - a0) (cap - a0))) w:=by
   intro ad n cap hv hn hcap;subst hn;simp only[execOp,hv];refine bk ?_;simp only[Instr.sliceAt,Sem.run_bind,run_underlying hu,Result.andThen_ok,aj8,Instr.slice,hb cap hcap,run_sizeOf w hi',hk];rfl
  generalize hv:a.eval x=v at h;cases h with
  |imm h=>
   cases h with
   |nil _ ad cap=>
    have:rows'=[]:=by rw[<-hl];simp
    subst this;simp only[bs9] at h2;have:b0 - a0=0:=by omega
    exact⟨_,hrun ad 0 cap hv Y (by simp),by rw[this];exact .imm (.nil k _ _)⟩
   | @lst _ _ ad n cap arr T' fr f hm hsp hn hcap hbd hkk hf h=>
    subst hn;refine⟨_,hrun (some ad) _ cap hv Y hcap,?_⟩;by_cases hc:cap=a0
    ·have h3:b0 - a0=0:=by omega
     have:rows'=[]:=by rw[<-hl,h3];simp
     subst this;rw[h3];exact .imm (.nil k _ _)
    ·rw[if_neg hc]
     have had:(some ad).map (·.add (a0*k))=some ⟨ad.block,ad.off+a0*k,none⟩:=by
      simp only[ba8];rw[iX hsp,dX]
     rw[had];have hlen:rows'.length=b0 - a0:=by rw[<-hl];simp;omega
     refine .imm (.lst (fun p=>f (a0*k+p)) hm Y hlen (by omega) (by omega) (fun row hr=>hkk row (by grind)) ?_ ?_)
     ·intro p hp;simp only;rw[af9];refine hf _ ?_
      calc a0*k+p<a0*k+rows'.length*k:=by omega
       _=(a0+rows'.length)*k:=by grind
       _<=rows.length*k:=bg9 _ (by omega)
     grind) kk
theorem xa{d:Nat}{x:Operand}{src dst:TypeId}{k k':IntKind}{n:Int}(hd:K.P.underlying dst=some (.int k))(hs:∃t,K.P.underlying src=some t)
  (hw:aN ops S ⟨some d,.convert src dst x,ty,pos,after,g⟩ true) (hx:evl K S x=.con (.int k' n)) (hN:Nat.blt d K.N=true)
  (kk:ay K ops rest Q (S.put d (.con (.int k (k.wrap n))))):ay K ops (⟨some d,.convert src dst x,ty,pos,after,g⟩::rest) Q S:=
 aX _ hw hN (fun m β w a r=>⟨.int k (k.wrap n),by
  obtain⟨t,ht⟩:=hs;simp only[execOp,r.con hx]
  simp_all[convert,run_underlying,Conv.intToInt],.imm (.con _)⟩) kk
theorem GX{d:Nat}{x y:Operand}{T T':TypeId}{k:IntKind}{n n':Int}(hw:aN ops S ⟨some d,.call ⟨.builtin .min,#[x,y],#[T,T']⟩,ty,pos,after,g⟩ true)
  (hx:evl K S x=.con (.int k n)) (hy:evl K S y=.con (.int k n')) (hN:Nat.blt d K.N=true) (kk:ay K ops rest Q (S.put d (.con (.int k (if n'<n then n' else n))))):
  ay K ops (⟨some d,.call ⟨.builtin .min,#[x,y],#[T,T']⟩,ty,pos,after,g⟩::rest) Q S:=
 aX _ hw hN (fun m β w a r=>⟨_,dK rfl (by
  simp only[builtin,bl8,bm9,ap8,r.con hx,r.con hy]
  simp_all[Builtin.min_,Builtin.min2]),.imm (.con _)⟩) kk
theorem GY{d:Nat}{x y:Operand}{T T':TypeId}{k:IntKind}{n n':Int}(hw:aN ops S ⟨some d,.call ⟨.builtin .max,#[x,y],#[T,T']⟩,ty,pos,after,g⟩ true)
  (hx:evl K S x=.con (.int k n)) (hy:evl K S y=.con (.int k n')) (hN:Nat.blt d K.N=true) (kk:ay K ops rest Q (S.put d (.con (.int k (if n'>n then n' else n))))):
  ay K ops (⟨some d,.call ⟨.builtin .max,#[x,y],#[T,T']⟩,ty,pos,after,g⟩::rest) Q S:=
 aX _ hw hN (fun m β w a r=>⟨_,dK rfl (by
  simp only[builtin,bl8,bm9,ap8,r.con hx,r.con hy]
  simp_all[Builtin.max_,Builtin.max2]),.imm (.con _)⟩) kk
theorem zc{d f off:Nat}{x:Operand}{T:TypeId}{cs:List V}(c:V)(hF:HL K.P T f off=true)(hC:∃fs fl,K.P.underlying T=some (.struct fs)/\fs[f]? = some fl/\ri K.P fl.type=true)
  (hw:aN ops S ⟨some d,.field T x f,ty,pos,after,g⟩ true) (hx:evl K S x=.agg cs) (hc:cs[off]? = some c) (hN:Nat.blt d K.N=true)
  (kk:ay K ops rest Q (S.put d c)):ay K ops (⟨some d,.field T x f,ty,pos,after,g⟩::rest) Q S:=
 aX _ hw hN (fun m β w a r=>by
  have h:=r.reads x;rw[hx] at h;obtain⟨fs,fl,hu,hf,hcell⟩:=hC
  have hoff:fl.offset=off:=by
   unfold HL at hF;rw[hu] at hF;simp only[hf,aq9,beq_iff_eq] at hF;exact hF.1
  have key:∃vs:Array Value,a.eval x=.agg vs/\∃v,vs[off]? = some v/\br m β c v:=by
   generalize a.eval x=u at h
   have get:∀vs:Array Value,cs.length=vs.size->∃v,vs[off]? = some v:=by
    intro vs hl;have:off<vs.size:=by rw[<-hl];exact(bd9.1 hc).1
    exact⟨vs[off],by simp[this]⟩
   cases h with
   |imm h=>cases h with
    |agg hl hh=>obtain⟨v,hv⟩:=get _ hl;exact⟨_,Y,v,hv,.imm (hh _ _ _ hc hv)⟩
   |agg hl hh=>grind
  obtain⟨vs,e1,v,e2,e3⟩:=key<;>simp_all[execOp,Instr.field,run_underlying,asAgg,part,mC]) kk
end
section
variable{K:cR}{Q:ca}{S S':St}{ops:Array Oper}{rest:List Oper}{op:Op}{ty:TypeId}{pos:String}{after:Array Edge}{g:Option (Nat×Bool)}
variable{m:bB}{β:ba}{w:World}{a:Act}
abbrev iV(n:Int):V:=.con (.int .i64 n)
abbrev bV(b:Bool):V:=.con (.bool b)
abbrev sV(l:B8):V:=.con (str l)
abbrev nV:V:=.con (.slice none 0 0)
abbrev bE(n:Int):Int:=IntKind.wrap .i64 n
theorem AO{c:Operand}{x y:Code}{b:Bool}(hc:evl K S c=.con (.bool b))(hb:b=true)(h:iC K x Q S):iC K (.cond c x y) Q S:=
 oQ b hc (fun _=>h) (fun hf=>by grind)
theorem AP{c:Operand}{x y:Code}{b:Bool}(hc:evl K S c=.con (.bool b))(hb:b=false)(h:iC K y Q S):iC K (.cond c x y) Q S:=
 oQ b hc (fun hf=>by grind) (fun _=>h)
def jn{α β:Type}(k:α)(b:α->β):β:=b k
theorem GG{α:Type}{p:Prop}[Decidable p]{x:Option α}{r:α}(h:(if p then x else none)=some r):p/\x=some r:=by
 grind
theorem bind_some{α β:Type}{o:Option α}{f:α->Option β}{r:β}(h:o.bind f=some r):∃x,o=some x/\f x=some r:=Option.bind_eq_some_iff.1 h
def ct{α:Type}(xs:List α)(n:Int):Option α:=if 0<=n then xs[n.toNat]? else none
theorem gG{α:Type}{xs:List α}{n:Int}{x:α}(h:ct xs n=some x):0<=n/\xs[n.toNat]? = some x:=by
 simp_all[ct]
theorem g7{α β:Type}{xs:List α}{n:Int}{x:α}(f:α->β)(h:ct xs n=some x):(xs.map f)[n.toNat]? = some (f x):=by
 simp_all[gG]
theorem Li{α:Type}{xs:List α}{n:Int}{x:α}(h:ct xs n=some x):n.toNat<xs.length:=(bd9.1 (gG h).2).1
theorem ao{α:Type}{enc:α->List V}(h:∀x,cv (enc x)){xs:List α}:∀row,row∈xs.map enc->cv row:=by
 grind
theorem dt{α:Type}{enc:α->List V}(h:∀x,(enc x).all dF=true){xs:List α}:∀row,row∈xs.map enc->row.all dF=true:=by
 grind
theorem dV{α β:Type}(f:α->β)(xs ys:List α):xs.map f++ys.map f=(xs++ys).map f:=cm8.symm
theorem map_set{α β:Type}(f:α->β)(xs:List α)(i:Nat)(x:α):(xs.map f).set i (f x)=(xs.set i x).map f:=List.map_set.symm
theorem ag.boxC{Yo:Hy}{e k:Nat}{r r':List V}(hl:r.length=r'.length)(h:∀(j:Nat) c c',r[j]? = some c->r'[j]? = some c'->jb Yo c c'):ag Yo (.arr e k [r]) (.arr e k [r']):=by
 refine⟨Y,Y,Y,fun i a b h1 h2=>?_⟩
 grind
theorem ag.box{Yo:Hy}{e k:Nat}{r r':List V}(h:ia Yo r r')(hd:uQ r'=true:=by rfl):ag Yo (.arr e k [r]) (.arr e k [r']):=
 .boxC h.len (fun j c c' h1 h2=>.sub (h.get j c c' h1 h2) (jv hd h2))
theorem ag.rowsK{n:Nat}{σ:Nat->Nat}{e k:Nat}{rows:List (List V)}(h:∀row,row∈rows->i5 row):ag (Ren n σ) (.arr e k rows) (.arr e k rows):=by
 refine⟨Y,Y,Y,fun i a b h1 h2=>?_⟩;rw[h1] at h2;simp only[ax9] at h2;subst h2;refine⟨Y,fun j c c' h3 h4=>?_⟩;rw[h3] at h4;simp only[ax9] at h4;subst h4;exact .same jI.h (ai.kp (h a (ay9 h1) c (ay9 h3)))
theorem ag.rows{n:Nat}{σ:Nat->Nat}{e k:Nat}{rows:List (List V)}(h:∀row,row∈rows->cv row):ag (Ren n σ) (.arr e k rows) (.arr e k rows):=.rowsK fun row hr=>(h row hr).keep
theorem ag.mapsK{n:Nat}{σ:Nat->Nat}{es:List (Value×V)}(h:∀p,p∈es->dC p.2):ag (Ren n σ) (.map es) (.map es):=by
 refine⟨Y,fun i a b h1 h2=>?_⟩;rw[h1] at h2;simp only[ax9] at h2;subst h2;exact⟨Y,.same jI.h (ai.kp (h a (ay9 h1)))⟩
theorem ag.maps{n:Nat}{σ:Nat->Nat}{es:List (Value×V)}(h:∀p,p∈es->aw p.2):ag (Ren n σ) (.map es) (.map es):=.mapsK fun p hp=>(h p hp).2
theorem ag.keep{Yo:Hy}[jI Yo](hk:∀v,ai Yo v v)(ob:Ob):ag Yo ob ob:=.keep' jI.h (fun c=>.same jI.h (hk c)) ob
inductive nT(K:cR)(nx:Nat)(ops:Array Oper):List Oper->List OD->Prop
 |nil:nT K nx ops [] []
 |cons {o:Oper} {D:OD} {os:List Oper} {ds:List OD} (h:zk K nx ops o D) (t:nT K nx ops os ds):nT K nx ops (o::os) (D::ds)
theorem nT.get{nx:Nat}{ops:Array Oper}{os:List Oper}{ds:List OD}(h:nT K nx ops os ds):∀(i:Nat) (o:Oper) (D:OD),os[i]? = some o->ds[i]? = some D->zk K nx ops o D:=by
 induction h<;>grind
theorem IW{rid:Nat}{l:List Oper}(ds:List OD)(hm:K.P.follows .mixedOrders=true)(hlex:nz S ds)(hok:qr l ds=true)
  (hst:nT K S.nx l.toArray l ds) (hend:Q .normal (ef S ds)):iC K (.region rid l.toArray true) Q S:=tf ds hm hlex hok hst.get hend
theorem Nr{id k:Nat}{rows:List (List V)}{hp:aC}(ob:Ob)(id2:Nat)(ho:ag (Dy id k rows) ob (ak hp id2)):
  ∀i,ag (Dy id k rows) (ak ((id,.dead)::(id2,ob)::hp) i) (ak hp i):=by
 grind [av,ag,ag.keep,ai.keep]
theorem wB{id k:Nat}{rows:List (List V)}{hp:aC}:∀i,ag (Dy id k rows) (ak ((id,.dead)::hp) i) (ak hp i):=by
 grind [av,ag,ag.keep,ai.keep]
theorem ai.frzAll{id k n:Nat}{rows:List (List V)}(hn:n=rows.length):ai (Dy id k rows) (.lst k rows) (.own id n):=ai.frz (Nat.le_of_eq hn) (by grind)
theorem nJ(id t:Nat){e k n:Nat}{rows:List (List V)}(ho:ak S.hp id=.arr e k rows)(hi:∀row,row∈rows->cv row)
  (ht:get S.env t=.own id n) (hn:n=rows.length):aY K S ⟨(t,.lst k rows)::S.env,(id,.dead)::S.hp,S.nx⟩:=
 fK id _ _ ho hi (pF (fun _=>ai.keep) (by simp_all[ai.frzAll])) wB (by simp[av])
theorem dO(id id2:Nat){e k:Nat}{rows:List (List V)}(ob:Ob)(ho:ak S.hp id=.arr e k rows)(hi:∀row,row∈rows->cv row)
  (hob:ag (Dy id k rows) ob (ak S.hp id2)):aY K S ⟨S.env,(id,.dead)::(id2,ob)::S.hp,S.nx⟩:=
 fK id _ _ ho hi (fun _=>ai.keep) (Nr ob id2 hob) (by simp[av])
theorem kB(id t:Nat){e k i o:Nat}{rows:List (List V)}{row:List V}(ho:ak S.hp id=.arr e k rows)(hi:∀row,row∈rows->cv row)
  (ht:get S.env t=.ptr id k i o) (hr:rows[i]? = some row):aY K S ⟨(t,.iptr row o)::S.env,(id,.dead)::S.hp,S.nx⟩:=
 fK id _ _ ho hi (pF (fun _=>ai.keep) (by simp_all[ai.frzptr])) wB (by simp[av])
theorem ey(t e k:Nat)(ht:get S.env t=nV):aY K S ⟨(t,.own S.nx 0)::S.env,(S.nx,.arr e k [])::S.hp,S.nx+1⟩:=
 va e k _ _ (pF (fun _=>ai.keepNil) (by grind [ai.mkNil])) (fun _=>ag.keep (fun _=>ai.keepNil) _)
theorem fq(id2 e k:Nat)(ob:Ob)(hob:ag (HB S.nx) ob (ak S.hp id2)):aY K S ⟨S.env,(S.nx,.arr e k [])::(id2,ob)::S.hp,S.nx+1⟩:=
 va e k _ _ (fun _=>ai.keepNil) (fun i=>by
  grind [av,ag.keep,ai.keepNil])
end
section
variable{K:cR}{Q:ca}{S S':St}{ops:Array Oper}{rest:List Oper}{op:Op}{ty:TypeId}{pos:String}{after:Array Edge}{g:Option (Nat×Bool)}
variable{m:bB}{β:ba}{w:World}{a:Act}
theorem bH:([]:List Operand).map (evl K S)=[]:=rfl
theorem aL{x:Operand}{v:V}{xs:List Operand}{vs:List V}(h:evl K S x=v)(t:xs.map (evl K S)=vs):(x::xs).map (evl K S)=v::vs:=by grind
theorem bq:([]:List (Nat×Operand)).map (fun p=>(p.1,evl K S p.2))=[]:=rfl
theorem aF{i:Nat}{x:Operand}{v:V}{xs:List (Nat×Operand)}{vs:List (Nat×V)}(h:evl K S x=v)(t:xs.map (fun p=>(p.1,evl K S p.2))=vs):
  ((i,x)::xs).map (fun p=>(p.1,evl K S p.2))=(i,v)::vs:=by grind
theorem Pf{first captured vs:List V}{xs:List Operand}(h:xs.map (evl K S)=vs):first++xs.map (evl K S)++captured=first++vs++captured:=by rw[h]
inductive rH:List (List V)->Prop
 |nil:rH []
 |cons {r:List V} {rs:List (List V)} (h:cv r) (t:rH rs):rH (r::rs)
theorem cF{rows:List (List V)}(h:rH rows):∀row,row∈rows->cv row:=by
 induction h<;>simp_all
def bM{α β:Type}[DecidableEq α]:List (α×β)->α->β->List (α×β)
 |[],k,v=>[(k,v)]
 |p::r,k,v=>if p.1=k then (k,v)::r else p::bM r k v
def aG{α β:Type}[DecidableEq α]:List (α×β)->α->Option β
 |[],_=>none
 |p::r,k=>if p.1=k then some p.2 else aG r k
theorem r7{α β:Type}[DecidableEq α]{kv:α->Value}{ev:β->V}(hinj:∀a b,kv a=kv b->a=b)(xs:List (α×β))(k:α)(v:β):
  ic (kv k) (ev v) (xs.map fun p=>(kv p.1,ev p.2)) ((bM xs k v).map fun p=>(kv p.1,ev p.2)):=by
 induction xs with
 |nil=>exact .nil
 |cons p r ih=>
  simp only[bm9,bM];split
  ·rename_i h;subst h;exact .here
  ·rename_i h;exact .there (fun e=>h (hinj _ _ e)) ih
theorem lF{α β:Type}[DecidableEq α]{kv:α->Value}{ev:β->V}(hinj:∀a b,kv a=kv b->a=b)(xs:List (α×β))(k:α):
  i4 (kv k) (xs.map fun p=>(kv p.1,ev p.2)) ((aG xs k).map ev):=by
 induction xs with
 |nil=>exact .nil
 |cons p r ih=>
  simp only[bm9,aG];split
  ·rename_i h;subst h;exact .here
  ·rename_i h;exact .there (fun e=>h (hinj _ _ e)) ih
theorem ez{β:Type}(ev:β->V)(o:Option β)(z:β):(o.map ev).getD (ev z)=ev (o.getD z):=by simp_all
theorem An{β:Type}(ev:β->V)(o:Option β):(o.map ev).isSome=o.isSome:=by cases o<;>rfl
theorem Im{k:IntKind}:∀a b:Int,(Value.int k a)=.int k b->a=b:=by grind
theorem el:∀a b:B8,str a=str b->a=b:=by
 grind
theorem E4(r:bX K m β w a S)(id:Nat){es:List (Value×V)}(ho:ak S.hp id=.map es)(hi:∀p,p∈es->aw p.2):
  ∃m',(∀(b:Nat) o,m' b=some o->w.heap[b]? = some o)/\m.le m'/\(∀x,br m β (.map id) x->bN m' (.imap es) x)/\(∀b,b<K.w0.heap.size->K.old b->m' b=K.m0 b)/\
   ∀b,m' b=m b\/∃cap,β id=some (some (b,cap)):=by
 have hown:=r.own id;rw[ho] at hown;cases hb:β id with
 |none=>simp_all[bn]
 |some l=>
 cases l with
 |none=>simp_all[bn]
 |some p=>
 obtain⟨b,cap⟩:=p;rw[hb] at hown;obtain⟨ents,clock,bl,h1,h2,hBl,h3⟩:=hown;have hp':=r.priv id b cap (by grind) hb;obtain⟨E,hE,hvE,hwf⟩:=h1
 let m':bB:=fun b'=>if b'=b then some (.map E clock) else m b'
 have hle:m.le m':=by
  intro b' o h;have:b'≠b:=by intro e';subst e';rw[hp'.1] at h;simp at h
  simp[m',this,h]
 refine⟨m',?_,hle,?_,?_,?_⟩
 ·intro b' o h;by_cases hbb:b'=b
  ·grind
  ·simp[m',hbb] at h;exact r.imm _ _ h
 ·intro x hx;cases hx with
  |imm h=>cases h
  | @map _ b2 cap2 h=>
   rw[hb] at h;simp only[ax9,Prod.mk.injEq] at h;obtain⟨rfl,rfl⟩:=h;refine .imap (ents:=ents) (clock:=clock) ⟨E,by simp[m'],hvE,hwf⟩ h2 (fun i p e a1 a2=>(h3 i p e a1 a2).1) fun i p e a1 a2=>?_;have hii:=hi p (ay9 a1);exact(hii.2 m β e.val ((h3 i p e a1 a2).2.v hii.1)).mono hle
 ·intro b' hb' hold;by_cases hbb:b'=b
  ·grind
  ·simp[m',hbb];exact r.mold b' hb' hold
 grind
def p9(id:Nat)(es:List (Value×V)):Hy:=fun m β m' β'=>m.le m'/\β'=β/\∀x,br m β (.map id) x->bN m' (.imap es) x
instance {id:Nat} {es:List (Value×V)}:jI (p9 id es):=⟨fun _ _ _ _ hy=>hy.1⟩
theorem ai.keepM{id:Nat}{es:List (Value×V)}{v:V}:ai (p9 id es) v v:=fun _ _ _ _ _ hy hx=>by
 obtain⟨h1,rfl,_⟩:=hy;exact hx.mono h1 (ba.le_refl _)
theorem ai.frzM{id:Nat}{es:List (Value×V)}:ai (p9 id es) (.imap es) (.map id):=fun _ _ _ _ _ hy hx=>.imm (hy.2.2 _ hx)
theorem ni(id:Nat){es:List (Value×V)}(env:cc)(hp:aC)(ho:ak S.hp id=.map es)(hi:∀p,p∈es->aw p.2)
  (henv:∀t,ai (p9 id es) (get env t) (get S.env t)) (hhp:∀i,ag (p9 id es) (ak hp i) (ak S.hp i)) (hd:ak hp id=.dead):aY K S ⟨env,hp,S.nx⟩:=by
 intro m β w a r;obtain⟨m',k1,hle,hfr,hmold,k2⟩:=E4 r id ho hi;have hy:p9 id es m β m' β:=⟨hle,rfl,hfr⟩
 have hlive:∀i,ak hp i≠.dead->ak S.hp i≠.dead/\i≠id:=by
  intro i h;have h2:=hhp i;refine⟨fun hdd=>?_,fun he=>h (by grind)⟩;rw[hdd] at h2;cases ho':ak hp i with
  |dead=>exact h ho'
  |arr=>simp_all[ag]
  |res=>simp_all[ag]
  |map=>simp_all[ag]
  |iter=>simp_all[ag]
  |bld=>simp_all[ag]
 refine⟨m',β,k1,bB.le_trans r.ext hle,hmold,r.frame,r.size,r.same,r.tn,r.df.mono hle,fun t=>henv t _ _ _ _ _ hy (r.env t),fun i=>(hhp i).ok hy (r.own i),fun i b cap hl hb'=>?_,
  fun i i' b cap cap' hl hl'=>r.inj i i' b cap cap' (hlive i hl).1 (hlive i' hl').1,fun i x hl hx=>?_,r.nx,r.pin⟩
 rotate_left
 ·have q:=(r.hid i x (hlive i hl).1 hx).weak (fun i h=>(hlive i h).1);refine⟨q.lt,?_,q.old,q.ne,q.un⟩;rcases k2 x with h|⟨cap',h⟩
  ·rw[h];exact q.m
  ·exact absurd Y ((r.hid i x (hlive i hl).1 hx).ne id x cap' (by grind) h)
 obtain⟨h1,h2⟩:=hlive i hl;have hp':=r.priv i b cap h1 hb';refine⟨?_,hp'.2⟩;rcases k2 b with h|⟨cap',h⟩
 ·grind
 ·exact absurd (r.inj i id b cap cap' h1 (by grind) hb' h) h2
theorem yE(id id2:Nat){es:List (Value×V)}(ob:Ob)(ho:ak S.hp id=.map es)(hi:∀p,p∈es->aw p.2)(hob:ag (p9 id es) ob (ak S.hp id2)):
  aY K S ⟨S.env,(id,.dead)::(id2,ob)::S.hp,S.nx⟩:=
 ni id _ _ ho hi (fun _=>ai.keepM) (fun i=>by
  rw[av];split
  ·trivial
  grind [av,ag.keep,ai.keepM]) (by simp[av])
theorem iO(id t:Nat){e k:Nat}{rows:List (List V)}(v:V)(ho:ak S.hp id=.arr e k rows)(hi:∀row,row∈rows->cv row)
  {v0:V} (ht:get S.env t=v0) (hv:ai (Dy id k rows) v v0):aY K S ⟨(t,v)::S.env,(id,.dead)::S.hp,S.nx⟩:=
 fK id _ _ ho hi (pF (fun _=>ai.keep) (by grind)) wB (by simp[av])
theorem ai.fnc{Yo:Hy}{f:Fn}{cs cs':List V}(h:ia Yo cs cs'):ai Yo (.fn f [] cs) (.fn f [] cs'):=fun m β m' β' x hy hx=>by
 have key:∀us:Array Value,cs'.length=us.size->(∀(i:Nat) (c:V) (v:Value),cs'[i]? = some c->us[i]? = some v->br m β c v)->
   ∀(i:Nat) (c:V) (v:Value),cs[i]? = some c->us[i]? = some v->br m' β' c v:=by
  intro us hl hh i c v h1 h2;have h3:i<cs'.length:=by rw[<-h.len];exact(bd9.1 h1).1
  exact h.get i c _ h1 (az9 h3) _ _ _ _ _ hy (hh i _ v (az9 h3) h2)
 cases hx with
 |imm hx=>cases hx with
  |fn h1 h2 h3 h4=>exact .fn h1 (by rw[h.len];exact h2) (fun i c v q=>by simp at q) (key _ h2 fun i c v q1 q2=>.imm (h4 i c v q1 q2))
 |fn h1 h2 h3 h4=>exact .fn h1 (by rw[h.len];exact h2) (fun i c v q=>by simp at q) (key _ h2 h4)
def JE:Hy:=fun m β m' β'=>m'=m/\β'=β
instance:jI JE:=⟨fun m β m' β' hy=>by rw[hy.1];exact bB.le_refl _⟩
theorem ai.keepI{v:V}:ai JE v v:=fun _ _ _ _ _ hy hx=>by obtain⟨rfl,rfl⟩:=hy;exact hx
theorem pA(env:cc)(hp:aC)(henv:∀t,ai JE (get env t) (get S.env t))(hhp:∀i,ag JE (ak hp i) (ak S.hp i)):aY K S ⟨env,hp,S.nx⟩:=by
 intro m β w a r;have hy:JE m β m β:=⟨rfl,rfl⟩
 have hlive:∀i,ak hp i≠.dead->ak S.hp i≠.dead:=by
  intro i h hdd;have h2:=hhp i;rw[hdd] at h2;cases ho':ak hp i with
  |dead=>exact h ho'
  |arr=>simp_all[ag]
  |res=>simp_all[ag]
  |map=>simp_all[ag]
  |iter=>simp_all[ag]
  |bld=>simp_all[ag]
 exact⟨m,β,r.imm,r.ext,r.mold,r.frame,r.size,r.same,r.tn,r.df,fun t=>henv t _ _ _ _ _ hy (r.env t),fun i=>(hhp i).ok hy (r.own i),fun i b c h=>r.priv i b c (hlive i h),
  fun i i' b c c' h h'=>r.inj i i' b c c' (hlive i h) (hlive i' h'),fun i x h hx=>(r.hid i x (hlive i h) hx).weak hlive,r.nx,r.pin⟩
theorem fp(t:Nat)(v:V){v0:V}(ht:get S.env t=v0)(hv:ai JE v v0):aY K S ⟨(t,v)::S.env,S.hp,S.nx⟩:=
 pA _ _ (pF (fun _=>ai.keepI) (by grind)) fun _=>ag.keep (fun _=>ai.keepI) _
theorem lN(id:Nat)(ob:Ob){ob0:Ob}(ho:ak S.hp id=ob0)(hv:ag JE ob ob0):aY K S ⟨S.env,(id,ob)::S.hp,S.nx⟩:=
 pA _ _ (fun _=>ai.keepI) fun i=>by
  grind [av,ag.keep,ai.keepI]
def upd{α:Type}(f:Nat->α)(j:Nat)(x:α):Nat->α:=fun i=>if i=j then x else f i
def tg{α:Type}(d:α)(l:List α):Nat->α:=fun i=>l.getD i d
theorem IZ{n j o:Nat}(pre post:List V)(g:Nat->V)(h:j<n){row:List V}(hrow:row=pre++(List.range n).map g++post)(ho:o=pre.length+j*1):row[o]? = some (g j):=by
 grind
theorem oS{d id k i o:Nat}{x:Operand}(hw:aN ops S ⟨some d,.nilCheck x,ty,pos,after,g⟩ true)(hx:evl K S x=.ptr id k i o)(hN:Nat.blt d K.N=true)
  (kk:ay K ops rest Q (S.put d (.ptr id k i o))):ay K ops (⟨some d,.nilCheck x,ty,pos,after,g⟩::rest) Q S:=
 aX _ hw hN (fun m β w a r=>by
  have h:=r.reads x;rw[hx] at h;obtain⟨b,cap,hb,hv⟩:=h.ptr_inv<;>simp_all[execOp]) kk
theorem nN{d o:Nat}{row:List V}{x:Operand}(hw:aN ops S ⟨some d,.nilCheck x,ty,pos,after,g⟩ true)(hx:evl K S x=.iptr row o)(hN:Nat.blt d K.N=true)
  (kk:ay K ops rest Q (S.put d (.iptr row o))):ay K ops (⟨some d,.nilCheck x,ty,pos,after,g⟩::rest) Q S:=
 aX _ hw hN (fun m β w a r=>by
  have h:=r.reads x;rw[hx] at h;obtain⟨ad,arr,T',fr,f,base,hv,_⟩:=h.iptr_inv<;>simp_all[execOp]) kk
end
end Go.Pv
