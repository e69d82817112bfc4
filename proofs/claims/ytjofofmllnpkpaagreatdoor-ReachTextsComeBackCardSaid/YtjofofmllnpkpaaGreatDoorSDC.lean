/- Part of the proof: DN, DO, DR, ZC, ZS, DV, DC. -/
import Derived.Test.YtjofofmllnpkpaaGreatDoorSDM
import Derived.Test.YtjofofmllnpkpaaGreatDoorSWA
import Derived.Test.YtjofofmllnpkpaaGreatDoorSZA
import Derived.Maps.RangeRun
import Derived.Lib.SlicesCompact
import Derived.Shelf.SlSortCmp.NoneTotal
import Derived.Lib.SplitLaws
import Derived.Lib.SmallJoins
import Derived.Lib.Atoi
import Derived.Lib.IndexMore
namespace Go.Pv
open Go
set_option linter.unusedVariables false
set_option linter.unusedSimpArgs false
section
variable{K:Ctx}{S:St}
variable{m:Mem}{β:Locs}{w:World}{a:Act}
theorem Rel.takeG(r:Rel K m β w a S)(id0 nx':Nat)(hfree:β id0=none)(hpid:∀q,q<K.pins->q≠id0)(hidn:id0<nx')(hnn:S.nx<=nx'){id:Nat}(hl0:hget S.hp id≠.dead)(hnid:id≠id0)(Bc Bn:Nat->Prop)(loc:Option (Nat×Cap))(ob' ob2:Ob)(hsub:∀x,Bc x->β.hid id x)(hBn:∀x,Bn x->Bc x)
  (hloc:∀b' c',loc=some (b',c')->Bc b'/\¬Bn b') (hobj:∀β':Locs,ObOk m β' w Bn (some loc) ob2)
  (hob:∀β':Locs,β.le β'->β' id0=some loc->ObOk m β' w (fun x=>β.hid id x/\¬Bc x) (β id) ob'):
  ∃m' β',Rel K m' β' w a ⟨S.env,(id,ob')::(id0,ob2)::S.hp,nx'⟩:=by
 let β':Locs:=⟨fun q=>if q=id0 then some loc else β q,fun q=>if q=id0 then Bn else if q=id then (fun x=>β.hid id x/\¬Bc x) else β.hid q⟩
 have en:β' id0=some loc:=by show(if _ then _ else _)=_;rw[if_pos rfl]
 have eo:∀q,q≠id0->β' q=β q:=fun q h=>by show(if _ then _ else _)=_;rw[if_neg h]
 have hn:β'.hid id0=Bn:=by show(if _ then _ else _)=_;rw[if_pos rfl]
 have hid':β'.hid id=fun x=>β.hid id x/\¬Bc x:=by show(if _ then _ else if _ then _ else _)=_;rw[if_neg hnid,if_pos rfl]
 have hoth:∀q,q≠id0->q≠id->β'.hid q=β.hid q:=fun q h1 h2=>by show(if _ then _ else if _ then _ else _)=_;rw[if_neg h1,if_neg h2]
 have hle:β.le β':=by
  intro q l h
  rw[eo q]
  ·exact h
  ·intro e;rw[e,hfree] at h;simp at h
 have hg:∀q,hget ((id,ob')::(id0,ob2)::S.hp) q=if id=q then ob' else if id0=q then ob2 else hget S.hp q:=fun q=>by rw[hget_put,hget_put]
 have live:∀q,q≠id0->hget ((id,ob')::(id0,ob2)::S.hp) q≠.dead->hget S.hp q≠.dead:=by
  intro q hq h
  rw[hg] at h
  split at h
  ·rename_i e;rw[<-e];exact hl0
  ·rw[if_neg (Ne.symm hq)] at h;exact h
 -- the hidden blocks of the new state, seen in the old one
 have hh:∀q x,hget ((id,ob')::(id0,ob2)::S.hp) q≠.dead->β'.hid q x->(q=id0/\Bn x)\/(q≠id0/\hget S.hp q≠.dead/\β.hid q x/\(q=id->¬Bc x)):=by
  intro q x hl hx
  by_cases e1:q=id0
  ·subst e1;rw[hn] at hx;exact .inl ⟨rfl,hx⟩
  ·refine .inr ⟨e1,live q e1 hl,?_⟩
   by_cases e2:q=id
   ·subst e2;rw[hid'] at hx;exact⟨hx.1,fun _=>hx.2⟩
   ·rw[hoth q e1 e2] at hx;exact⟨hx,fun h=>absurd h e2⟩
 refine⟨m,β',r.imm,r.ext,r.mold,r.frame,r.size,r.same,r.tn,r.df,fun t=>(r.env t).mono (Mem.le_refl _) hle,fun q=>?_,fun q b1 c1 hl hb1=>?_,fun q q' b1 c1 c2 hl hl' hb1 hb2=>?_,fun q x hl hx=>?_,fun q hq=>?_,fun q hq=>?_⟩
 ·rw[hg]
  split
  ·rename_i h;subst h
   show ObOk m β' w (β'.hid id) (β' id) _
   rw[hid',eo id hnid];exact hob β' hle en
  ·split
   ·rename_i h;subst h
    show ObOk m β' w (β'.hid id0) (β' id0) _
    rw[hn,en];exact hobj β'
   ·rename_i h1 h2
    show ObOk m β' w (β'.hid q) (β' q) _
    rw[hoth q (Ne.symm h2) (Ne.symm h1),eo q (Ne.symm h2)]
    exact ObOk.mono (Mem.le_refl _) hle (fun _ _ h=>h) (fun _ _=>rfl) (r.own q)
 ·by_cases e1:q=id0
  ·subst e1;rw[en] at hb1
   simp only[Option.some.injEq] at hb1
   have h:=r.hid id b1 hl0 (hsub _ (hloc b1 c1 hb1).1)
   exact⟨h.m,h.old⟩
  ·rw[eo q e1] at hb1;exact r.priv q b1 c1 (live q e1 hl) hb1
 ·have key:∀q c,q≠id0->hget S.hp q≠.dead->β q=some (some (b1,c))->∀c',loc=some (b1,c')->False:=by
   intro q c _ hl hbq c' hc
   exact(r.hid id b1 hl0 (hsub _ (hloc b1 c' hc).1)).ne q b1 c hl hbq rfl
  by_cases e1:q=id0<;>by_cases e2:q'=id0
  ·rw[e1,e2]
  ·exfalso;subst e1
   rw[en] at hb1;rw[eo q' e2] at hb2
   simp only[Option.some.injEq] at hb1
   exact key q' c2 e2 (live q' e2 hl') hb2 c1 hb1
  ·exfalso;subst e2
   rw[en] at hb2;rw[eo q e1] at hb1
   simp only[Option.some.injEq] at hb2
   exact key q c1 e1 (live q e1 hl) hb1 c2 hb2
  ·rw[eo q e1] at hb1;rw[eo q' e2] at hb2
   exact r.inj q q' b1 c1 c2 (live q e1 hl) (live q' e2 hl') hb1 hb2
 ·-- a hidden block
  have hx0:=hh q x hl hx
  have hidx:∃q0,hget S.hp q0≠.dead/\β.hid q0 x/\(q=id0->q0=id/\Bc x)/\(q≠id0->q0=q):=by
   rcases hx0 with ⟨e1,h1⟩|⟨e1,h1,h2,h3⟩
   ·exact⟨id,hl0,hsub x (hBn x h1),fun _=>⟨rfl,hBn x h1⟩,fun h=>absurd e1 h⟩
   ·exact⟨q,h1,h2,fun h=>absurd h e1,fun _=>rfl⟩
  obtain⟨q0,g1,g2,g3,g4⟩:=hidx
  have hr:=r.hid q0 x g1 g2
  refine⟨hr.lt,hr.m,hr.old,fun p b1 c1 hl1 hb1=>?_,fun p hl1 hx1=>?_⟩
  ·by_cases e2:p=id0
   ·subst e2
    rw[en] at hb1
    simp only[Option.some.injEq] at hb1
    intro e;subst e
    obtain⟨k1,k2⟩:=hloc _ c1 hb1
    rcases hx0 with ⟨e1,h1⟩|⟨e1,h1,h2,h3⟩
    ·exact k2 h1
    ·have:=(r.hid q _ h1 h2).un id hl0 (hsub _ k1)
     exact h3 this.symm k1
   ·rw[eo p e2] at hb1
    exact hr.ne p b1 c1 (live p e2 hl1) hb1
  ·rcases hh p x hl1 hx1 with ⟨e2,h2⟩|⟨e2,h2,h3,h4⟩
   ·rcases hx0 with ⟨e1,h1⟩|⟨e1,h1,h2',h3'⟩
    ·rw[e1,e2]
    ·exfalso
     have:=(r.hid q _ h1 h2').un id hl0 (hsub _ (hBn x h2))
     exact h3' this.symm (hBn x h2)
   ·rcases hx0 with ⟨e1,h1⟩|⟨e1,h1,h2',h3'⟩
    ·exfalso
     have:=(r.hid id _ hl0 (hsub _ (hBn x h1))).un p h2 h3
     exact h4 this (hBn x h1)
    ·exact(r.hid q _ h1 h2').un p h2 h3
 ·have hq:nx'<=q:=hq
  rw[eo q (by omega)];exact r.nx q (by omega)
 ·obtain⟨p1,p2⟩:=r.pin q hq
  exact⟨Nat.lt_of_lt_of_le p1 hnn,by rw[eo q (hpid q hq)];exact p2⟩
def ovl:V->Nat->Option (V×Ob)
 | .dsl e k rws,nx=>some (.own nx rws.length,.arr e k rws)
 | .dmp es,nx=>some (.map nx,.map es)
 |_,_=>none
def OKeep:Ob->Prop
 | .arr _ _ rws=>∀r,r∈rws->Keeps r
 | .map es=>∀p,p∈es->Keep p.2
 |_=>True
theorem ovl_live{d o:V}{ob:Ob}{id:Nat}(h:ovl d id=some (o,ob)):ob≠.dead/\o.deep=false/\d.deep=true:=by
 cases d<;>simp[ovl] at h
 ·obtain⟨rfl,rfl⟩:=h;exact⟨by simp,rfl,rfl⟩
 ·obtain⟨rfl,rfl⟩:=h;exact⟨by simp,rfl,rfl⟩
theorem deepG_inv{B:Nat->Prop}{d:V}{v:Value}(hd:d.deep=true)(h:CRel m β w B d v):DRel m w B d v:=by
 rcases h with h|h
 ·cases h with
  |imm h=>exact .imm h
  |_=>simp[V.deep] at hd
 ·exact h
theorem deep_take{B:Nat->Prop}{d o:V}{ob:Ob}{v:Value}{id0:Nat}(h:DRel m w B d v)(hov:ovl d id0=some (o,ob)):
  ∃(loc:Option (Nat×Cap)) (Bn:Nat->Prop),(∀β':Locs,β' id0=some loc->VRel m β' o v)/\(∀x,Bn x->B x)/\(∀b' c',loc=some (b',c')->B b'/\¬Bn b')/\∀β':Locs,ObOk m β' w Bn (some loc) ob:=by
 cases h with
 |imm h=>cases h<;>simp[ovl] at hov
 |nil e k a=>
  simp only[ovl,Option.some.injEq,Prod.mk.injEq] at hov
  obtain⟨rfl,rfl⟩:=hov
  exact⟨none,fun _=>False,fun β' h=>.ownNil h,fun _ h=>h.elim,fun _ _ h=>by simp at h,fun _=>rfl⟩
 | @sl _ k b' cap' off' e rows arr' bl' f hb' hbb hB hw hs hr hcap hk hf h=>
  simp only[ovl,Option.some.injEq,Prod.mk.injEq] at hov
  obtain⟨rfl,rfl⟩:=hov
  refine⟨some (b',⟨cap',off'⟩),fun x=>∃p,bl' p x,fun β' h=>.own h,fun x ⟨p,hx⟩=>hB.1 p x hx,fun b2 c2 h=>?_,fun β'=>?_⟩
  ·simp only[Option.some.injEq,Prod.mk.injEq] at h;obtain⟨rfl,_⟩:=h;exact⟨hb',fun⟨p,hx⟩=>hbb p hx⟩
  ·refine⟨arr',bl',hw,hs,hr,hcap,hk,⟨fun p x hx=>⟨p,hx⟩,hB.2⟩,fun i2 j2 row2 c2 h1 h2=>?_⟩
   obtain⟨f1,f2⟩:=hf i2 j2 row2 c2 h1 h2
   exact⟨_,f1,.inr (h i2 j2 row2 c2 h1 h2),f2⟩
 | @mp _ b' es ents clock bl' hb' hbb hB hw hl hk h=>
  simp only[ovl,Option.some.injEq,Prod.mk.injEq] at hov
  obtain⟨rfl,rfl⟩:=hov
  refine⟨some (b',⟨0,0⟩),fun x=>∃p,bl' p x,fun β' h=>.map h,fun x ⟨p,hx⟩=>hB.1 p x hx,fun b2 c2 h=>?_,fun β'=>?_⟩
  ·simp only[Option.some.injEq,Prod.mk.injEq] at h;obtain⟨rfl,_⟩:=h;exact⟨hb',fun⟨p,hx⟩=>hbb p hx⟩
  ·exact⟨ents,clock,bl',hw,hl,⟨fun p x hx=>⟨p,hx⟩,hB.2⟩,fun i2 p2 e2 h1 h2=>⟨hk i2 p2 e2 h1 h2,.inr (h i2 p2 e2 h1 h2)⟩⟩
 |pt=>simp[ovl] at hov
theorem deep_untake(r:Rel K m β w a S){d o:V}{ob:Ob}{v:Value}{id2:Nat}(hov:ovl d id2=some (o,ob))(ho2:hget S.hp id2=ob)(hkp:OKeep ob)(hv:VRel m β o v):
  DRel m w (fun x=>β.hid id2 x\/∃c,β id2=some (some (x,c))) d v:=by
 have hl2:hget S.hp id2≠.dead:=by rw[ho2];exact(ovl_live hov).1
 have hown2:=r.own id2
 rw[ho2] at hown2
 cases d<;>simp only[ovl,Option.some.injEq,Prod.mk.injEq,reduceCtorEq] at hov
 ·rename_i e' k' rws
  obtain⟨rfl,rfl⟩:=hov
  generalize hnn:rws.length=n at hv
  cases hv with
  |imm h=>cases h
  |ownNil h=>
   have:rws=[]:=List.length_eq_zero_iff.1 hnn
   subst this;exact .nil _ _ _
  | @own _ _ b2 cap2 hb2=>
   rw[hb2] at hown2
   obtain⟨arr2,bl2,p1,p2,p3,p4,p5,p6,p7⟩:=hown2
   rw[<-hnn]
   refine .sl bl2 (fun p=>arr2.getD (cap2.off+p) undef) (.inr ⟨cap2,hb2⟩) (fun p hx=>?_) ⟨fun p x hx=>.inl (p6.1 p x hx),p6.2⟩ p1 p2 p3 p4 p5 (fun i2 j2 row2 c2 h1 h2=>?_) (fun i2 j2 row2 c2 h1 h2=>?_)
   ·exact(r.hid id2 b2 hl2 (p6.1 p b2 hx)).ne id2 b2 cap2 hl2 hb2 rfl
   ·obtain⟨u,u1,_,u3⟩:=p7 i2 j2 row2 c2 h1 h2
    have:arr2.getD (cap2.off+(i2*k'+j2)) undef=u:=by simp[Array.getD_eq_getD_getElem?,u1]
    simp only[this];exact⟨u1,u3⟩
   ·obtain⟨u,u1,u2,_⟩:=p7 i2 j2 row2 c2 h1 h2
    have:arr2.getD (cap2.off+(i2*k'+j2)) undef=u:=by simp[Array.getD_eq_getD_getElem?,u1]
    simp only[this]
    rcases u2 with h|h
    ·exact .imm (hkp row2 (List.mem_of_getElem? h1) c2 (List.mem_of_getElem? h2) _ _ _ h)
    ·exact h
 ·rename_i es
  obtain⟨rfl,rfl⟩:=hov
  cases hv with
  |imm h=>cases h
  | @map _ b2 cap2 hb2=>
   rw[hb2] at hown2
   obtain⟨ents,clock,bl2,p1,p2,p6,p7⟩:=hown2
   refine .mp bl2 (.inr ⟨cap2,hb2⟩) (fun p hx=>?_) ⟨fun p x hx=>.inl (p6.1 p x hx),p6.2⟩ p1 p2 (fun i2 q e2 h1 h2=>(p7 i2 q e2 h1 h2).1) (fun i2 q e2 h1 h2=>?_)
   ·exact(r.hid id2 b2 hl2 (p6.1 p b2 hx)).ne id2 b2 cap2 hl2 hb2 rfl
   ·rcases(p7 i2 q e2 h1 h2).2 with h|h
    ·exact .imm (hkp q (List.mem_of_getElem? h1) _ _ _ h)
    ·exact h
theorem Rel.takeM(r:Rel K m β w a S)(id i id0 nx':Nat)(hfree:β id0=none)(hpid:∀q,q<K.pins->q≠id0)(hidn:id0<nx')(hnn:S.nx<=nx'){es:List (Value×V)}{kv:Value}{d o:V}{ob:Ob}(ho:hget S.hp id=.map es)(hi:es[i]? = some (kv,d))(hov:ovl d id0=some (o,ob)):
  ∃m' β',Rel K m' β' w a ⟨S.env,(id,.map (es.set i (kv,o)))::(id0,ob)::S.hp,nx'⟩:=by
 have hl0:hget S.hp id≠.dead:=by rw[ho];simp
 obtain⟨b,cap,hb⟩:=map_loc r ho
 have hne0:id≠id0:=fun h=>by rw[h,hfree] at hb;simp at hb
 have hown:=r.own id
 rw[ho,hb] at hown
 obtain⟨ents,clock,bl,q1,q2,q6,q7⟩:=hown
 have hlt:i<ents.size:=by rw[<-q2];exact(List.getElem?_eq_some_iff.1 hi).1
 obtain⟨v1,v2⟩:=q7 i _ ents[i] hi (Array.getElem?_eq_getElem hlt)
 generalize hv:ents[i].val=v at v2
 obtain⟨loc,Bn,hvr,hBn,hloc,hobj⟩:=deep_take (deepG_inv (ovl_live hov).2.2 v2) hov
 obtain⟨m',β',rr⟩:=r.takeG id0 nx' hfree hpid hidn hnn hl0 hne0 (bl i) Bn loc (.map (es.set i (kv,o))) ob (fun x hx=>q6.1 _ x hx) hBn hloc hobj (fun β' hle en=>by
  rw[hb]
  refine⟨ents,clock,fun p=>if p=i then (fun _=>False) else bl p,q1,by rw[List.length_set];exact q2,⟨fun p x hx=>?_,fun p p' x hx hx'=>?_⟩,fun i2 p2 en2 h1 h2=>?_⟩
  ·dsimp only at hx
   split at hx
   ·exact hx.elim
   ·rename_i hne;exact⟨q6.1 p x hx,fun h=>hne (q6.2 _ _ x hx h)⟩
  ·dsimp only at hx hx'
   split at hx
   ·exact hx.elim
   ·split at hx'
    ·exact hx'.elim
    ·exact q6.2 _ _ x hx hx'
  ·rw[List.getElem?_set] at h1
   by_cases e2:i=i2
   ·subst e2
    rw[if_pos rfl,if_pos (by rw[q2];exact hlt)] at h1
    simp only[Option.some.injEq] at h1
    subst h1
    rw[Array.getElem?_eq_getElem hlt,Option.some.injEq] at h2
    subst h2
    exact⟨v1,.inl (by rw[hv];exact hvr β' en)⟩
   ·rw[if_neg e2] at h1
    obtain⟨u1,u2⟩:=q7 i2 p2 en2 h1 h2
    refine⟨u1,?_⟩
    show CRel _ _ _ (if _ then _ else _) _ _
    rw[if_neg (Ne.symm e2)]
    exact u2.mono (Mem.le_refl _) hle (fun _ h=>h) (fun _ _=>rfl))
 exact⟨m',β',rr⟩
theorem ghost_untakeMG(id i id2:Nat){es:List (Value×V)}{kv:Value}{d o:V}{ob:Ob}(ho:hget S.hp id=.map es)(hi:es[i]? = some (kv,o))(hov:ovl d id2=some (o,ob))(ho2:hget S.hp id2=ob)(hne:id≠id2)(hkp:OKeep ob):
  Ghost K S ⟨S.env,(id,.map (es.set i (kv,d)))::(id2,.dead)::S.hp,S.nx⟩:=by
 intro m β w a r
 have hl0:hget S.hp id≠.dead:=by rw[ho];simp
 have hl2:hget S.hp id2≠.dead:=by rw[ho2];exact(ovl_live hov).1
 obtain⟨b,cap,hb⟩:=map_loc r ho
 have hown:=r.own id
 rw[ho,hb] at hown
 obtain⟨ents,clock,bl,q1,q2,q6,q7⟩:=hown
 have hlt:i<ents.size:=by rw[<-q2];exact(List.getElem?_eq_some_iff.1 hi).1
 obtain⟨v1,v2⟩:=q7 i _ ents[i] hi (Array.getElem?_eq_getElem hlt)
 have v2:=v2.v (ovl_live hov).2.1
 have hd:=deep_untake r hov ho2 hkp v2
 let Bn:Nat->Prop:=fun x=>β.hid id2 x\/∃c,β id2=some (some (x,c))
 have hBd:∀x,Bn x->¬β.hid id x:=by
  intro x hx hh
  rcases hx with hx|⟨c,hx⟩
  ·exact hne ((r.hid id2 x hl2 hx).un id hl0 hh)
  ·exact(r.hid id x hl0 hh).ne id2 x c hl2 hx rfl
 obtain⟨m',β',rr⟩:=r.untake hl0 hl2 hne (.map (es.set i (kv,d))) (fun β' hle=>by
  rw[hb]
  refine⟨ents,clock,fun p=>if p=i then Bn else bl p,q1,by rw[List.length_set];exact q2,⟨fun p x hx=>?_,fun p p' x hx hx'=>?_⟩,fun i2 p2 en2 h1 h2=>?_⟩
  ·dsimp only at hx
   split at hx
   ·exact .inr hx
   ·exact .inl (q6.1 p x hx)
  ·dsimp only at hx hx'
   split at hx<;>split at hx'
   ·rename_i e1 e2;rw[e1,e2]
   ·exact absurd (q6.1 _ x hx') (hBd x hx)
   ·exact absurd (q6.1 _ x hx) (hBd x hx')
   ·exact q6.2 _ _ x hx hx'
  ·rw[List.getElem?_set] at h1
   by_cases e2:i=i2
   ·subst e2
    rw[if_pos rfl,if_pos (by rw[q2];exact hlt)] at h1
    simp only[Option.some.injEq] at h1
    subst h1
    rw[Array.getElem?_eq_getElem hlt,Option.some.injEq] at h2
    subst h2
    refine⟨v1,?_⟩
    show CRel _ _ _ (if _ then _ else _) _ _
    rw[if_pos rfl];exact .inr hd
   ·rw[if_neg e2] at h1
    obtain⟨u1,u2⟩:=q7 i2 p2 en2 h1 h2
    refine⟨u1,?_⟩
    show CRel _ _ _ (if _ then _ else _) _ _
    rw[if_neg (Ne.symm e2)]
    exact u2.mono (Mem.le_refl _) hle (fun _ h=>h) (fun _ _=>rfl))
 exact⟨m',β',rr⟩
theorem Rel.takeC(r:Rel K m β w a S)(id i j id0 nx':Nat)(hfree:β id0=none)(hpid:∀q,q<K.pins->q≠id0)(hidn:id0<nx')(hnn:S.nx<=nx'){e k:Nat}{rows:List (List V)}{row:List V}{d o:V}{ob:Ob}(ho:hget S.hp id=.arr e k rows)(hi:rows[i]? = some row)(hj:row[j]? = some d)(hov:ovl d id0=some (o,ob)):
  ∃m' β',Rel K m' β' w a ⟨S.env,(id,.arr e k (setC rows i row j o))::(id0,ob)::S.hp,nx'⟩:=by
 have hl0:hget S.hp id≠.dead:=by rw[ho];simp
 have hown:=r.own id
 rw[ho] at hown
 obtain⟨b,cap,hb⟩:∃b cap,β id=some (some (b,cap)):=by
  match hh:β id,hown with
  |none,hown=>simp[ObOk] at hown
  |some none,hown=>have hown:rows=[]:=hown;subst hown;simp at hi
  |some (some (b,cap)),_=>exact⟨b,cap,rfl⟩
 rw[hb] at hown
 obtain⟨arr,bl,q1,q2,q3,q4,q5,q6,q7⟩:=hown
 obtain⟨v,v1,v2,v3⟩:=q7 i j row _ hi hj
 have hjk:j<k:=by rw[<-q5 row (List.mem_of_getElem? hi)];exact(List.getElem?_eq_some_iff.1 hj).1
 have hnid:id≠id0:=fun h=>by rw[h,hfree] at hb;simp at hb
 obtain⟨loc,Bn,hv,hBn,hloc,hobj⟩:=deep_take (deepG_inv (ovl_live hov).2.2 v2) hov
 obtain⟨m',β',rr⟩:=r.takeG id0 nx' hfree hpid hidn hnn hl0 hnid (bl (i*k+j)) Bn loc (.arr e k (setC rows i row j o)) ob (fun x hx=>q6.1 _ x hx) hBn hloc hobj (fun β' hle en=>by
  rw[hb]
  refine⟨arr,fun p=>if p=i*k+j then (fun _=>False) else bl p,q1,q2,by rw[setC_len];exact q3,q4,setC_row hi q5,⟨fun p x hx=>?_,fun p p' x hx hx'=>?_⟩,fun i2 j2 row2 c2 h1 h2=>?_⟩
  ·dsimp only at hx
   split at hx
   ·exact hx.elim
   ·rename_i hne;exact⟨q6.1 p x hx,fun h=>hne (q6.2 _ _ x hx h)⟩
  ·dsimp only at hx hx'
   split at hx
   ·exact hx.elim
   ·split at hx'
    ·exact hx'.elim
    ·exact q6.2 _ _ x hx hx'
  ·rcases setC_get hi hj h1 h2 with ⟨rfl,rfl,rfl⟩|⟨row3,h3,h4,h5⟩
   ·exact⟨v,v1,.inl (hv β' en),v3⟩
   ·obtain⟨u,u1,u2,u3⟩:=q7 i2 j2 row3 c2 h3 h4
    have hj2:j2<k:=by rw[<-q5 row3 (List.mem_of_getElem? h3)];exact(List.getElem?_eq_some_iff.1 h4).1
    refine⟨u,u1,?_,u3⟩
    show CRel _ _ _ (if _ then _ else _) _ _
    rw[if_neg (cell_ne h5 hjk hj2)]
    exact u2.mono (Mem.le_refl _) hle (fun _ h=>h) (fun _ _=>rfl))
 exact⟨m',β',rr⟩
end
section
variable{K:Ctx}{Q:Post}{S:St}
variable{m:Mem}{β:Locs}{w:World}{a:Act}
variable{ops:Array Oper}{rest:List Oper}{ty:TypeId}{pos:String}{after:Array Edge}{g:Option (Nat×Bool)}
theorem ghost_freezeMD(id:Nat){es:List (Value×V)}(es':List (Value×V))(env:Env)(hp:Heap)(ho:hget S.hp id=.map es)(hl:es.length=es'.length)
  (hk:∀(i:Nat) (p p':Value×V),es[i]? = some p->es'[i]? = some p'->p.1=p'.1/\Und p.2 p'.2/\Keep p.2)
  (henv:∀t,Sub (FrzM id es') (get env t) (get S.env t)) (hhp:∀i,ObSub (FrzM id es') (hget hp i) (hget S.hp i)) (hd:hget hp id=.dead):Ghost K S ⟨env,hp,S.nx⟩:=by
 intro m β w a r
 have hlid:hget S.hp id≠.dead:=by rw[ho];simp
 obtain⟨b,cap,hb⟩:=map_loc r ho
 have hown:=r.own id
 rw[ho,hb] at hown
 obtain⟨ents,clock,bl,h1,h2,hBl,h6⟩:=hown
 have hp':=r.priv id b cap hlid hb
 have key:∃m',(∀b o,m' b=some o->w.heap[b]? = some o)/\FrzM id es' m β m' β/\(∀b',m' b'=m b'\/(∃cap,β id=some (some (b',cap)))\/β.hid id b'):=by
  classical
  let m':Mem:=fun b'=>if b'=b\/β.hid id b' then w.heap[b']? else m b'
  have hmb:∀x,(x=b\/β.hid id x)->m' x=w.heap[x]?:=fun x h=>by simp only[m'];rw[if_pos h]
  have hmo:∀x,¬(x=b\/β.hid id x)->m' x=m x:=fun x h=>by simp only[m'];rw[if_neg h]
  have hle:m.le m':=by
   intro b' o h
   rw[hmo]
   ·exact h
   ·rintro(e'|e')
    ·subst e';rw[hp'.1] at h;simp at h
    ·rw[(r.hid id b' hlid e').m] at h;simp at h
  refine⟨m',?_,⟨hle,rfl,?_⟩,?_⟩
  ·intro b' o h
   by_cases hbb:b'=b\/β.hid id b'
   ·rw[hmb b' hbb] at h;exact h
   ·rw[hmo b' hbb] at h;exact r.imm _ _ h
  ·intro x hx
   cases hx with
   |imm h=>cases h
   | @map _ b2 cap2 h=>
    rw[hb] at h
    simp only[Option.some.injEq,Prod.mk.injEq] at h
    obtain⟨rfl,rfl⟩:=h
    refine .imap (by rw[hmb b (.inl rfl)];exact h1) (by omega) (fun i p e hi he=>?_) (fun i p e hi he=>?_)
    ·have hlt:i<es.length:=by rw[hl];exact(List.getElem?_eq_some_iff.1 hi).1
     rw[(h6 i _ e (List.getElem?_eq_getElem hlt) he).1]
     exact(hk i _ p (List.getElem?_eq_getElem hlt) hi).1
    ·have hlt:i<es.length:=by rw[hl];exact(List.getElem?_eq_some_iff.1 hi).1
     obtain⟨u1,u2,u3⟩:=hk i _ p (List.getElem?_eq_getElem hlt) hi
     have hd:DRel m w (bl i) es[i].2 e.val:=(h6 i _ e (List.getElem?_eq_getElem hlt) he).2.elim (fun h=>.imm (u3 _ _ _ h)) (fun h=>h)
     exact hd.und hle p.2 u2 (fun x hx=>hmb x (.inr (hBl.1 _ x hx)))
  ·intro b'
   by_cases hbb:b'=b\/β.hid id b'
   ·rcases hbb with h|h
    ·exact .inr (.inl ⟨cap,by rw[h];exact hb⟩)
    ·exact .inr (.inr h)
   ·exact .inl (hmo b' hbb)
 obtain⟨m',k1,hy,k2⟩:=key
 have hlive:∀i,hget hp i≠.dead->hget S.hp i≠.dead/\i≠id:=by
  intro i h
  have h2:=hhp i
  refine⟨fun hdd=>?_,fun he=>h (by rw[he];exact hd)⟩
  rw[hdd] at h2
  cases ho':hget hp i with
  |dead=>exact h ho'
  |arr=>rw[ho'] at h2;simp[ObSub] at h2
  |res=>rw[ho'] at h2;simp[ObSub] at h2
  |map=>rw[ho'] at h2;simp[ObSub] at h2
  |iter=>rw[ho'] at h2;simp[ObSub] at h2
  |bld=>rw[ho'] at h2;simp[ObSub] at h2
 refine⟨m',β,?_⟩
 constructor
 ·exact k1
 ·exact Mem.le_trans r.ext hy.1
 ·intro b hb' hold
  rcases k2 b with h|⟨cap2,h⟩|h
  ·rw[h];exact r.mold b hb' hold
  ·exact absurd hold ((r.priv id b _ hlid h).2 hb')
  ·exact absurd hold ((r.hid id b hlid h).old hb')
 ·exact r.frame
 ·exact r.size
 ·exact r.same
 ·exact r.tn
 ·exact r.df
 ·exact fun t=>henv t _ _ _ _ _ hy (r.env t)
 ·intro i
  exact(hhp i).ok hy (r.own i)
 ·intro i b cap hl hb'
  obtain⟨h1,h2⟩:=hlive i hl
  have hp':=r.priv i b cap h1 hb'
  refine⟨?_,hp'.2⟩
  rcases k2 b with h|⟨cap',h⟩|h
  ·rw[h];exact hp'.1
  ·exact absurd (r.inj i id b cap cap' h1 hlid hb' h) h2
  ·exact absurd rfl ((r.hid id b hlid h).ne i b cap h1 hb')
 ·intro i i' b cap cap' hl hl'
  exact r.inj i i' b cap cap' (hlive i hl).1 (hlive i' hl').1
 ·intro i x hl hx
  obtain⟨h1,h2⟩:=hlive i hl
  have h:=r.hid i x h1 hx
  refine⟨h.lt,?_,h.old,fun i' b c hi'=>h.ne i' b c (hlive i' hi').1,fun i' hi'=>h.un i' (hlive i' hi').1⟩
  rcases k2 x with h'|⟨cap',h'⟩|h'
  ·rw[h'];exact h.m
  ·exact absurd rfl (h.ne id x cap' hlid h')
  ·exact absurd (h.un id hlid h') (Ne.symm h2)
 ·exact r.nx
 ·exact r.pin
inductive LookD(x:Value)(d o:V):List (Value×V)->List (Value×V)->Prop
 |here {es:List (Value×V)}:LookD x d o ((x,d)::es) ((x,o)::es)
 |there {q:Value} {v:V} {es es':List (Value×V)} (h:q≠x) (h':LookD x d o es es'):LookD x d o ((q,v)::es) ((q,v)::es')
theorem LookD.at{x:Value}{d o:V}{es es':List (Value×V)}(h:LookD x d o es es'):∃i,es[i]? = some (x,d)/\es'=es.set i (x,o)/\Look x es' (some o):=by
 induction h with
 |here=>exact⟨0,rfl,rfl,.here⟩
 | @there q v es es' h h' ih=>
  obtain⟨i,h1,h2,h3⟩:=ih
  exact⟨i+1,by simpa using h1,by rw[h2];rfl,.there h h3⟩
theorem aops_lookup_takeP(id0 nx':Nat)(hfr:∀m β w a,Rel K m β w a S->β id0=none/\∀q,q<K.pins->q≠id0)(hlt0:id0<nx')(hle0:S.nx<=nx'){d:Nat}{T k e id:Nat}{x y:Operand}{good:Value->Prop}{kv:Value}{es es':List (Value×V)}{dv o:V}{ob:Ob}(hT:tyMap K.P T k e=true)(hK:KeyT K.P k good)
  (hw:Wants ops S ⟨some d,.lookup T x y false,ty,pos,after,g⟩ true) (hx:evl K S x=.map id) (ho:hget S.hp id=.map es) (hy:KeyIs K S y kv) (hg:good kv) (hges:∀p,p∈es->good p.1)
  (hov:ovl dv id0=some (o,ob)) (hl:LookD kv dv o es es') (hN:Nat.blt d K.N=true)
  (kk:AOps K ops rest Q ⟨(d,o)::S.env,(id,.map es')::(id0,ob)::S.hp,nx'⟩):AOps K ops (⟨some d,.lookup T x y false,ty,pos,after,g⟩::rest) Q S:=by
 refine aops_runs hw (fun m β w a r=>?_) kk
 obtain⟨i,h1,h2,h3⟩:=hl.at
 obtain⟨m',β',r2⟩:=r.takeM id i id0 nx' (hfr m β w a r).1 (hfr m β w a r).2 hlt0 hle0 ho h1 hov
 rw[<-h2] at r2
 have hx2:VRel m' β' (.map id) (a.eval x):=by
  have:=(r2.reads x)
  exact(show evl K ⟨S.env,(id,.map es')::(id0,ob)::S.hp,nx'⟩ x=.map id by cases x<;>exact hx) ▸ this
 obtain⟨b2,ents2,clock2,f1,⟨E2,f2,fP,fW⟩,f3,f4⟩:=(MapIs.own (S:=⟨S.env,(id,.map es')::(id0,ob)::S.hp,nx'⟩) (id:=id) (es:=es') (by simp[hget_put])).read r2 hx2
 have hges':∀p,p∈es'->good p.1:=by
  intro p hp
  rw[h2] at hp
  rcases List.mem_or_eq_of_mem_set hp with h|h
  ·exact hges p h
  ·rw[h];exact hg
 have hobj2:(getObj b2).run K.P w=.ok (.map E2 clock2) w:=by simp[getObj,Sem.run,f2]
 rcases found hK hg f3 (fun i p e a b=>(f4 i p e a b).1) hges' fP fW (w:=w) with ⟨a1,a2,_⟩|⟨j,p,en,jE,a1,a2,a3,a4,a5,aE⟩
 ·have:=h3.none_of a2;simp at this
 ·have hp:p=(kv,p.2):=by rw[<-a4]
  rw[hp] at a3
  have hr:=h3.some_of j p.2 a3 a5
  simp only[Option.some.injEq] at hr
  refine⟨en.val,w,m',β',.inl ?_,r2.put hN ?_⟩
  ·simp only[execOp,f1,hy.read r]
   refine run_value ?_
   simp only[Instr.lookup,Sem.run_bind,run_underlying (tyMap_inv hT),Result.andThen_ok,hobj2,pure,Sem.run,hK.check _ w kv hg,a1]
   rfl
  ·rw[hr];exact(f4 j _ en a3 a2).2 (by rw[<-hr];exact(ovl_live hov).2.1)
theorem aops_mapUpdate_deepG{T k e id2:Nat}{x y z:Operand}{good:Value->Prop}{kv:Value}{id:Nat}{es:List (Value×V)}{dv o:V}{ob:Ob}(es3:List (Value×V))(hT:tyMap K.P T k e=true)(hK:KeyT K.P k good)
  (hw:Wants ops S ⟨none,.mapUpdate T x y z,ty,pos,after,g⟩ true) (hx:evl K S x=.map id) (ho:hget S.hp id=.map es) (hy:KeyIs K S y kv) (hg:good kv) (hges:∀p,p∈es->good p.1) (hz:evl K S z=o)
  (hov:ovl dv id2=some (o,ob)) (ho2:hget S.hp id2=ob) (hne:Nat.beq id id2=false) (hkp:OKeep ob)
  (hp:Puts kv dv es es3) (kk:AOps K ops rest Q ⟨S.env,(id,.map es3)::(id2,.dead)::S.hp,S.nx⟩):AOps K ops (⟨none,.mapUpdate T x y z,ty,pos,after,g⟩::rest) Q S:=by
 obtain⟨es2,i,h1,h2,h3⟩:=hp.other o
 have hne:id≠id2:=fun h=>by rw[h,Nat.beq_refl] at hne;simp at hne
 refine aops_mapUpdate es2 hT hK hw hx ho hy hg hges hz h1 (aops_ghost (S':=⟨S.env,(id,.map (es2.set i (kv,dv)))::(id2,.dead)::(id,.map es2)::S.hp,S.nx⟩) (ghost_untakeMG id i id2 (S:=⟨S.env,(id,.map es2)::S.hp,S.nx⟩) (by simp[hget_put]) h2 hov (by rw[hget_put,if_neg hne];exact ho2) hne hkp) ?_)
 rw[<-h3]
 refine aops_ghost (ghost_congr (S':=⟨S.env,(id,.map es3)::(id2,.dead)::S.hp,S.nx⟩) (fun _=>rfl) (fun t=>?_) rfl) kk
 simp only[hget_put]
 split
 ·rfl
 ·split
  ·rfl
  ·rfl
theorem ghost_frzDMC(id id2:Nat){es:List (Value×V)}(es':List (Value×V))(ob:Ob)(ho:hget S.hp id=.map es)(hl:es.length=es'.length)
  (hk:∀(i:Nat) (p p':Value×V),es[i]? = some p->es'[i]? = some p'->p.1=p'.1/\Und p.2 p'.2/\Keep p.2) (hob:ObSub (FrzM id es') ob (hget S.hp id2)):
  Ghost K S ⟨S.env,(id,.dead)::(id2,ob)::S.hp,S.nx⟩:=
 ghost_freezeMD id es' _ _ ho hl hk (fun _=>Sub.keepM) (fun i=>by
  rw[hget_put]
  split
  ·trivial
  ·rw[hget_put]
   split
   ·rename_i h;subst h;exact hob
   ·exact ObSub.keep (fun _=>Sub.keepM) _) (by simp[hget_put])
end
variable{κ α β γ:Type}[DecidableEq κ]
theorem und_rows{e k:Nat}{enc:α->List V}(hi:∀x,Imms (enc x))(l:List α):Und (.dsl e k (l.map enc)) (.lst k (l.map enc)):=
 .sl rfl (fun i r r' h h'=>by rw[h] at h';simp at h';rw[h']) (fun i j r r' c c' h h' hj hj'=>by
  rw[h] at h';simp at h';subst h'
  rw[hj] at hj';simp at hj';subst hj'
  rw[List.getElem?_map,Option.map_eq_some_iff] at h
  obtain⟨x,_,rfl⟩:=h
  exact .imm (hi x c (List.mem_of_getElem? hj)).1)
theorem und_ents{E:γ×α->Value×V}(hi:∀p,Imm (E p).2)(l:List (γ×α)):Und (.dmp (l.map E)) (.imap (l.map E)):=
 .mp rfl (fun i r r' h h'=>by rw[h] at h';simp at h';rw[h']) (fun i r r' h h'=>by
  rw[h] at h';simp at h';subst h'
  rw[List.getElem?_map,Option.map_eq_some_iff] at h
  obtain⟨x,_,rfl⟩:=h
  exact .imm (hi x).1)
theorem und_map{τ:Type}{D E:τ->Value×V}(h:∀x,(D x).1=(E x).1/\Und (D x).2 (E x).2/\Keep (D x).2)(l:List τ)(i:Nat)(p p':Value×V)(hp:(l.map D)[i]? = some p)(hp':(l.map E)[i]? = some p'):p.1=p'.1/\Und p.2 p'.2/\Keep p.2:=by
 rw[List.getElem?_map,Option.map_eq_some_iff] at hp hp'
 obtain⟨x,h1,rfl⟩:=hp
 obtain⟨y,h2,rfl⟩:=hp'
 rw[h1] at h2;simp at h2;subst h2
 exact h x
theorem okeep_ents{τ:Type}{E:τ->Value×V}(hi:∀p,Imm (E p).2)(l:List τ):OKeep (.map (l.map E)):=fun r hr=>by
 obtain⟨x,_,rfl⟩:=List.mem_map.1 hr;exact(hi x).2
def holeN(E:κ×β->Value×V)(nx:Nat)(k0:κ):List (κ×β)->List (Value×V)
 |[]=>[]
 |p::xs=>if p.1=k0 then ((E p).1,.map nx)::xs.map E else E p::holeN E nx k0 xs
theorem lookD_enc(E:κ×List (γ×α)->Value×V)(kf:κ->Value)(enc:γ×α->Value×V)(nx:Nat)(hE:∀p,E p=(kf p.1,.dmp (p.2.map enc)))(hk:∀a b,kf a=kf b->a=b)(k0:κ):
  ∀xs:List (κ×List (γ×α)),(mget xs k0).isSome=true->LookD (kf k0) (.dmp (((mget xs k0).getD []).map enc)) (.map nx) (xs.map E) (holeN E nx k0 xs)
 |[],h=>by simp[mget] at h
 |p::xs,h=>by
  obtain⟨q,l⟩:=p
  simp only[mget] at h
  simp only[List.map_cons,holeN,mget,hE]
  by_cases hq:q=k0
  ·subst hq
   simp only[if_pos,Option.getD_some]
   exact .here
  ·rw[if_neg hq] at h
   rw[if_neg hq,if_neg hq]
   exact .there (fun e=>hq (hk _ _ e)) (lookD_enc E kf enc nx hE hk k0 xs h)
theorem holeN_at(E:κ×List (γ×α)->Value×V)(kf:κ->Value)(enc:γ×α->Value×V)(nx:Nat)(hE:∀p,E p=(kf p.1,.dmp (p.2.map enc)))(k0:κ)(l':List (γ×α)):
  ∀xs:List (κ×List (γ×α)),(mget xs k0).isSome=true->∃i,(holeN E nx k0 xs)[i]? = some (kf k0,.map nx)/\(mput xs k0 l').map E=(holeN E nx k0 xs).set i (kf k0,.dmp (l'.map enc))
 |[],h=>by simp[mget] at h
 |p::xs,h=>by
  obtain⟨q,l⟩:=p
  simp only[mget] at h
  simp only[holeN,mput]
  by_cases hq:q=k0
  ·subst hq
   refine⟨0,?_,?_⟩<;>simp[hE]
  ·rw[if_neg hq] at h
   rw[if_neg hq,if_neg hq]
   obtain⟨i,h1,h2⟩:=holeN_at E kf enc nx hE k0 l' xs h
   exact⟨i+1,by simpa using h1,by rw[List.map_cons,h2];rfl⟩
theorem puts_new(E:κ×List (γ×α)->Value×V)(kf:κ->Value)(enc:γ×α->Value×V)(hE:∀p,E p=(kf p.1,.dmp (p.2.map enc)))(hk:∀a b,kf a=kf b->a=b)(k0:κ)(l':List (γ×α)):
  ∀xs:List (κ×List (γ×α)),Puts (kf k0) (.dmp (l'.map enc)) (xs.map E) ((mput xs k0 l').map E)
 |[]=>by simp only[mput,List.map_cons,List.map_nil,hE];exact .nil
 |p::xs=>by
  obtain⟨q,l⟩:=p
  simp only[mput]
  by_cases h:q=k0
  ·subst h
   simp only[if_pos,hE,List.map_cons];exact .here
  ·rw[if_neg h]
   simp only[hE,List.map_cons]
   exact .there (fun e=>h (hk _ _ e)) (by have:=puts_new E kf enc hE hk k0 l' xs;simpa only[hE] using this)
section
variable{K:Ctx}{Q:Post}{S:St}
theorem ghost_putN(id id2:Nat){xs:List (κ×List (γ×α))}{l':List (γ×α)}{k0:κ}(E:κ×List (γ×α)->Value×V)(kf:κ->Value)(enc:γ×α->Value×V)(hE:∀p,E p=(kf p.1,.dmp (p.2.map enc)))
  (hs:(mget xs k0).isSome=true) (ho:hget S.hp id=.map (holeN E id2 k0 xs)) (ho2:hget S.hp id2=.map (l'.map enc)) (hne:Nat.beq id id2=false) (hi:∀p,Imm (enc p).2):
  Ghost K S ⟨S.env,(id,.map ((mput xs k0 l').map E))::(id2,.dead)::S.hp,S.nx⟩:=by
 obtain⟨i,h1,h2⟩:=holeN_at E kf enc id2 hE k0 l' xs hs
 rw[h2]
 exact ghost_untakeMG id i id2 ho h1 (show ovl (.dmp (l'.map enc)) id2=_ from rfl) ho2 (fun h=>by rw[h,Nat.beq_refl] at hne;simp at hne) (okeep_ents hi l')
end
section
variable{K:Ctx}{Q:Post}{S:St}{s:List It}
variable{ops:Array Oper}{l:List Oper}
theorem getD_mapT{τ:Type}{f:τ->V}{o:Option τ}{z:V}{y:τ}(h:o.isSome=true):(o.map f).getD z=f (o.getD y):=by cases o<;>simp at h ⊢
theorem getD_mapF{τ:Type}{f:τ->V}{o:Option τ}{z:V}(h:o.isSome=false):(o.map f).getD z=z:=by cases o<;>simp at h ⊢
theorem isSomeT{τ:Type}{f:τ->V}{o:Option τ}{b:Bool}(h:o.isSome=b):(o.map f).isSome=b:=by cases o<;>simpa using h
end
section
variable{K:Ctx}{Q:Post}{S:St}
variable{ops:Array Oper}{rest:List Oper}{ty:TypeId}{pos:String}{after:Array Edge}{g:Option (Nat×Bool)}
theorem free_nx:∀m β w a,Rel K m β w a S->β S.nx=none/\∀q,q<K.pins->q≠S.nx:=fun _ _ _ _ r=>⟨r.nx _ (Nat.le_refl _),fun q hq=>Nat.ne_of_lt (r.pin q hq).1⟩
theorem aops_lookup_tkP{d:Nat}{T k e id:Nat}{x y:Operand}{good:Value->Prop}{kv:Value}{es es':List (Value×V)}{dv o:V}{ob:Ob}(hT:tyMap K.P T k e=true)(hK:KeyT K.P k good)
  (hw:Wants ops S ⟨some d,.lookup T x y false,ty,pos,after,g⟩ true) (hx:evl K S x=.map id) (ho:hget S.hp id=.map es) (hy:KeyIs K S y kv) (hg:good kv) (hges:∀p,p∈es->good p.1)
  (hl:LookD kv dv o es es') (hov:ovl dv S.nx=some (o,ob)) (hN:Nat.blt d K.N=true)
  (kk:AOps K ops rest Q ⟨(d,o)::S.env,(id,.map es')::(S.nx,ob)::S.hp,S.nx+1⟩):AOps K ops (⟨some d,.lookup T x y false,ty,pos,after,g⟩::rest) Q S:=
 aops_lookup_takeP S.nx (S.nx+1) free_nx (Nat.lt_succ_self _) (Nat.le_succ _) hT hK hw hx ho hy hg hges hov hl hN kk
theorem HpSub.consE{Y:Hy}{n:Nat}{σ:Nat->Nat}{hp e:Heap}{id:Nat}{ob ob':Ob}(hn:Nat.blt id n=true)(hh:hget hp (σ id)=ob')(h:ObSub Y ob ob')(h':HpSub Y n σ hp e):HpSub Y n σ hp ((id,ob)::e):=.cons hn (by rw[hh];exact h) h'
theorem aops_mcall_atH{d nx:Nat}{f:FuncId}{args:Array Operand}{at':Array TypeId}{avs':List V}{k k':Nat}{hp hp':Heap}{dc:V}(res:List Nat)(hnx:S.nx=nx)(hres:∀i,i∈res->hget S.hp i=.res)
  (dv:V) (avs:List V) (σ τ:Nat->Nat) (u:Heap) (hf:fnOk K.P f=true)
  (hw:Wants ops S ⟨some d,.call ⟨.value (.func f),args,at'⟩,ty,pos,after,g⟩ true) (hN:Nat.blt d K.N=true) (ha:args.toList.map (evl K S)=avs)
  (hsub:Subs (Ren k σ) avs' avs) (hhp:HpSub (Ren k σ) k σ S.hp hp) (hc:MutG K.gl K.P f avs' k hp dc k' hp')
  (hto:toB k k' nx nx σ τ (fun i=>res.any fun j=>Nat.beq i j)=true) (hτ:injB k' τ=true) (hkk:Nat.ble k k'=true) (hpins:(res.all fun i=>Nat.ble K.pins i)=true)
  (hdv:Sub (To k' τ) dv dc) (hu:HpTo (To k' τ) τ hp' k' 0 u)
  (kk:AOps K ops rest Q ⟨(d,dv)::S.env,u++S.hp,S.nx⟩):AOps K ops (⟨some d,.call ⟨.value (.func f),args,at'⟩,ty,pos,after,g⟩::rest) Q S:=by
 subst hnx
 have hfree:∀i,(res.any fun j=>Nat.beq i j)=true->i∈res:=by
  intro i hi
  obtain⟨j,hj,e⟩:=List.any_eq_true.1 hi
  rw[Nat.eq_of_beq_eq_true e];exact hj
 exact aops_mcalls σ τ S.nx u (fun i=>res.any fun j=>Nat.beq i j) hw rfl hN (mcall_run hf ha) hsub (HpSub.get hhp) hc
  (fun i hi=>hres i (hfree i hi)) hto hτ (Nat.ble_eq_true_of_le (by omega)) hkk
  (fun i hi=>Nat.le_of_ble_eq_true (List.all_eq_true.1 hpins i (hfree i hi))) hdv hu kk
def sameAll(ts:List Nat)(v:V)(e:Env):Env:=match ts with|[]=>e|t::ts=>(t,v)::sameAll ts v e
theorem sameAll_sub{Y:Hy}{v v0:V}{env:Env}(hk:∀v,Sub Y v v)(h:Sub Y v v0):∀(ts:List Nat),(∀t,t∈ts->get env t=v0)->∀t',Sub Y (get (sameAll ts v env) t') (get env t')
 |[],_,t'=>hk _
 |t::ts,hh,t'=>by
  rw[sameAll,get_put]
  split
  ·rename_i he;subst he;rw[hh t (by simp)];exact h
  ·exact sameAll_sub hk h ts (fun q hq=>hh q (List.mem_cons_of_mem _ hq)) t'
theorem ghost_frzEs(id:Nat)(ts:List Nat){e k n:Nat}{rows:List (List V)}(ho:hget S.hp id=.arr e k rows)(hi:∀row,row∈rows->Imms row)
  (ht:∀t,t∈ts->get S.env t=.own id n) (hn:n=rows.length):Ghost K S ⟨sameAll ts (.lst k rows) S.env,(id,.dead)::S.hp,S.nx⟩:=
 ghost_freeze id _ _ ho hi (sameAll_sub (fun _=>Sub.keep) (Sub.frzAll hn) ts ht) hpFrz0 (by simp[hget_put])
inductive Zs:List V->List Value->Prop
 |nil:Zs [] []
 |con {v:Value} {cs:List V} {vs:List Value} (h:Zs cs vs):Zs (.con v::cs) (v::vs)
 |sl {k:Nat} {cs:List V} {vs:List Value} (h:Zs cs vs):Zs (.lst k []::cs) (.slice none 0 0::vs)
theorem Zs.ok{cs:List V}{vs:List Value}(h:Zs cs vs)(m:Mem):cs.length=vs.length/\∀(i:Nat) c v,cs[i]? = some c->vs[i]? = some v->IRel m c v:=by
 induction h with
 |nil=>exact⟨rfl,by simp⟩
 |con h ih=>
  refine⟨by simp[ih.1],fun i c v a b=>?_⟩
  cases i with
  |zero=>simp at a b;subst a;subst b;exact .con _
  |succ i=>exact ih.2 i c v (by simpa using a) (by simpa using b)
 |sl h ih=>
  refine⟨by simp[ih.1],fun i c v a b=>?_⟩
  cases i with
  |zero=>simp at a b;subst a;subst b;exact .nil _ _ _
  |succ i=>exact ih.2 i c v (by simpa using a) (by simpa using b)
theorem irel_aggZ{cs:List V}{vs:List Value}(h:Zs cs vs):∀m:Mem,IRel m (.agg cs) (.agg vs.toArray):=fun m=>
 .agg (by simpa using (h.ok m).1) (fun i c v a b=>(h.ok m).2 i c v a (by simpa using b))
end
end Go.Pv
namespace Go.Pv
open Go
set_option linter.unusedVariables false
set_option linter.unusedSimpArgs false
open Go.ChangeMaps (setBlock)
section
variable{K:Ctx}{Q:Post}{S:St}
variable{m:Mem}{β:Locs}{w:World}{a:Act}
variable{ops:Array Oper}{rest:List Oper}{ty:TypeId}{pos:String}{after:Array Edge}{g:Option (Nat×Bool)}
end
inductive EnvFz(Y:Hy)(env:Env):Env->Prop
 |refl:EnvFz Y env env
 |put {e:Env} {t:Nat} {v v0:V} (ht:get env t=v0) (hv:Sub Y v v0) (h:EnvFz Y env e):EnvFz Y env ((t,v)::e)
theorem EnvFz.get{Y:Hy}{env e:Env}(hk:∀v,Sub Y v v)(h:EnvFz Y env e)(t:Nat):Sub Y (get e t) (get env t):=by
 induction h with
 |refl=>exact hk _
 |put ht hv _ ih=>
  rw[get_put]
  split
  ·rename_i he;subst he;rw[ht];exact hv
  ·exact ih
inductive HpFz(Y:Hy)(hp:Heap):Heap->Prop
 |refl:HpFz Y hp hp
 |put {e:Heap} {t:Nat} {v v0:Ob} (ht:hget hp t=v0) (hv:ObSub Y v v0) (h:HpFz Y hp e):HpFz Y hp ((t,v)::e)
theorem HpFz.get{Y:Hy}{hp e:Heap}(hk:∀v,ObSub Y v v)(h:HpFz Y hp e)(t:Nat):ObSub Y (hget e t) (hget hp t):=by
 induction h with
 |refl=>exact hk _
 |put ht hv _ ih=>
  rw[hget_put]
  split
  ·rename_i he;subst he;rw[ht];exact hv
  ·exact ih
section
variable{K:Ctx}{S:St}
end
def leT(a b:List UInt8):Bool:=!(Op.bytesLess b a)
def canonM{α:Type}(l:List (List UInt8×α)):List (List UInt8×α):=l.mergeSort fun a b=>leT a.1 b.1
theorem canonM_perm{α:Type}(l:List (List UInt8×α)):(canonM l).Perm l:=List.mergeSort_perm _ _
def RM{α:Type}(n:Nat)(l:List α)(P:Prop):Prop:=l.length<n/\P
theorem RM.zero{α:Type}{l:List α}{P:Prop}{X:Prop}(h:RM 0 l P):X:=absurd h.1 (Nat.not_lt_zero _)
theorem RM.start{α:Type}{l:List α}{P:Prop}(h:P):RM (l.length+1) l P:=⟨Nat.lt_succ_self _,h⟩
theorem RM.step{α:Type}{l l':List α}{n:Nat}{P P':Prop}(h:RM (n+1) l P)(hq:l'.length<l.length)(h':P'):RM n l' P':=⟨by have:=h.1;omega,h'⟩
section
variable{K:Ctx}{Q:Post}{S:St}{s:List It}
variable{ops:Array Oper}{rest:List Oper}{ty:TypeId}{pos:String}{after:Array Edge}{g:Option (Nat×Bool)}
end
end Go.Pv
namespace Go.Pv
open Go Go.RowKit
set_option linter.unusedVariables false
set_option linter.unusedSimpArgs false
def tsort(l:List (List UInt8)):List (List UInt8):=l.mergeSort fun x y=>decide (x<=y)
open Go.Sort in
theorem mut_sortStr{gl:Gl}{P:Program}{f:FuncId}{k id:Nat}{hp:Heap}{e:TypeId}(l:List (List UInt8))(hid:hget hp id=.arr e 1 (l.map fun x=>[V.con (str x)]))
  (h:∀(blk off cap:Nat) (zs:List (List UInt8)) (w:World),Holds str w blk off zs.toArray->blk<w.heap.size->zs.length<4611686018427387904->Calls P f #[.slice (some ⟨blk,off,none⟩) zs.length cap] w fun e w'=>
   e=.returned (.tuple #[])/\∃n os,w'=grow (putRow str (Sort.ahead w n) blk off (zs.mergeSort fun x y=>decide (x<=y)).toArray) os)
  (hn:∀(p:Option Addr) (w:World),Calls P f #[.slice p 0 0] w fun e w'=>e=.returned (.tuple #[])/\w'=w) (hc:l.length<4611686018427387904):
  MutG gl P f [.own id l.length] k hp (.tup []) k ((id,.arr e 1 ((tsort l).map fun x=>[V.con (str x)]))::hp):=
 mut_sortG str (fun _=>rfl) l (tsort l) hid (List.length_mergeSort _) (fun w blk off cap hH hb=>h blk off cap l w hH hb hc) (fun w a _=>(hn a w).mono (by rintro e w' ⟨rfl,rfl⟩;exact⟨rfl,Below.refl _ _,Nat.le_refl _⟩))
end Go.Pv
namespace Go.Pv
open Go Go.RowKit Go.Sort Go.Proofs
def cltM{T:Type}(cmp:T->T->Option Int)(x y:T):Bool:=match cmp x y with|some c=>decide (c<0)|none=>false
def swoM{T:Type}(cmp:T->T->Option Int)(l:List T):Bool:=
 l.all fun x=>!cltM cmp x x&&l.all fun y=>(cmp x y).isSome&&l.all fun z=>(!(cltM cmp x y&&cltM cmp y z)||cltM cmp x z)&&(cltM cmp x y||cltM cmp y z||!cltM cmp x z)
structure RowT{T:Type}(l:List T)(enc:T->List V)(k:Nat)(m:Mem) where
 t:T
 mem:t∈l
 vs:List Value
 hl:vs.length=k
 h1:∀v∈vs,v.oneCell'=true
 rel:∀(j:Nat) (c:V) (v:Value),(enc t)[j]? = some c->vs[j]? = some v->IRel m c v
theorem grew_grow{m m':Mem}{w w':World}(h:Grew m m' w w'):∃q os,w'=grow (w.drewN q) os:=by
 obtain⟨q,hq⟩:=Nat.exists_eq_add_of_le h.same.drawn
 refine⟨q,w'.heap.extract w.heap.size w'.heap.size,?_⟩
 have hh:w'.heap=w.heap++w'.heap.extract w.heap.size w'.heap.size:=by
  apply Array.ext'
  simp only[Array.toList_append,Array.toList_extract]
  apply List.ext_getElem?
  intro i
  by_cases hi:i<w.heap.size
  ·rw[List.getElem?_append_left (by simpa using hi)]
   have:=h.heap i hi
   simpa using this
  ·rw[List.getElem?_append_right (by simpa using Nat.le_of_not_lt hi)]
   have hs:=h.size
   by_cases h2:i<w'.heap.size
   ·rw[List.getElem?_take_of_lt (by simp;omega),List.getElem?_drop]
    congr 1
    simp;omega
   ·rw[List.getElem?_eq_none (by simpa using h2),List.getElem?_eq_none (by simp;omega)]
 obtain⟨h0,h1,h2,h3,h4⟩:=w
 obtain⟨g0,g1,g2,g3,g4⟩:=w'
 have s1:=h.same.os;have s2:=h.same.tape;have s3:=h.same.output
 simp only at hh hq s1 s2 s3
 subst s1 s2 s3 hq
 simp only[grow,World.drewN]
 rw[<-hh]
theorem pair_of_sorted{α T:Type}[Inhabited α]{f:α->T}{r:T->T->Prop}{d:Array α}(h:∀i j,0<=i->i<j->j<d.size->r (f d[i]!) (f d[j]!)):(d.toList.map f).Pairwise r:=by
 rw[List.pairwise_iff_getElem]
 intro i j hi hj hij
 have hi':i<d.size:=by simpa using hi
 have hj':j<d.size:=by simpa using hj
 have:=h i j (Nat.zero_le _) hij hj'
 rw[getElem!_pos d i hi',getElem!_pos d j hj'] at this
 simpa using this
end Go.Pv
namespace Go.Pv
open Go
set_option linter.unusedVariables false
theorem split_rows(s sep:List UInt8):(Lib.splitB ⟨sep.toArray⟩ 0 (Lib.countB ⟨s.toArray⟩ ⟨sep.toArray⟩) ⟨s.toArray⟩).map (fun b=>b.data.toList)=Lib.split s sep:=by
 rw[Lib.splitB_data]
 rfl
theorem cell0{gl:Gl}{m:Mem}{w:World}{g:Nat}{k:IntKind}{z:Int}(himm:∀(b:Nat) o,m b=some o->w.heap[b]? = some o)(hgl:GlOk gl m)(hg:glk gl g=some [.con (.int k z)]):w.cell? ⟨g,0,none⟩=some (.int k z):=by
 obtain⟨hr,arr,T,fr,hm,hsz⟩:=hgl g _ hg
 cases hr with
 | @iptr _ _ _ arr' T' fr' f base hm' hs ho hf h=>
  rw[hm] at hm'
  cases hm'
  have hb:base=0:=by simp at ho;omega
  subst hb
  have e1:=hf 0 (by simp)
  have e2:=h 0 (V.con (.int k z)) (by simp)
  rw[Nat.zero_add] at e1
  generalize f 0=v at e1 e2
  cases e2
  simp[World.cell?,himm _ _ hm,e1]
theorem pure_split{gl:Gl}{P:Program}{f:FuncId}{s sep:List UInt8}{g:Nat}{mx:Int}{T:TypeId}(hg:glk gl g=some [.con (.int .i64 mx)])(hc:s.length<4294967281/\1<=sep.length)
  (h:∀w:World,(⟨s.toArray⟩:ByteArray).size<4294967281->w.cell? ⟨g,0,none⟩=some (.int .i64 mx)->1<=(⟨sep.toArray⟩:ByteArray).size->Calls P f #[.string ⟨s.toArray⟩,.string ⟨sep.toArray⟩] w fun e w'=>
   e=.returned (.slice (some ⟨w.heap.size,0,none⟩) (Lib.countB ⟨s.toArray⟩ ⟨sep.toArray⟩+1) (Lib.countB ⟨s.toArray⟩ ⟨sep.toArray⟩+1))/\
    w'=w.alloc (.cells ((Lib.splitB ⟨sep.toArray⟩ 0 (Lib.countB ⟨s.toArray⟩ ⟨sep.toArray⟩) ⟨s.toArray⟩).map Value.string).toArray T)):
  PureG gl P f [sV s,sV sep] (.lst 1 ((Lib.split s sep).map fun x=>[sV x])):=by
 have e1:(⟨s.toArray⟩:ByteArray).size=s.length:=by simp[ByteArray.size]
 have e2:(⟨sep.toArray⟩:ByteArray).size=sep.length:=by simp[ByteArray.size]
 have hle:=Lib.countB_le ⟨sep.toArray⟩ (by rw[e2];exact hc.2) _ ⟨s.toArray⟩ (Nat.le_refl _)
 have hlen:=Lib.splitB_all ⟨sep.toArray⟩ (by rw[e2];exact hc.2) 0 _ ⟨s.toArray⟩ rfl
 intro m w vs himm hgl hvs
 obtain rfl:=irels_con (l:=[str s,str sep]) hvs
 refine(h w (by rw[e1];exact hc.1) (cell0 himm hgl hg) (by rw[e2];exact hc.2)).mono ?_
 rintro e w' ⟨rfl,rfl⟩
 rw[<-World.alloc_eq]
 generalize hB:Lib.splitB ⟨sep.toArray⟩ 0 (Lib.countB ⟨s.toArray⟩ ⟨sep.toArray⟩) ⟨s.toArray⟩=B at hlen
 have hrows:(Lib.split s sep).map (fun x=>[sV x])=B.map (fun b=>[V.con (.string b)]):=by
  rw[<-split_rows,hB,List.map_map]
  apply List.map_congr_left
  intro b _
  rfl
 let o:Obj:=.cells (B.map Value.string).toArray T
 let m':Mem:=fun b=>if b=w.heap.size then some o else m b
 have hnone:m w.heap.size=none:=by
  cases hm:m w.heap.size with
  |none=>rfl
  |some o'=>have:=lt_of_some (himm _ _ hm);omega
 have hlem:m.le m':=by
  intro b o h
  have:b≠w.heap.size:=by intro e;rw[e,hnone] at h;simp at h
  simp[m',this,h]
 refine⟨_,m',rfl,?_,⟨hlem,?_,?_,?_,by simp[-World.alloc_eq],⟨rfl,rfl,rfl,Nat.le_refl _⟩⟩⟩
 ·rw[hrows]
  refine .lst (arr:=(B.map Value.string).toArray) (T:=T) (fr:=(0,0)) (fun i=>((B.map Value.string).toArray[i]?).getD undef) (show m' w.heap.size=_ by simp[m',o]) rfl (by rw[List.length_map];exact hlen) (Nat.le_refl _) ?_ ?_ ?_ ?_
  ·unfold maxLen;rw[e1] at hle;have:=hc.1;omega
  ·intro row hr
   obtain⟨b,_,rfl⟩:=List.mem_map.1 hr
   rfl
  ·intro i hi
   rw[List.length_map,Nat.mul_one] at hi
   simp[hi]
  ·intro i j row c hi hj
   rw[List.getElem?_map] at hi
   cases hx:B[i]? with
   |none=>rw[hx] at hi;simp at hi
   |some b=>
    rw[hx] at hi
    simp only[Option.map_some,Option.some.injEq] at hi
    subst hi
    match j with
    |0=>
     simp only[List.getElem?_cons_zero,Option.some.injEq] at hj
     subst hj
     simp[hx]
     exact .con _
    |j+1=>simp at hj
 ·intro b o' h
  by_cases hb:b=w.heap.size
  ·subst hb;simp[m',o] at h;simp[-World.alloc_eq,h]
  ·simp[m',hb] at h
   have:=lt_of_some (himm _ _ h)
   simp only[Array.getElem?_push];rw[if_neg hb];exact himm _ _ h
 ·intro b hb
  have:b≠w.heap.size:=by omega
  simp[m',this]
 ·intro b hb
  simp only[Array.getElem?_push];rw[if_neg (by omega)]
theorem pure_cut{gl:Gl}{P:Program}{f:FuncId}{s sep:List UInt8}{g:Nat}{mx:Int}(hg:glk gl g=some [.con (.int .i64 mx)])(hc:s.length<4294967281)
  (h:∀w:World,(⟨s.toArray⟩:ByteArray).size<4294967281->w.cell? ⟨g,0,none⟩=some (.int .i64 mx)->Calls P f #[.string ⟨s.toArray⟩,.string ⟨sep.toArray⟩] w fun e w'=>
   e=.returned (.tuple #[.string ⟨(Lib.cut s sep).1.toArray⟩,.string ⟨(Lib.cut s sep).2.1.toArray⟩,.bool (Lib.cut s sep).2.2])/\∃n,w'=w.drewN n):
  PureG gl P f [sV s,sV sep] (.tup [sV (Lib.cut s sep).1,sV (Lib.cut s sep).2.1,bV (Lib.cut s sep).2.2]):=by
 have e1:(⟨s.toArray⟩:ByteArray).size=s.length:=by simp[ByteArray.size]
 intro m w vs himm hgl hvs
 obtain rfl:=irels_con (l:=[str s,str sep]) hvs
 refine(h w (by rw[e1];exact hc) (cell0 himm hgl hg)).mono ?_
 rintro e w' ⟨rfl,n,rfl⟩
 refine⟨_,m,rfl,.tup rfl (fun i c v h1 h2=>?_),Mem.le_refl _,fun b o h=>himm b o h,fun b hb=>rfl,fun b hb=>rfl,Nat.le_refl _,⟨rfl,rfl,rfl,Nat.le_add_right _ _⟩⟩
 match i,h1 with
 |0,h1=>simp at h1 h2;subst h1 h2;exact .con _
 |1,h1=>simp at h1 h2;subst h1 h2;exact .con _
 |2,h1=>simp at h1 h2;subst h1 h2;exact .con _
 |i+3,h1=>simp at h1
end Go.Pv
