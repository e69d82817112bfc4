/- Part of the proof: DO, DR, ZC, ZS, ZV, DA, DS, DT. -/
import Derived.Test.YtcihpgamojpcnaaGreatFewDN
import Derived.Test.YtcihpgamojpcnaaGreatFewWA
import Derived.Test.YtcihpgamojpcnaaGreatFewZA
import Derived.Maps.RangeRun
import Derived.Lib.SlicesCompact
import Derived.Shelf.SlSortCmp.NoneTotal
import Derived.Lib.SlicesDelete
import Derived.Lib.SliceRun
namespace Go.Pv
open Go
section
variable{K:Ctx}{Q:Post}{S:St}
variable{m:Mem}{β:Locs}{w:World}{a:Act}
variable{ops:Array Oper}{rest:List Oper}{ty:TypeId}{pos:String}{after:Array Edge}{g:Option (Nat×Bool)}
theorem ghost_freezeMD(id:Nat){es:List (Value×V)}(es':List (Value×V))(env:Env)(hp:Heap)(ho:hget S.hp id=.map es)(hl:es.length=es'.length)
  (hk:∀(i:Nat) (p p':Value×V),es[i]? = some p->es'[i]? = some p'->p.1=p'.1/\Und p.2 p'.2/\Keep p.2)
  (henv:∀t,Sub (FrzM id es') (get env t) (get S.env t)) (hhp:∀i,ObSub (FrzM id es') (hget hp i) (hget S.hp i)) (hd:hget hp id=.dead):Ghost K S ⟨env,hp,S.nx⟩:=by
 intro m β w a r
 have hlid:hget S.hp id≠.dead:=by rw[ho];simp
 obtain⟨b,cap,hb⟩:=map_loc r ho
 have hown:=r.own id
 rw[ho,hb] at hown
 obtain⟨ents,clock,bl,h1,h2,hBl,h6⟩:=hown
 have hp':=r.priv id b cap hlid hb
 have key:∃m',(∀b o,m' b=some o->w.heap[b]? = some o)/\FrzM id es' m β m' β/\(∀b',m' b'=m b'\/(∃cap,β id=some (some (b',cap)))\/β.hid id b'):=by
  classical
  let m':Mem:=fun b'=>if b'=b\/β.hid id b' then w.heap[b']? else m b'
  have hmb:∀x,(x=b\/β.hid id x)->m' x=w.heap[x]?:=fun x h=>by simp only[m'];rw[if_pos h]
  have hmo:∀x,¬(x=b\/β.hid id x)->m' x=m x:=fun x h=>by simp only[m'];rw[if_neg h]
  have hle:m.le m':=by
   intro b' o h
   rw[hmo]
   ·exact h
   ·rintro(e'|e')
    ·subst e';rw[hp'.1] at h;simp at h
    ·rw[(r.hid id b' hlid e').m] at h;simp at h
  refine⟨m',?_,⟨hle,rfl,?_⟩,?_⟩
  ·intro b' o h
   by_cases hbb:b'=b\/β.hid id b'
   ·rw[hmb b' hbb] at h;exact h
   ·rw[hmo b' hbb] at h;exact r.imm _ _ h
  ·intro x hx
   cases hx with
   |imm h=>cases h
   | @map _ b2 cap2 h=>
    rw[hb] at h
    simp only[Option.some.injEq,Prod.mk.injEq] at h
    obtain⟨rfl,rfl⟩:=h
    refine .imap (by rw[hmb b (.inl rfl)];exact h1) (by omega) (fun i p e hi he=>?_) (fun i p e hi he=>?_)
    ·have hlt:i<es.length:=by rw[hl];exact(List.getElem?_eq_some_iff.1 hi).1
     rw[(h6 i _ e (List.getElem?_eq_getElem hlt) he).1]
     exact(hk i _ p (List.getElem?_eq_getElem hlt) hi).1
    ·have hlt:i<es.length:=by rw[hl];exact(List.getElem?_eq_some_iff.1 hi).1
     obtain⟨u1,u2,u3⟩:=hk i _ p (List.getElem?_eq_getElem hlt) hi
     have hd:DRel m w (bl i) es[i].2 e.val:=(h6 i _ e (List.getElem?_eq_getElem hlt) he).2.elim (fun h=>.imm (u3 _ _ _ h)) (fun h=>h)
     exact hd.und hle p.2 u2 (fun x hx=>hmb x (.inr (hBl.1 _ x hx)))
  ·intro b'
   by_cases hbb:b'=b\/β.hid id b'
   ·rcases hbb with h|h
    ·exact .inr (.inl ⟨cap,by rw[h];exact hb⟩)
    ·exact .inr (.inr h)
   ·exact .inl (hmo b' hbb)
 obtain⟨m',k1,hy,k2⟩:=key
 have hlive:∀i,hget hp i≠.dead->hget S.hp i≠.dead/\i≠id:=by
  intro i h
  have h2:=hhp i
  refine⟨fun hdd=>?_,fun he=>h (by rw[he];exact hd)⟩
  rw[hdd] at h2
  cases ho':hget hp i with
  |dead=>exact h ho'
  |arr=>rw[ho'] at h2;simp[ObSub] at h2
  |res=>rw[ho'] at h2;simp[ObSub] at h2
  |map=>rw[ho'] at h2;simp[ObSub] at h2
  |iter=>rw[ho'] at h2;simp[ObSub] at h2
  |bld=>rw[ho'] at h2;simp[ObSub] at h2
 refine⟨m',β,?_⟩
 constructor
 ·exact k1
 ·exact Mem.le_trans r.ext hy.1
 ·intro b hb' hold
  rcases k2 b with h|⟨cap2,h⟩|h
  ·rw[h];exact r.mold b hb' hold
  ·exact absurd hold ((r.priv id b _ hlid h).2 hb')
  ·exact absurd hold ((r.hid id b hlid h).old hb')
 ·exact r.frame
 ·exact r.size
 ·exact r.same
 ·exact r.tn
 ·exact r.df
 ·exact fun t=>henv t _ _ _ _ _ hy (r.env t)
 ·intro i
  exact(hhp i).ok hy (r.own i)
 ·intro i b cap hl hb'
  obtain⟨h1,h2⟩:=hlive i hl
  have hp':=r.priv i b cap h1 hb'
  refine⟨?_,hp'.2⟩
  rcases k2 b with h|⟨cap',h⟩|h
  ·rw[h];exact hp'.1
  ·exact absurd (r.inj i id b cap cap' h1 hlid hb' h) h2
  ·exact absurd rfl ((r.hid id b hlid h).ne i b cap h1 hb')
 ·intro i i' b cap cap' hl hl'
  exact r.inj i i' b cap cap' (hlive i hl).1 (hlive i' hl').1
 ·intro i x hl hx
  obtain⟨h1,h2⟩:=hlive i hl
  have h:=r.hid i x h1 hx
  refine⟨h.lt,?_,h.old,fun i' b c hi'=>h.ne i' b c (hlive i' hi').1,fun i' hi'=>h.un i' (hlive i' hi').1⟩
  rcases k2 x with h'|⟨cap',h'⟩|h'
  ·rw[h'];exact h.m
  ·exact absurd rfl (h.ne id x cap' hlid h')
  ·exact absurd (h.un id hlid h') (Ne.symm h2)
 ·exact r.nx
 ·exact r.pin
theorem aops_lookup_takeG(id0 nx':Nat)(hfr:∀m β w a,Rel K m β w a S->β id0=none/\∀q,q<K.pins->q≠id0)(hlt0:id0<nx')(hle0:S.nx<=nx'){d:Nat}{T k e e' k' id:Nat}{x y:Operand}{good:Value->Prop}{kv:Value}{es es':List (Value×V)}{rws:List (List V)}(hT:tyMap K.P T k e=true)(hK:KeyT K.P k good)
  (hz:(K.P.info? e).bind (·.zero)=some (.slice none 0 0))
  (hw:Wants ops S ⟨some d,.lookup T x y false,ty,pos,after,g⟩ true) (hx:evl K S x=.map id) (ho:hget S.hp id=.map es) (hy:KeyIs K S y kv) (hg:good kv) (hges:∀p,p∈es->good p.1)
  (hl:LookT kv id0 e' k' es es' rws) (hN:Nat.blt d K.N=true)
  (kk:AOps K ops rest Q ⟨(d,.own id0 rws.length)::S.env,(id,.map es')::(id0,.arr e' k' rws)::S.hp,nx'⟩):AOps K ops (⟨some d,.lookup T x y false,ty,pos,after,g⟩::rest) Q S:=by
 refine aops_runs hw (fun m β w a r=>?_) kk
 have h:=r.reads x
 rw[hx] at h
 obtain⟨b,ents,clock,e1,⟨E,e2,eP,eW⟩,e3,e4⟩:=(MapIs.own ho).read r h
 have hobj:(getObj b).run K.P w=.ok (.map E clock) w:=by simp[getObj,Sem.run,e2]
 have hzr:(zeroValue e).run K.P w=.ok (.slice none 0 0) w:=by
  cases hi:K.P.info? e with
  |none=>simp[hi] at hz
  |some i=>
   simp[hi] at hz
   simp only[zeroValue,Sem.run_bind,run_typeInfo w hi,Result.andThen_ok,hz];rfl
 have hbloc:=map_loc r ho
 have hidn:id≠id0:=fun h=>by obtain⟨b,cap,hb⟩:=hbloc;rw[h,(hfr m β w a r).1] at hb;simp at hb
 have hswap:∀(m':Mem) (β':Locs) (o1 o2:Ob) (n:Nat),Rel K m' β' w a ⟨S.env,(id0,o2)::(id,o1)::S.hp,n⟩->Rel K m' β' w a ⟨S.env,(id,o1)::(id0,o2)::S.hp,n⟩:=by
  intro m' β' o1 o2 n rr
  refine rr.congr (fun _=>rfl) (fun t=>?_) rfl
  show hget ((id,o1)::(id0,o2)::S.hp) t=hget ((id0,o2)::(id,o1)::S.hp) t
  rw[hget_put,hget_put,hget_put,hget_put]
  by_cases h1:id=t<;>by_cases h2:id0=t
  ·exact absurd (h1.trans h2.symm) hidn
  ·rw[if_pos h1,if_neg h2,if_pos h1]
  ·rw[if_neg h1,if_pos h2,if_pos h2]
  ·rw[if_neg h1,if_neg h2,if_neg h2,if_neg h1]
 rcases hl.cases with ⟨h1,h2,h3⟩|⟨i,h1,h2,h3⟩
 ·subst h1 h2
  rcases found hK hg e3 (fun i p e a b=>(e4 i p e a b).1) hges eP eW (w:=w) with ⟨a1,a2,_⟩|⟨j,p,en,jE,a1,a2,a3,a4,a5,aE⟩
  ·obtain⟨β',hle,hβ,r3⟩:=r.adopt id0 nx' (hfr m β w a r).1 (hfr m β w a r).2 hlt0 hle0 none (.arr e' k' []) (fun b c hb=>by simp at hb) (fun _ _=>rfl)
   have r4:Rel K m β' w a ⟨S.env,(id,.map es')::(id0,.arr e' k' [])::S.hp,nx'⟩:=by
    refine r3.congr (fun _=>rfl) (fun t=>?_) rfl
    show hget ((id,.map es')::(id0,.arr e' k' [])::S.hp) t=hget ((id0,.arr e' k' [])::S.hp) t
    rw[hget_put]
    split
    ·rename_i h;subst h;rw[hget_put,if_neg (Ne.symm hidn),ho]
    ·rfl
   refine⟨_,w,m,β',.inl ?_,r4.put hN (.ownNil (ad:=none) hβ)⟩
   simp only[execOp,e1,hy.read r]
   refine run_value ?_
   simp only[Instr.lookup,Sem.run_bind,run_underlying (tyMap_inv hT),Result.andThen_ok,hobj,pure,Sem.run,hK.check _ w kv hg,a1,hzr]
   rfl
  ·exact absurd a4 (h3 p (List.mem_of_getElem? a3))
 ·obtain⟨m',β',r2⟩:=r.takeM id i id0 nx' (hfr m β w a r).1 (hfr m β w a r).2 hlt0 hle0 ho h1 (show ovl (.dsl e' k' rws) id0=_ from rfl)
  rw[<-h2] at r2
  have hx2:VRel m' β' (.map id) (a.eval x):=by
   have:=(r2.reads x)
   exact(show evl K ⟨S.env,(id,.map es')::(id0,.arr e' k' rws)::S.hp,nx'⟩ x=.map id by cases x<;>exact hx) ▸ this
  obtain⟨b2,ents2,clock2,f1,⟨E2,f2,fP,fW⟩,f3,f4⟩:=(MapIs.own (S:=⟨S.env,(id,.map es')::(id0,.arr e' k' rws)::S.hp,nx'⟩) (id:=id) (es:=es') (by simp[hget_put])).read r2 hx2
  have hges':∀p,p∈es'->good p.1:=by
   intro p hp
   rw[h2] at hp
   rcases List.mem_or_eq_of_mem_set hp with h|h
   ·exact hges p h
   ·rw[h];exact hg
  have hobj2:(getObj b2).run K.P w=.ok (.map E2 clock2) w:=by simp[getObj,Sem.run,f2]
  rcases found hK hg f3 (fun i p e a b=>(f4 i p e a b).1) hges' fP fW (w:=w) with ⟨a1,a2,_⟩|⟨j,p,en,jE,a1,a2,a3,a4,a5,aE⟩
  ·have:=h3.none_of a2;simp at this
  ·have hp:p=(kv,p.2):=by rw[<-a4]
   rw[hp] at a3
   have hr:=h3.some_of j p.2 a3 a5
   simp only[Option.some.injEq] at hr
   refine⟨en.val,w,m',β',.inl ?_,r2.put hN ?_⟩
   ·simp only[execOp,f1,hy.read r]
    refine run_value ?_
    simp only[Instr.lookup,Sem.run_bind,run_underlying (tyMap_inv hT),Result.andThen_ok,hobj2,pure,Sem.run,hK.check _ w kv hg,a1]
    rfl
   ·rw[hr];exact(f4 j _ en a3 a2).2 (by rw[<-hr];rfl)
inductive LookD(x:Value)(d o:V):List (Value×V)->List (Value×V)->Prop
 |here {es:List (Value×V)}:LookD x d o ((x,d)::es) ((x,o)::es)
 |there {q:Value} {v:V} {es es':List (Value×V)} (h:q≠x) (h':LookD x d o es es'):LookD x d o ((q,v)::es) ((q,v)::es')
theorem LookD.at{x:Value}{d o:V}{es es':List (Value×V)}(h:LookD x d o es es'):∃i,es[i]? = some (x,d)/\es'=es.set i (x,o)/\Look x es' (some o):=by
 induction h with
 |here=>exact⟨0,rfl,rfl,.here⟩
 | @there q v es es' h h' ih=>
  obtain⟨i,h1,h2,h3⟩:=ih
  exact⟨i+1,by simpa using h1,by rw[h2];rfl,.there h h3⟩
theorem aops_lookup_takeP(id0 nx':Nat)(hfr:∀m β w a,Rel K m β w a S->β id0=none/\∀q,q<K.pins->q≠id0)(hlt0:id0<nx')(hle0:S.nx<=nx'){d:Nat}{T k e id:Nat}{x y:Operand}{good:Value->Prop}{kv:Value}{es es':List (Value×V)}{dv o:V}{ob:Ob}(hT:tyMap K.P T k e=true)(hK:KeyT K.P k good)
  (hw:Wants ops S ⟨some d,.lookup T x y false,ty,pos,after,g⟩ true) (hx:evl K S x=.map id) (ho:hget S.hp id=.map es) (hy:KeyIs K S y kv) (hg:good kv) (hges:∀p,p∈es->good p.1)
  (hov:ovl dv id0=some (o,ob)) (hl:LookD kv dv o es es') (hN:Nat.blt d K.N=true)
  (kk:AOps K ops rest Q ⟨(d,o)::S.env,(id,.map es')::(id0,ob)::S.hp,nx'⟩):AOps K ops (⟨some d,.lookup T x y false,ty,pos,after,g⟩::rest) Q S:=by
 refine aops_runs hw (fun m β w a r=>?_) kk
 obtain⟨i,h1,h2,h3⟩:=hl.at
 obtain⟨m',β',r2⟩:=r.takeM id i id0 nx' (hfr m β w a r).1 (hfr m β w a r).2 hlt0 hle0 ho h1 hov
 rw[<-h2] at r2
 have hx2:VRel m' β' (.map id) (a.eval x):=by
  have:=(r2.reads x)
  exact(show evl K ⟨S.env,(id,.map es')::(id0,ob)::S.hp,nx'⟩ x=.map id by cases x<;>exact hx) ▸ this
 obtain⟨b2,ents2,clock2,f1,⟨E2,f2,fP,fW⟩,f3,f4⟩:=(MapIs.own (S:=⟨S.env,(id,.map es')::(id0,ob)::S.hp,nx'⟩) (id:=id) (es:=es') (by simp[hget_put])).read r2 hx2
 have hges':∀p,p∈es'->good p.1:=by
  intro p hp
  rw[h2] at hp
  rcases List.mem_or_eq_of_mem_set hp with h|h
  ·exact hges p h
  ·rw[h];exact hg
 have hobj2:(getObj b2).run K.P w=.ok (.map E2 clock2) w:=by simp[getObj,Sem.run,f2]
 rcases found hK hg f3 (fun i p e a b=>(f4 i p e a b).1) hges' fP fW (w:=w) with ⟨a1,a2,_⟩|⟨j,p,en,jE,a1,a2,a3,a4,a5,aE⟩
 ·have:=h3.none_of a2;simp at this
 ·have hp:p=(kv,p.2):=by rw[<-a4]
  rw[hp] at a3
  have hr:=h3.some_of j p.2 a3 a5
  simp only[Option.some.injEq] at hr
  refine⟨en.val,w,m',β',.inl ?_,r2.put hN ?_⟩
  ·simp only[execOp,f1,hy.read r]
   refine run_value ?_
   simp only[Instr.lookup,Sem.run_bind,run_underlying (tyMap_inv hT),Result.andThen_ok,hobj2,pure,Sem.run,hK.check _ w kv hg,a1]
   rfl
  ·rw[hr];exact(f4 j _ en a3 a2).2 (by rw[<-hr];exact(ovl_live hov).2.1)
theorem aops_mapUpdate_deepG{T k e id2:Nat}{x y z:Operand}{good:Value->Prop}{kv:Value}{id:Nat}{es:List (Value×V)}{dv o:V}{ob:Ob}(es3:List (Value×V))(hT:tyMap K.P T k e=true)(hK:KeyT K.P k good)
  (hw:Wants ops S ⟨none,.mapUpdate T x y z,ty,pos,after,g⟩ true) (hx:evl K S x=.map id) (ho:hget S.hp id=.map es) (hy:KeyIs K S y kv) (hg:good kv) (hges:∀p,p∈es->good p.1) (hz:evl K S z=o)
  (hov:ovl dv id2=some (o,ob)) (ho2:hget S.hp id2=ob) (hne:Nat.beq id id2=false) (hkp:OKeep ob)
  (hp:Puts kv dv es es3) (kk:AOps K ops rest Q ⟨S.env,(id,.map es3)::(id2,.dead)::S.hp,S.nx⟩):AOps K ops (⟨none,.mapUpdate T x y z,ty,pos,after,g⟩::rest) Q S:=by
 obtain⟨es2,i,h1,h2,h3⟩:=hp.other o
 have hne:id≠id2:=fun h=>by rw[h,Nat.beq_refl] at hne;simp at hne
 refine aops_mapUpdate es2 hT hK hw hx ho hy hg hges hz h1 (aops_ghost (S':=⟨S.env,(id,.map (es2.set i (kv,dv)))::(id2,.dead)::(id,.map es2)::S.hp,S.nx⟩) (ghost_untakeMG id i id2 (S:=⟨S.env,(id,.map es2)::S.hp,S.nx⟩) (by simp[hget_put]) h2 hov (by rw[hget_put,if_neg hne];exact ho2) hne hkp) ?_)
 rw[<-h3]
 refine aops_ghost (ghost_congr (S':=⟨S.env,(id,.map es3)::(id2,.dead)::S.hp,S.nx⟩) (fun _=>rfl) (fun t=>?_) rfl) kk
 simp only[hget_put]
 split
 ·rfl
 ·split
  ·rfl
  ·rfl
theorem ghost_frzDMC(id id2:Nat){es:List (Value×V)}(es':List (Value×V))(ob:Ob)(ho:hget S.hp id=.map es)(hl:es.length=es'.length)
  (hk:∀(i:Nat) (p p':Value×V),es[i]? = some p->es'[i]? = some p'->p.1=p'.1/\Und p.2 p'.2/\Keep p.2) (hob:ObSub (FrzM id es') ob (hget S.hp id2)):
  Ghost K S ⟨S.env,(id,.dead)::(id2,ob)::S.hp,S.nx⟩:=
 ghost_freezeMD id es' _ _ ho hl hk (fun _=>Sub.keepM) (fun i=>by
  rw[hget_put]
  split
  ·trivial
  ·rw[hget_put]
   split
   ·rename_i h;subst h;exact hob
   ·exact ObSub.keep (fun _=>Sub.keepM) _) (by simp[hget_put])
end
variable{κ α β γ:Type}[DecidableEq κ]
theorem und_rows{e k:Nat}{enc:α->List V}(hi:∀x,Imms (enc x))(l:List α):Und (.dsl e k (l.map enc)) (.lst k (l.map enc)):=
 .sl rfl (fun i r r' h h'=>by rw[h] at h';simp at h';rw[h']) (fun i j r r' c c' h h' hj hj'=>by
  rw[h] at h';simp at h';subst h'
  rw[hj] at hj';simp at hj';subst hj'
  rw[List.getElem?_map,Option.map_eq_some_iff] at h
  obtain⟨x,_,rfl⟩:=h
  exact .imm (hi x c (List.mem_of_getElem? hj)).1)
theorem und_ents{E:γ×α->Value×V}(hi:∀p,Imm (E p).2)(l:List (γ×α)):Und (.dmp (l.map E)) (.imap (l.map E)):=
 .mp rfl (fun i r r' h h'=>by rw[h] at h';simp at h';rw[h']) (fun i r r' h h'=>by
  rw[h] at h';simp at h';subst h'
  rw[List.getElem?_map,Option.map_eq_some_iff] at h
  obtain⟨x,_,rfl⟩:=h
  exact .imm (hi x).1)
theorem und_map{τ:Type}{D E:τ->Value×V}(h:∀x,(D x).1=(E x).1/\Und (D x).2 (E x).2/\Keep (D x).2)(l:List τ)(i:Nat)(p p':Value×V)(hp:(l.map D)[i]? = some p)(hp':(l.map E)[i]? = some p'):p.1=p'.1/\Und p.2 p'.2/\Keep p.2:=by
 rw[List.getElem?_map,Option.map_eq_some_iff] at hp hp'
 obtain⟨x,h1,rfl⟩:=hp
 obtain⟨y,h2,rfl⟩:=hp'
 rw[h1] at h2;simp at h2;subst h2
 exact h x
theorem okeep_rows{e k:Nat}{enc:α->List V}(hi:∀x,Imms (enc x))(l:List α):OKeep (.arr e k (l.map enc)):=fun r hr=>by
 obtain⟨x,_,rfl⟩:=List.mem_map.1 hr;exact(hi x).keep
theorem okeep_ents{τ:Type}{E:τ->Value×V}(hi:∀p,Imm (E p).2)(l:List τ):OKeep (.map (l.map E)):=fun r hr=>by
 obtain⟨x,_,rfl⟩:=List.mem_map.1 hr;exact(hi x).2
def holeN(E:κ×β->Value×V)(nx:Nat)(k0:κ):List (κ×β)->List (Value×V)
 |[]=>[]
 |p::xs=>if p.1=k0 then ((E p).1,.map nx)::xs.map E else E p::holeN E nx k0 xs
theorem lookD_enc(E:κ×List (γ×α)->Value×V)(kf:κ->Value)(enc:γ×α->Value×V)(nx:Nat)(hE:∀p,E p=(kf p.1,.dmp (p.2.map enc)))(hk:∀a b,kf a=kf b->a=b)(k0:κ):
  ∀xs:List (κ×List (γ×α)),(mget xs k0).isSome=true->LookD (kf k0) (.dmp (((mget xs k0).getD []).map enc)) (.map nx) (xs.map E) (holeN E nx k0 xs)
 |[],h=>by simp[mget] at h
 |p::xs,h=>by
  obtain⟨q,l⟩:=p
  simp only[mget] at h
  simp only[List.map_cons,holeN,mget,hE]
  by_cases hq:q=k0
  ·subst hq
   simp only[if_pos,Option.getD_some]
   exact .here
  ·rw[if_neg hq] at h
   rw[if_neg hq,if_neg hq]
   exact .there (fun e=>hq (hk _ _ e)) (lookD_enc E kf enc nx hE hk k0 xs h)
theorem holeN_at(E:κ×List (γ×α)->Value×V)(kf:κ->Value)(enc:γ×α->Value×V)(nx:Nat)(hE:∀p,E p=(kf p.1,.dmp (p.2.map enc)))(k0:κ)(l':List (γ×α)):
  ∀xs:List (κ×List (γ×α)),(mget xs k0).isSome=true->∃i,(holeN E nx k0 xs)[i]? = some (kf k0,.map nx)/\(mput xs k0 l').map E=(holeN E nx k0 xs).set i (kf k0,.dmp (l'.map enc))
 |[],h=>by simp[mget] at h
 |p::xs,h=>by
  obtain⟨q,l⟩:=p
  simp only[mget] at h
  simp only[holeN,mput]
  by_cases hq:q=k0
  ·subst hq
   refine⟨0,?_,?_⟩<;>simp[hE]
  ·rw[if_neg hq] at h
   rw[if_neg hq,if_neg hq]
   obtain⟨i,h1,h2⟩:=holeN_at E kf enc nx hE k0 l' xs h
   exact⟨i+1,by simpa using h1,by rw[List.map_cons,h2];rfl⟩
theorem puts_new(E:κ×List (γ×α)->Value×V)(kf:κ->Value)(enc:γ×α->Value×V)(hE:∀p,E p=(kf p.1,.dmp (p.2.map enc)))(hk:∀a b,kf a=kf b->a=b)(k0:κ)(l':List (γ×α)):
  ∀xs:List (κ×List (γ×α)),Puts (kf k0) (.dmp (l'.map enc)) (xs.map E) ((mput xs k0 l').map E)
 |[]=>by simp only[mput,List.map_cons,List.map_nil,hE];exact .nil
 |p::xs=>by
  obtain⟨q,l⟩:=p
  simp only[mput]
  by_cases h:q=k0
  ·subst h
   simp only[if_pos,hE,List.map_cons];exact .here
  ·rw[if_neg h]
   simp only[hE,List.map_cons]
   exact .there (fun e=>h (hk _ _ e)) (by have:=puts_new E kf enc hE hk k0 l' xs;simpa only[hE] using this)
section
variable{K:Ctx}{Q:Post}{S:St}
theorem ghost_putN(id id2:Nat){xs:List (κ×List (γ×α))}{l':List (γ×α)}{k0:κ}(E:κ×List (γ×α)->Value×V)(kf:κ->Value)(enc:γ×α->Value×V)(hE:∀p,E p=(kf p.1,.dmp (p.2.map enc)))
  (hs:(mget xs k0).isSome=true) (ho:hget S.hp id=.map (holeN E id2 k0 xs)) (ho2:hget S.hp id2=.map (l'.map enc)) (hne:Nat.beq id id2=false) (hi:∀p,Imm (enc p).2):
  Ghost K S ⟨S.env,(id,.map ((mput xs k0 l').map E))::(id2,.dead)::S.hp,S.nx⟩:=by
 obtain⟨i,h1,h2⟩:=holeN_at E kf enc id2 hE k0 l' xs hs
 rw[h2]
 exact ghost_untakeMG id i id2 ho h1 (show ovl (.dmp (l'.map enc)) id2=_ from rfl) ho2 (fun h=>by rw[h,Nat.beq_refl] at hne;simp at hne) (okeep_ents hi l')
end
def optr{τ:Type}(enc:τ->List V):Option τ->V
 |none=>.con (.pointer none)
 |some x=>.iptr (enc x) 0
theorem imm_optr{τ:Type}{enc:τ->List V}:∀o:Option τ,Imm (optr enc o)
 |none=>Imm.con _
 |some _=>Imm.iptr _ _
theorem one_optr{τ:Type}{enc:τ->List V}:∀o:Option τ,oneV (optr enc o)=true
 |none=>rfl
 |some _=>rfl
section
variable{K:Ctx}{Q:Post}{S:St}{s:List It}
variable{ops:Array Oper}{l:List Oper}
theorem ghost_optr{τ:Type}{enc:τ->List V}{o:Option τ}{x:τ}(t:Nat)(h:o=some x)(ht:get S.env t=optr enc o):Ghost K S ⟨(t,.iptr (enc x) 0)::S.env,S.hp,S.nx⟩:=by
 subst h
 refine Ghost.env (S:=S) (fun q=>?_)
 show(bif Nat.beq t q then V.iptr (enc x) 0 else get S.env q)=get S.env q
 cases hq:Nat.beq t q
 ·rfl
 ·have:=Nat.eq_of_beq_eq_true hq
  subst this
  exact ht.symm
theorem opC{τ:Type}{enc:τ->List V}{o:Option τ}{x:τ}(t:Nat)(h:o=some x)(ht:gtC S.env t=some (optr enc o)){c:Code}(k:WG K Q (.c c::s) ⟨(t,.iptr (enc x) 0)::S.env,S.hp,S.nx⟩):WG K Q (.c c::s) S:=
 wg_cl (.inl ⟨_,rfl⟩) (ghost_optr t h (gtC_ok ht)) k
theorem opO{τ:Type}{enc:τ->List V}{o:Option τ}{x:τ}(t:Nat)(h:o=some x)(ht:gtC S.env t=some (optr enc o))(k:WG K Q (.o ops l::s) ⟨(t,.iptr (enc x) 0)::S.env,S.hp,S.nx⟩):WG K Q (.o ops l::s) S:=
 wg_cl (.inr ⟨_,_,rfl⟩) (ghost_optr t h (gtC_ok ht)) k
theorem getD_mapT{τ:Type}{f:τ->V}{o:Option τ}{z:V}{y:τ}(h:o.isSome=true):(o.map f).getD z=f (o.getD y):=by cases o<;>simp at h ⊢
theorem getD_mapF{τ:Type}{f:τ->V}{o:Option τ}{z:V}(h:o.isSome=false):(o.map f).getD z=z:=by cases o<;>simp at h ⊢
theorem isSomeT{τ:Type}{f:τ->V}{o:Option τ}{b:Bool}(h:o.isSome=b):(o.map f).isSome=b:=by cases o<;>simpa using h
end
theorem good_holeM{E:κ×List α->Value×V}{good:Value->Prop}(h:∀p,good (E p).1){nx:Nat}{k0:κ}:∀{xs:List (κ×List α)} (q:Value×V),q∈holeM E nx k0 xs->good q.1
 |[],q,hq=>by simp[holeM] at hq
 |p::xs,q,hq=>by
  simp only[holeM] at hq
  split at hq
  ·rcases List.mem_cons.1 hq with rfl|hq
   ·exact h p
   ·obtain⟨x,_,rfl⟩:=List.mem_map.1 hq;exact h x
  ·rcases List.mem_cons.1 hq with rfl|hq
   ·exact h p
   ·exact good_holeM h q hq
section
variable{K:Ctx}{Q:Post}{S:St}
variable{ops:Array Oper}{rest:List Oper}{ty:TypeId}{pos:String}{after:Array Edge}{g:Option (Nat×Bool)}
theorem free_nx:∀m β w a,Rel K m β w a S->β S.nx=none/\∀q,q<K.pins->q≠S.nx:=fun _ _ _ _ r=>⟨r.nx _ (Nat.le_refl _),fun q hq=>Nat.ne_of_lt (r.pin q hq).1⟩
theorem aops_lookup_tk_at{d nx:Nat}{T k e e' k' id n:Nat}{x y:Operand}{good:Value->Prop}{kv:Value}{es es':List (Value×V)}{rws:List (List V)}(idn:Nat)(hid:(Nat.blt idn nx&&Nat.ble K.pins idn)=true)(hnxx:S.nx=nx)(hres:hget S.hp idn=.res)(hT:tyMap K.P T k e=true)(hK:KeyT K.P k good)
  (hz:(K.P.info? e).bind (·.zero)=some (.slice none 0 0))
  (hw:Wants ops S ⟨some d,.lookup T x y false,ty,pos,after,g⟩ true) (hx:evl K S x=.map id) (ho:hget S.hp id=.map es) (hy:KeyIs K S y kv) (hg:good kv) (hges:∀p,p∈es->good p.1)
  (hl:LookT kv idn e' k' es es' rws) (hn:rws.length=n) (hN:Nat.blt d K.N=true)
  (kk:AOps K ops rest Q ⟨(d,.own idn n)::S.env,(id,.map es')::(idn,.arr e' k' rws)::S.hp,S.nx⟩):AOps K ops (⟨some d,.lookup T x y false,ty,pos,after,g⟩::rest) Q S:=by
 subst hn
 exact aops_lookup_takeG idn S.nx (fun _ _ _ _ r=>⟨r.free hres,fun q hq=>by have:=Nat.le_of_ble_eq_true (Bool.and_eq_true_iff.1 hid).2;omega⟩) (by rw[hnxx];exact Nat.le_of_ble_eq_true (Bool.and_eq_true_iff.1 hid).1) (Nat.le_refl _) hT hK hz hw hx ho hy hg hges hl hN kk
theorem aops_lookup_tkP{d:Nat}{T k e id:Nat}{x y:Operand}{good:Value->Prop}{kv:Value}{es es':List (Value×V)}{dv o:V}{ob:Ob}(hT:tyMap K.P T k e=true)(hK:KeyT K.P k good)
  (hw:Wants ops S ⟨some d,.lookup T x y false,ty,pos,after,g⟩ true) (hx:evl K S x=.map id) (ho:hget S.hp id=.map es) (hy:KeyIs K S y kv) (hg:good kv) (hges:∀p,p∈es->good p.1)
  (hl:LookD kv dv o es es') (hov:ovl dv S.nx=some (o,ob)) (hN:Nat.blt d K.N=true)
  (kk:AOps K ops rest Q ⟨(d,o)::S.env,(id,.map es')::(S.nx,ob)::S.hp,S.nx+1⟩):AOps K ops (⟨some d,.lookup T x y false,ty,pos,after,g⟩::rest) Q S:=
 aops_lookup_takeP S.nx (S.nx+1) free_nx (Nat.lt_succ_self _) (Nat.le_succ _) hT hK hw hx ho hy hg hges hov hl hN kk
theorem HpSub.consE{Y:Hy}{n:Nat}{σ:Nat->Nat}{hp e:Heap}{id:Nat}{ob ob':Ob}(hn:Nat.blt id n=true)(hh:hget hp (σ id)=ob')(h:ObSub Y ob ob')(h':HpSub Y n σ hp e):HpSub Y n σ hp ((id,ob)::e):=.cons hn (by rw[hh];exact h) h'
theorem aops_mcall_atH{d nx:Nat}{f:FuncId}{args:Array Operand}{at':Array TypeId}{avs':List V}{k k':Nat}{hp hp':Heap}{dc:V}(res:List Nat)(hnx:S.nx=nx)(hres:∀i,i∈res->hget S.hp i=.res)
  (dv:V) (avs:List V) (σ τ:Nat->Nat) (u:Heap) (hf:fnOk K.P f=true)
  (hw:Wants ops S ⟨some d,.call ⟨.value (.func f),args,at'⟩,ty,pos,after,g⟩ true) (hN:Nat.blt d K.N=true) (ha:args.toList.map (evl K S)=avs)
  (hsub:Subs (Ren k σ) avs' avs) (hhp:HpSub (Ren k σ) k σ S.hp hp) (hc:MutG K.gl K.P f avs' k hp dc k' hp')
  (hto:toB k k' nx nx σ τ (fun i=>res.any fun j=>Nat.beq i j)=true) (hτ:injB k' τ=true) (hkk:Nat.ble k k'=true) (hpins:(res.all fun i=>Nat.ble K.pins i)=true)
  (hdv:Sub (To k' τ) dv dc) (hu:HpTo (To k' τ) τ hp' k' 0 u)
  (kk:AOps K ops rest Q ⟨(d,dv)::S.env,u++S.hp,S.nx⟩):AOps K ops (⟨some d,.call ⟨.value (.func f),args,at'⟩,ty,pos,after,g⟩::rest) Q S:=by
 subst hnx
 have hfree:∀i,(res.any fun j=>Nat.beq i j)=true->i∈res:=by
  intro i hi
  obtain⟨j,hj,e⟩:=List.any_eq_true.1 hi
  rw[Nat.eq_of_beq_eq_true e];exact hj
 exact aops_mcalls σ τ S.nx u (fun i=>res.any fun j=>Nat.beq i j) hw rfl hN (mcall_run hf ha) hsub (HpSub.get hhp) hc
  (fun i hi=>hres i (hfree i hi)) hto hτ (Nat.ble_eq_true_of_le (by omega)) hkk
  (fun i hi=>Nat.le_of_ble_eq_true (List.all_eq_true.1 hpins i (hfree i hi))) hdv hu kk
def sameAll(ts:List Nat)(v:V)(e:Env):Env:=match ts with|[]=>e|t::ts=>(t,v)::sameAll ts v e
theorem sameAll_sub{Y:Hy}{v v0:V}{env:Env}(hk:∀v,Sub Y v v)(h:Sub Y v v0):∀(ts:List Nat),(∀t,t∈ts->get env t=v0)->∀t',Sub Y (get (sameAll ts v env) t') (get env t')
 |[],_,t'=>hk _
 |t::ts,hh,t'=>by
  rw[sameAll,get_put]
  split
  ·rename_i he;subst he;rw[hh t (by simp)];exact h
  ·exact sameAll_sub hk h ts (fun q hq=>hh q (List.mem_cons_of_mem _ hq)) t'
theorem ghost_frzEs(id:Nat)(ts:List Nat){e k n:Nat}{rows:List (List V)}(ho:hget S.hp id=.arr e k rows)(hi:∀row,row∈rows->Imms row)
  (ht:∀t,t∈ts->get S.env t=.own id n) (hn:n=rows.length):Ghost K S ⟨sameAll ts (.lst k rows) S.env,(id,.dead)::S.hp,S.nx⟩:=
 ghost_freeze id _ _ ho hi (sameAll_sub (fun _=>Sub.keep) (Sub.frzAll hn) ts ht) hpFrz0 (by simp[hget_put])
inductive Zs:List V->List Value->Prop
 |nil:Zs [] []
 |con {v:Value} {cs:List V} {vs:List Value} (h:Zs cs vs):Zs (.con v::cs) (v::vs)
 |sl {k:Nat} {cs:List V} {vs:List Value} (h:Zs cs vs):Zs (.lst k []::cs) (.slice none 0 0::vs)
theorem Zs.ok{cs:List V}{vs:List Value}(h:Zs cs vs)(m:Mem):cs.length=vs.length/\∀(i:Nat) c v,cs[i]? = some c->vs[i]? = some v->IRel m c v:=by
 induction h with
 |nil=>exact⟨rfl,by simp⟩
 |con h ih=>
  refine⟨by simp[ih.1],fun i c v a b=>?_⟩
  cases i with
  |zero=>simp at a b;subst a;subst b;exact .con _
  |succ i=>exact ih.2 i c v (by simpa using a) (by simpa using b)
 |sl h ih=>
  refine⟨by simp[ih.1],fun i c v a b=>?_⟩
  cases i with
  |zero=>simp at a b;subst a;subst b;exact .nil _ _ _
  |succ i=>exact ih.2 i c v (by simpa using a) (by simpa using b)
theorem irel_aggZ{cs:List V}{vs:List Value}(h:Zs cs vs):∀m:Mem,IRel m (.agg cs) (.agg vs.toArray):=fun m=>
 .agg (by simpa using (h.ok m).1) (fun i c v a b=>(h.ok m).2 i c v a (by simpa using b))
theorem ndB_of:∀{l:List V},Imms l->ndB l=true
 |[],_=>rfl
 |c::l,h=>by
  have h1:=(h c (by simp)).1
  simp only[ndB,h1]
  exact ndB_of (fun x hx=>h x (List.mem_cons_of_mem _ hx))
theorem ndB_rows{rows:List (List V)}(h:∀row,row∈rows->Imms row):∀row,row∈rows->ndB row=true:=fun row hr=>ndB_of (h row hr)
end
end Go.Pv
namespace Go.Pv
open Go
set_option linter.unusedVariables false
set_option linter.unusedSimpArgs false
open Go.ChangeMaps (setBlock)
section
variable{K:Ctx}{Q:Post}{S:St}
variable{m:Mem}{β:Locs}{w:World}{a:Act}
variable{ops:Array Oper}{rest:List Oper}{ty:TypeId}{pos:String}{after:Array Edge}{g:Option (Nat×Bool)}
end
inductive EnvFz(Y:Hy)(env:Env):Env->Prop
 |refl:EnvFz Y env env
 |put {e:Env} {t:Nat} {v v0:V} (ht:get env t=v0) (hv:Sub Y v v0) (h:EnvFz Y env e):EnvFz Y env ((t,v)::e)
theorem EnvFz.get{Y:Hy}{env e:Env}(hk:∀v,Sub Y v v)(h:EnvFz Y env e)(t:Nat):Sub Y (get e t) (get env t):=by
 induction h with
 |refl=>exact hk _
 |put ht hv _ ih=>
  rw[get_put]
  split
  ·rename_i he;subst he;rw[ht];exact hv
  ·exact ih
inductive HpFz(Y:Hy)(hp:Heap):Heap->Prop
 |refl:HpFz Y hp hp
 |put {e:Heap} {t:Nat} {v v0:Ob} (ht:hget hp t=v0) (hv:ObSub Y v v0) (h:HpFz Y hp e):HpFz Y hp ((t,v)::e)
theorem HpFz.get{Y:Hy}{hp e:Heap}(hk:∀v,ObSub Y v v)(h:HpFz Y hp e)(t:Nat):ObSub Y (hget e t) (hget hp t):=by
 induction h with
 |refl=>exact hk _
 |put ht hv _ ih=>
  rw[hget_put]
  split
  ·rename_i he;subst he;rw[ht];exact hv
  ·exact ih
section
variable{K:Ctx}{S:St}
end
def RM{α:Type}(n:Nat)(l:List α)(P:Prop):Prop:=l.length<n/\P
theorem RM.zero{α:Type}{l:List α}{P:Prop}{X:Prop}(h:RM 0 l P):X:=absurd h.1 (Nat.not_lt_zero _)
theorem RM.start{α:Type}{l:List α}{P:Prop}(h:P):RM (l.length+1) l P:=⟨Nat.lt_succ_self _,h⟩
theorem RM.step{α:Type}{l l':List α}{n:Nat}{P P':Prop}(h:RM (n+1) l P)(hq:l'.length<l.length)(h':P'):RM n l' P':=⟨by have:=h.1;omega,h'⟩
section
variable{K:Ctx}{Q:Post}{S:St}{s:List It}
variable{ops:Array Oper}{rest:List Oper}{ty:TypeId}{pos:String}{after:Array Edge}{g:Option (Nat×Bool)}
end
end Go.Pv
namespace Go.Pv
open Go Go.RowKit
set_option linter.unusedVariables false
set_option linter.unusedSimpArgs false
open Go.Sort in
theorem mut_compactG{gl:Gl}{P:Program}{f:FuncId}{k id:Nat}{hp:Heap}{e:TypeId}{α:Type}[Inhabited α](enc:α->Value)(h1c:∀x,(enc x).oneCell'=true)(l l' zs:List α)(hid:hget hp id=.arr e 1 (l.map fun x=>[V.con (enc x)]))(hl:(l'++zs).length=l.length)
  (h:∀(w:World) (blk off cap:Nat),Holds enc w blk off l.toArray->blk<w.heap.size->l.length<=cap->Calls P f #[.slice (some ⟨blk,off,none⟩) l.length cap] w fun e w'=>
   e=.returned (.slice (some ⟨blk,off,none⟩) l'.length cap)/\∃n os,w'=grow (putRow enc (Sort.ahead w n) blk off (l'++zs).toArray) os)
  (hn:∀(w:World) (a:Option Addr),l=[]->Calls P f #[.slice a 0 0] w fun e w'=>e=.returned (.slice a 0 0)/\Below w.heap.size w w'/\w.drawn<=w'.drawn):
  MutG gl P f [.own id l.length] k hp (.own id l'.length) k ((id,.arr e 1 (l'.map fun x=>[V.con (enc x)]))::hp):=by
 intro m β w vs himm _ hargs hown hpriv hinj hhid hnx
 obtain⟨v,rfl⟩:∃v,vs=#[v]:=by
  have:=hargs.len
  simp at this
  exact⟨vs[0],by
   apply Array.ext
   ·simp[<-this]
   ·intro i h1 h2
    have:i=0:=by simp at h2;omega
    subst this;simp⟩
 have hv:=hargs.at' 0 _ _ rfl rfl
 have hob:=hown id
 rw[hid] at hob
 have hg:∀q,hget ((id,Ob.arr e 1 (l'.map fun x=>[V.con (enc x)]))::hp) q=if id=q then Ob.arr e 1 (l'.map fun x=>[V.con (enc x)]) else hget hp q:=fun q=>hget_put _ _ _ _
 have hlive:∀q,hget ((id,Ob.arr e 1 (l'.map fun x=>[V.con (enc x)]))::hp) q≠.dead->hget hp q≠.dead:=fun q hq=>by
  rw[hg] at hq
  split at hq
  ·rename_i hh;subst hh;rw[hid];simp
  ·exact hq
 have hhids:∀(w':World),w.heap.size<=w'.heap.size->∀q x,hget ((id,Ob.arr e 1 (l'.map fun x=>[V.con (enc x)]))::hp) q≠.dead->β.hid q x->x<w'.heap.size/\m x=none/\(x<w.heap.size->¬Foreign hp β x)/\
   (∀i b c,hget ((id,Ob.arr e 1 (l'.map fun x=>[V.con (enc x)]))::hp) i≠.dead->β i=some (some (b,c))->x≠b)/\∀i,hget ((id,Ob.arr e 1 (l'.map fun x=>[V.con (enc x)]))::hp) i≠.dead->β.hid i x->i=q:=by
  intro w' hs q x hq hx
  obtain⟨q1,q2,q3,q4⟩:=hhid q x (hlive q hq) hx
  exact⟨by omega,q2,fun _ hF=>(hF q (hlive q hq)).2 hx,fun i b c hi=>q3 i b c (hlive i hi),fun i hi=>q4 i (hlive i hi)⟩
 generalize hnl:l.length=n at hv h
 cases hv with
 |imm h'=>cases h'
 | @ownNil _ ad hb=>
  have hl0:l=[]:=List.length_eq_zero_iff.1 hnl
  subst hl0
  have hl':l'=[]:=by
   have:(l'++zs).length=0:=by simpa using hl
   simp at this;exact this.1
  subst hl'
  refine(hn w ad rfl).mono ?_
  rintro ex w' ⟨rfl,hB,hdr⟩
  have hheap:∀b,b<w.heap.size->w'.heap[b]? = w.heap[b]?:=hB.block
  refine⟨_,m,β,rfl,.ownNil hb,Mem.le_refl _,fun b o hb=>by rw[hheap b (lt_of_some (himm b o hb))];exact himm b o hb,fun b hb _=>⟨rfl,hheap b hb⟩,hB.size,⟨hB.os,hB.tape,hB.output,hdr⟩,fun q=>?_,fun q b cap hq hbq=>?_,fun q q' b cap cap' hq hq'=>hinj q q' b cap cap' (hlive q hq) (hlive q' hq'),hhids w' hB.size,hnx,fun q hq=>⟨hq,rfl⟩⟩
  ·rw[hg]
   split
   ·rename_i hh;subst hh;rw[hb];simp[ObOk]
   ·by_cases hd:hget hp q=.dead
    ·rw[hd];exact ObOk.dead' _
    ·exact ObOk.congr (fun b cap hbb=>hheap b (live_lt hd hbb (hown q))) (fun x hx=>hheap x (hhid q x hd hx).1) (hown q)
  ·have hq:=hlive q hq
   exact⟨hpriv q b cap hq hbq,fun _ hF=>(hF q hq).1 cap hbq⟩
 | @own _ _ b cap hb=>
  rw[hb] at hob
  obtain⟨arr,bl,o1,o2,o3,o4,o5,oB,o6⟩:=hob
  have hbs:b<w.heap.size:=lt_of_some o1
  have hcell:∀j (hj:j<l.length),arr[cap.off+j]? = some (enc l[j]):=fun j hj=>by
   obtain⟨v,v1,v2,_⟩:=o6 j 0 [V.con (enc l[j])] (V.con (enc l[j])) (by simp[List.getElem?_eq_getElem hj]) rfl
   have:=(v2.v rfl).of_con
   subst this
   simpa using v1
  refine(h w b cap.off cap.n (fun j hj=>?_) hbs (by simpa[hnl] using o3)).mono ?_
  ·have hj':j<l.length:=by simpa using hj
   have hz:(l.toArray)[j]! = l[j]:=by rw[getElem!_pos _ j hj];simp
   rw[hz]
   exact⟨(cell_of_heap o1).trans (hcell j hj'),by simp[World.frozen?,o1]⟩
  rintro ex w' ⟨rfl,nd,os,rfl⟩
  have hheap:=heap_sorted enc w nd b cap.off (l'++zs).toArray os
  have hother:∀b',b'<w.heap.size->b'≠b->(grow (putRow enc (Sort.ahead w nd) b cap.off (l'++zs).toArray) os).heap[b']? = w.heap[b']?:=fun b' h1 h2=>by rw[hheap b' h1,if_neg (Ne.symm h2)]
  have hlid:hget hp id≠.dead:=by rw[hid];simp
  have hsz:w.heap.size<=(grow (putRow enc (Sort.ahead w nd) b cap.off (l'++zs).toArray) os).heap.size:=by simp[grow,putRow,mapBlock,Sort.ahead]
  refine⟨_,m,β,rfl,.own hb,Mem.le_refl _,fun b' o hb'=>?_,fun b' hb' hF=>⟨rfl,hother b' hb' (fun e=>?_)⟩,hsz,⟨rfl,rfl,rfl,Nat.le_add_right _ _⟩,fun q=>?_,fun q b' cap' hq hbq=>?_,fun q q' b1 cap1 cap2 hq hq'=>hinj q q' b1 cap1 cap2 (hlive q hq) (hlive q' hq'),hhids _ hsz,hnx,fun q hq=>⟨hq,rfl⟩⟩
  ·have hne:b'≠b:=fun e=>by
    subst e
    rw[hpriv id b' cap hlid hb] at hb'
    simp at hb'
   rw[hother b' (lt_of_some (himm b' o hb')) hne]
   exact himm b' o hb'
  ·subst e;exact(hF id hlid).1 cap hb
  ·rw[hg]
   split
   ·rename_i hh
    subst hh
    rw[hb]
    refine⟨putCells enc cap.off (l'++zs).toArray arr,bl,by rw[hheap b hbs,if_pos rfl,o1];rfl,by simp[putCells,o2],by simp at hl o3 ⊢;omega,o4,?_,oB,fun i j row c hr hc=>?_⟩
    ·intro row hr
     obtain⟨x,_,rfl⟩:=List.mem_map.1 hr
     rfl
    ·rw[List.getElem?_map] at hr
     cases hli:l'[i]? with
     |none=>rw[hli] at hr;simp at hr
     |some x=>
      rw[hli] at hr
      simp at hr
      subst hr
      have hi:i<l'.length:=(List.getElem?_eq_some_iff.1 hli).1
      have hx:l'[i]=x:=(List.getElem?_eq_some_iff.1 hli).2
      have hj:j=0:=by
       have:=(List.getElem?_eq_some_iff.1 hc).1
       simp at this;exact this
      subst hj
      simp at hc
      subst hc
      have ha:cap.off+i<arr.size:=by simp at hl o3;omega
      refine⟨enc x,?_,.inl (.imm (.con _)),h1c x⟩
      rw[Nat.mul_one,Nat.add_zero]
      unfold putCells
      rw[Array.getElem?_mapIdx,Array.getElem?_eq_getElem ha,Option.map_some,if_pos ⟨Nat.le_add_right _ _,by simp;omega⟩,Nat.add_sub_cancel_left,getElem!_pos _ i (by simp;omega)]
      simp[List.getElem_append_left hi,hx]
   ·by_cases hd:hget hp q=.dead
    ·rw[hd];exact ObOk.dead' _
    ·refine ObOk.congr (fun b' cap' hbb=>hother b' (live_lt hd hbb (hown q)) (fun e=>?_)) (fun x hx=>hother x (hhid q x hd hx).1 ((hhid q x hd hx).2.2.1 id b cap hlid hb)) (hown q)
     subst e
     rename_i hne
     exact hne (hinj id q b' cap cap' hlid hd hb hbb)
  ·have hq:=hlive q hq
   exact⟨hpriv q b' cap' hq hbq,fun _ hF=>(hF q hq).1 cap' hbq⟩
def cpt{α:Type}[Inhabited α][DecidableEq α](l:List α):List α:=Lib.compact l
theorem compactUpTo_len{α:Type}[Inhabited α][DecidableEq α](d:Array α)(m:Nat):(Lib.compactUpTo d m).length<=m:=by
 simp only[Lib.compactUpTo,List.length_map]
 exact Nat.le_trans (List.length_filter_le _ _) (by simp)
theorem cpt_len{α:Type}[Inhabited α][DecidableEq α](l:List α):(cpt l).length<=l.length:=compactUpTo_len _ _
theorem grow_nil(w:World):w=Go.Sort.grow w #[]:=by cases w;simp[Go.Sort.grow]
theorem pad_len{α:Type}(l c:List α)(h:c.length<=l.length)(z:α):(c++List.replicate (l.length - c.length) z).length=l.length:=by simp;omega
open Go.Sort in
theorem mut_compactS{gl:Gl}{P:Program}{f:FuncId}{k id:Nat}{hp:Heap}{e:TypeId}{α:Type}[Inhabited α][DecidableEq α](enc:α->Value)(h1c:∀x,(enc x).oneCell'=true)(z:α)(l:List α)(hid:hget hp id=.arr e 1 (l.map fun x=>[V.con (enc x)]))
  (h:∀(blk off cap:Nat) (zs:List α) (w:World),Holds enc w blk off zs.toArray->zs.length<=9223372036854775807->zs.length<=cap->Calls P f #[.slice (some ⟨blk,off,none⟩) zs.length cap] w fun e w'=>
   e=.returned (.slice (some ⟨blk,off,none⟩) (Lib.compact zs).length cap)/\∃q,w'=putRow enc (Sort.ahead w q) blk off (Lib.compact zs++List.replicate (zs.length - (Lib.compact zs).length) z).toArray)
  (hn:∀(p:Option Addr) (w:World),Calls P f #[.slice p 0 0] w fun e w'=>e=.returned (.slice p 0 0)/\w'=w) (hc:l.length<=140737488355328):
  MutG gl P f [.own id l.length] k hp (.own id (cpt l).length) k ((id,.arr e 1 ((cpt l).map fun x=>[V.con (enc x)]))::hp):=
 mut_compactG enc h1c l (cpt l) (List.replicate (l.length - (cpt l).length) z) hid (pad_len _ _ (cpt_len l) z) (fun w blk off cap hH _ hcap=>(h blk off cap l w hH (by omega) hcap).mono (by rintro e w' ⟨rfl,q,rfl⟩;exact⟨rfl,q,#[],grow_nil _⟩)) (fun w a _=>(hn a w).mono (by rintro e w' ⟨rfl,rfl⟩;exact⟨rfl,Below.refl _ _,Nat.le_refl _⟩))
end Go.Pv
namespace Go.Pv
open Go Go.RowKit Go.Sort Go.Proofs
def cltM{T:Type}(cmp:T->T->Option Int)(x y:T):Bool:=match cmp x y with|some c=>decide (c<0)|none=>false
def swoM{T:Type}(cmp:T->T->Option Int)(l:List T):Bool:=
 l.all fun x=>!cltM cmp x x&&l.all fun y=>(cmp x y).isSome&&l.all fun z=>(!(cltM cmp x y&&cltM cmp y z)||cltM cmp x z)&&(cltM cmp x y||cltM cmp y z||!cltM cmp x z)
def dstM{T:Type}(cmp:T->T->Option Int):List T->Bool
 |[]=>true
 |x::l=>l.all (fun y=>cltM cmp x y||cltM cmp y x)&&dstM cmp l
def ascM{T:Type}(cmp:T->T->Option Int):List T->Bool
 |[]=>true
 |x::l=>l.all (fun y=>!cltM cmp y x)&&ascM cmp l
def srtM{T:Type}(cmp:T->T->Option Int)(l:List T):Option (List T):=
 bif swoM cmp l&&dstM cmp l&&ascM cmp (l.mergeSort fun x y=>!cltM cmp y x)&&Nat.blt l.length 4611686018427387904 then some (l.mergeSort fun x y=>!cltM cmp y x) else none
theorem ascM_pw{T:Type}{cmp:T->T->Option Int}:∀{l:List T},ascM cmp l=true->l.Pairwise fun x y=>cltM cmp y x=false
 |[],_=>.nil
 |x::l,h=>by
  simp only[ascM,Bool.and_eq_true,List.all_eq_true,Bool.not_eq_true'] at h
  exact .cons h.1 (ascM_pw h.2)
theorem dstM_uniq{T:Type}{cmp:T->T->Option Int}:∀{l:List T},dstM cmp l=true->∀x∈l,∀y∈l,cltM cmp x y=false->cltM cmp y x=false->x=y
 |[],_,x,hx,_,_,_,_=>by simp at hx
 |z::l,h,x,hx,y,hy,h1,h2=>by
  simp only[dstM,Bool.and_eq_true,List.all_eq_true,Bool.or_eq_true] at h
  rcases List.mem_cons.1 hx with e|hx'
  ·rcases List.mem_cons.1 hy with e'|hy'
   ·rw[e,e']
   ·rw[e] at h1 h2
    rcases h.1 y hy' with q|q
    ·rw[q] at h1;simp at h1
    ·rw[q] at h2;simp at h2
  ·rcases List.mem_cons.1 hy with e'|hy'
   ·rw[e'] at h1 h2
    rcases h.1 x hx' with q|q
    ·rw[q] at h2;simp at h2
    ·rw[q] at h1;simp at h1
   ·exact dstM_uniq h.2 x hx' y hy' h1 h2
structure RowT{T:Type}(l:List T)(enc:T->List V)(k:Nat)(m:Mem) where
 t:T
 mem:t∈l
 vs:List Value
 hl:vs.length=k
 h1:∀v∈vs,v.oneCell'=true
 rel:∀(j:Nat) (c:V) (v:Value),(enc t)[j]? = some c->vs[j]? = some v->IRel m c v
theorem grew_grow{m m':Mem}{w w':World}(h:Grew m m' w w'):∃q os,w'=grow (w.drewN q) os:=by
 obtain⟨q,hq⟩:=Nat.exists_eq_add_of_le h.same.drawn
 refine⟨q,w'.heap.extract w.heap.size w'.heap.size,?_⟩
 have hh:w'.heap=w.heap++w'.heap.extract w.heap.size w'.heap.size:=by
  apply Array.ext'
  simp only[Array.toList_append,Array.toList_extract]
  apply List.ext_getElem?
  intro i
  by_cases hi:i<w.heap.size
  ·rw[List.getElem?_append_left (by simpa using hi)]
   have:=h.heap i hi
   simpa using this
  ·rw[List.getElem?_append_right (by simpa using Nat.le_of_not_lt hi)]
   have hs:=h.size
   by_cases h2:i<w'.heap.size
   ·rw[List.getElem?_take_of_lt (by simp;omega),List.getElem?_drop]
    congr 1
    simp;omega
   ·rw[List.getElem?_eq_none (by simpa using h2),List.getElem?_eq_none (by simp;omega)]
 obtain⟨h0,h1,h2,h3,h4⟩:=w
 obtain⟨g0,g1,g2,g3,g4⟩:=w'
 have s1:=h.same.os;have s2:=h.same.tape;have s3:=h.same.output
 simp only at hh hq s1 s2 s3
 subst s1 s2 s3 hq
 simp only[grow,World.drewN]
 rw[<-hh]
theorem pair_of_sorted{α T:Type}[Inhabited α]{f:α->T}{r:T->T->Prop}{d:Array α}(h:∀i j,0<=i->i<j->j<d.size->r (f d[i]!) (f d[j]!)):(d.toList.map f).Pairwise r:=by
 rw[List.pairwise_iff_getElem]
 intro i j hi hj hij
 have hi':i<d.size:=by simpa using hi
 have hj':j<d.size:=by simpa using hj
 have:=h i j (Nat.zero_le _) hij hj'
 rw[getElem!_pos d i hi',getElem!_pos d j hj'] at this
 simpa using this
theorem cmp_lays{gl:Gl}{P:Program}{g:FuncId}{m:Mem}{T:Type}{l:List T}{enc:T->List V}{k:Nat}{w:World}{b off size:Nat}{cs:Array Value}{caps:List V}{cmp:T->T->Option Int}[Inhabited (RowT l enc k m)](hek:∀x,(enc x).length=k)(hgl:GlOk gl m)
  (hcl:caps.length=cs.size) (hcr:∀(i:Nat) (c:V) (v:Value),caps[i]? = some c->cs[i]? = some v->IRel m c v)
  (himm:∀(nd:Nat) (dk:Array (RowT l enc k m)) (os:Array Obj) (b':Nat) (o:Obj),m b'=some o->(sortWorldK RowT.vs k w b off nd dk os).heap[b']? = some o)
  (hcmp:∀x y c,cmp x y=some c->PureG gl P g ([.agg (enc x),.agg (enc y)]++caps) (.con (.int .i64 c)))
  (hd:∀x∈l,∀y∈l,(cmp x y).isSome=true):CmpLays P g cs (RowT.vs (l:=l) (enc:=enc) (k:=k) (m:=m)) k (fun x y=>(cmp x.t y.t).getD 0) b off size w:=by
 intro nd os dk _ x y
 have hi:=himm nd dk os
 generalize sortWorldK RowT.vs k w b off nd dk os=W at hi
 obtain⟨c,hc⟩:=Option.isSome_iff_exists.1 (hd x.t x.mem y.t y.mem)
 have hrelx:∀x:RowT l enc k m,IRel m (.agg (enc x.t)) (.agg x.vs.toArray):=fun x=>.agg (by simp[hek,x.hl]) fun i c v h1 h2=>x.rel i c v h1 (by simpa using h2)
 have hrels:IRels m ([.agg (enc x.t),.agg (enc y.t)]++caps) (#[.agg x.vs.toArray,.agg y.vs.toArray]++cs):=by
  refine⟨by simp[hcl];omega,fun i c' v' h1 h2=>?_⟩
  match i,h1,h2 with
  |0,h1,h2=>
   simp at h1
   rw[Array.getElem?_append_left (by simp)] at h2
   simp at h2
   rw[<-h1,<-h2];exact hrelx x
  |1,h1,h2=>
   simp at h1
   rw[Array.getElem?_append_left (by simp)] at h2
   simp at h2
   rw[<-h1,<-h2];exact hrelx y
  |i+2,h1,h2=>
   refine hcr i c' v' (by simpa using h1) ?_
   rw[Array.getElem?_append_right (by simp)] at h2
   simpa using h2
 refine Calls.mono (hcmp x.t y.t c hc m W _ hi hgl hrels) ?_
 rintro ex w' ⟨v',m',rfl,hv',hgr⟩
 cases hv'
 refine⟨?_,grew_grow hgr⟩
 show Ending.returned (.int .i64 c)=.returned (.int .i64 ((cmp x.t y.t).getD 0))
 rw[hc];rfl
set_option maxHeartbeats 1000000 in
theorem mut_sortF{gl:Gl}{P:Program}{f g:FuncId}{kk id:Nat}{hp:Heap}{e:TypeId}{k:Nat}{T:Type}(enc:T->List V)(hek:∀x,(enc x).length=k)(hei:∀x,Imms (enc x))(caps:List V)(hci:Imms caps)(cmp:T->T->Option Int)(l r:List T)
  (hid:hget hp id=.arr e k (l.map enc)) (hr:srtM cmp l=some r)
  (hcmp:∀x y c,cmp x y=some c->PureG gl P g ([.agg (enc x),.agg (enc y)]++caps) (.con (.int .i64 c)))
  (h:∀{α:Type} [Inhabited α] (encR:α->List Value) (_:∀x,(encR x).length=k) (_:∀x,∀v∈encR x,v.oneCell'=true) (cf:α->α->Int) (_:SWO (ltOf cf)) (cb:Array Value) (blk off cap:Nat) (d:Array α) (w:World) (_:CmpLays P g cb encR k cf blk off d.size w) (_:HoldsK encR k w blk off d) (_:blk<w.heap.size) (_:d.size<4611686018427387904),
   Calls P f #[.slice (some ⟨blk,off,none⟩) d.size cap,.func (.func g) #[] cb] w fun e w'=>e=.returned (.tuple #[])/\∃d' n os,PermIn 0 d.size d d'/\SortedIn (ltOf cf) 0 d.size d'/\w'=sortWorldK encR k w blk off n d' os)
  (hn:∀(p:Option Addr) (cap:Nat) (fv:Value) (w:World),Calls P f #[.slice p 0 cap,fv] w fun e w'=>e=.returned (.tuple #[])/\w'=w):
  MutG gl P f [.own id l.length,.fn (.func g) [] caps] kk hp (.tup []) kk ((id,.arr e k (r.map enc))::hp):=by
 intro m β w vs himm hgl hargs hown hpriv hinj hhid hnx
 obtain⟨v,u,rfl⟩:∃v u,vs=#[v,u]:=by
  have:=hargs.len
  simp at this
  refine⟨vs[0],vs[1],?_⟩
  apply Array.ext
  ·simp[<-this]
  ·intro i h1 h2
   have:i=0\/i=1:=by simp at h2;omega
   rcases this with rfl|rfl<;>simp
 have hv:=hargs.at' 0 _ _ rfl rfl
 have hu:=hargs.at' 1 _ _ rfl rfl
 have hob:=hown id
 rw[hid] at hob
 unfold srtM at hr
 cases hguard:(swoM cmp l&&dstM cmp l&&ascM cmp (l.mergeSort fun x y=>!cltM cmp y x)&&Nat.blt l.length 4611686018427387904) with
 |false=>rw[hguard] at hr;simp at hr
 |true=>
 rw[hguard] at hr
 simp only[cond_true,Option.some.injEq] at hr
 simp only[Bool.and_eq_true] at hguard
 obtain⟨⟨⟨hswo,hdst⟩,hasc⟩,hlen⟩:=hguard
 have hlen:l.length<4611686018427387904:=Nat.le_of_ble_eq_true hlen
 have hperm:r.Perm l:=by rw[<-hr];exact List.mergeSort_perm _ _
 have hrl:r.length=l.length:=hperm.length_eq
 rw[hr] at hasc
 have hsorted:=ascM_pw hasc
 have hswo':∀x∈l,cltM cmp x x=false/\∀y∈l,(cmp x y).isSome=true/\∀z∈l,(cltM cmp x y=true->cltM cmp y z=true->cltM cmp x z=true)/\(cltM cmp x y=false->cltM cmp y z=false->cltM cmp x z=false):=by
  intro x hx
  unfold swoM at hswo
  have h1:=List.all_eq_true.1 hswo x hx
  simp only[Bool.and_eq_true,Bool.not_eq_true',List.all_eq_true] at h1
  refine⟨h1.1,fun y hy=>?_⟩
  have h2:=h1.2 y hy
  refine⟨h2.1,fun z hz=>?_⟩
  have h3:=h2.2 z hz
  revert h3
  cases cltM cmp x y<;>cases cltM cmp y z<;>cases cltM cmp x z<;>simp
 have hg:∀q,hget ((id,Ob.arr e k (r.map enc))::hp) q=if id=q then Ob.arr e k (r.map enc) else hget hp q:=fun q=>hget_put _ _ _ _
 have hlive:∀q,hget ((id,Ob.arr e k (r.map enc))::hp) q≠.dead->hget hp q≠.dead:=fun q hq=>by
  rw[hg] at hq
  split at hq
  ·rename_i hh;subst hh;rw[hid];simp
  ·exact hq
 have hhids:∀(w':World),w.heap.size<=w'.heap.size->∀q x,hget ((id,Ob.arr e k (r.map enc))::hp) q≠.dead->β.hid q x->x<w'.heap.size/\m x=none/\(x<w.heap.size->¬Foreign hp β x)/\
   (∀i b c,hget ((id,Ob.arr e k (r.map enc))::hp) i≠.dead->β i=some (some (b,c))->x≠b)/\∀i,hget ((id,Ob.arr e k (r.map enc))::hp) i≠.dead->β.hid i x->i=q:=by
  intro w' hs q x hq hx
  obtain⟨q1,q2,q3,q4⟩:=hhid q x (hlive q hq) hx
  exact⟨by omega,q2,fun _ hF=>(hF q (hlive q hq)).2 hx,fun i b c hi=>q3 i b c (hlive i hi),fun i hi=>q4 i (hlive i hi)⟩
 obtain⟨cs,rfl,hcl,hcr⟩:∃cs:Array Value,u=.func (.func g) #[] cs/\caps.length=cs.size/\∀(i:Nat) (c:V) (v:Value),caps[i]? = some c->cs[i]? = some v->IRel m c v:=by
  cases hu with
  |imm h'=>
   cases h' with
   | @fn _ _ _ fs cs hl hl' hf hc=>
    have:fs=#[]:=Array.eq_empty_of_size_eq_zero (by simpa using hl.symm)
    subst this
    exact⟨cs,rfl,hl',hc⟩
  | @fn _ _ _ fs cs hl hl' hf hc=>
   have:fs=#[]:=Array.eq_empty_of_size_eq_zero (by simpa using hl.symm)
   subst this
   exact⟨cs,rfl,hl',fun i c v h1 h2=>(hci c (List.mem_of_getElem? h1)).2 _ _ _ (hc i c v h1 h2)⟩
 by_cases hnil:l=[]
 ·subst hnil
  have hrn:r=[]:=List.length_eq_zero_iff.1 hrl
  subst hrn
  obtain⟨p,c,rfl⟩:∃p c,v=.slice p 0 c:=by
   cases hv with
   |imm h'=>cases h'
   |ownNil hb=>exact⟨_,_,rfl⟩
   |own hb=>exact⟨_,_,rfl⟩
  refine(hn p c _ w).mono ?_
  rintro ex w' ⟨rfl,rfl⟩
  have hsm:∀q,hget ((id,Ob.arr e k (([]:List T).map enc))::hp) q=hget hp q:=fun q=>by
   rw[hg]
   split
   ·rename_i hh;subst hh;rw[hid]
   ·rfl
  refine⟨_,m,β,rfl,.tup rfl (by simp),Mem.le_refl _,himm,fun b hb _=>⟨rfl,rfl⟩,Nat.le_refl _,⟨rfl,rfl,rfl,Nat.le_refl _⟩,fun q=>?_,fun q b cap hq hbq=>?_,fun q q' b cap cap' hq hq'=>hinj q q' b cap cap' (hlive q hq) (hlive q' hq'),hhids w' (Nat.le_refl _),hnx,fun q hq=>⟨hq,rfl⟩⟩
  ·rw[hsm];exact hown q
  ·have hq:=hlive q hq
   exact⟨hpriv q b cap hq hbq,fun _ hF=>(hF q hq).1 cap hbq⟩
 generalize hnl:l.length=n at hv
 cases hv with
 |imm h'=>cases h'
 | @ownNil _ ad hb=>exact absurd (List.length_eq_zero_iff.1 hnl) hnil
 | @own _ _ b cap hb=>
 rw[hb] at hob
 obtain⟨arr,bl,o1,o2,o3,o4,o5,oB,o6⟩:=hob
 have hbs:b<w.heap.size:=lt_of_some o1
 have o3':l.length<=cap.n:=by simpa using o3
 have hlid:hget hp id≠.dead:=by rw[hid];simp
 have hmb:m b=none:=hpriv id b cap hlid hb
 have hcell:∀(i:Nat) (hi:i<l.length) (j:Nat) (c:V),(enc l[i])[j]? = some c->∃v,arr[cap.off+(i*k+j)]? = some v/\IRel m c v/\v.oneCell'=true:=fun i hi j c hc=>by
  obtain⟨v,v1,v2,v3⟩:=o6 i j (enc l[i]) c (by simp[List.getElem?_eq_getElem hi]) hc
  have hI:=hei l[i] c (List.mem_of_getElem? hc)
  exact⟨v,v1,hI.2 _ _ _ (v2.v hI.1),v3⟩
 have hrow:∀i:Fin l.length,∃x:RowT l enc k m,x.t=l[i.1]/\∀j,j<k->arr[cap.off+(i.1*k+j)]? = x.vs[j]?:=fun i=>by
  have hget:∀j,j<k->∃c v,(enc l[i.1])[j]? = some c/\arr[cap.off+(i.1*k+j)]? = some v/\IRel m c v/\v.oneCell'=true:=fun j hj=>by
   have hj':j<(enc l[i.1]).length:=by rw[hek];exact hj
   obtain⟨v,hv⟩:=hcell i.1 i.2 j _ (List.getElem?_eq_getElem hj')
   exact⟨_,v,List.getElem?_eq_getElem hj',hv⟩
  have hvs:∀j,j<k->((List.range k).map fun j=>arr[cap.off+(i.1*k+j)]!)[j]? = arr[cap.off+(i.1*k+j)]?:=fun j hj=>by
   obtain⟨c,v,h1,h2,h3⟩:=hget j hj
   rw[List.getElem?_map,List.getElem?_range hj,Option.map_some,h2]
   have hlt:=(Array.getElem?_eq_some_iff.1 h2).1
   rw[getElem!_pos arr _ hlt]
   rw[Array.getElem?_eq_getElem hlt] at h2
   exact h2
  refine⟨⟨l[i.1],List.getElem_mem _,(List.range k).map fun j=>arr[cap.off+(i.1*k+j)]!,by simp,fun v hv=>?_,fun j c v hc hv=>?_⟩,rfl,fun j hj=>(hvs j hj).symm⟩
  ·obtain⟨j,hj⟩:=List.getElem?_of_mem hv
   have hjk:j<k:=by have:=(List.getElem?_eq_some_iff.1 hj).1;simpa using this
   obtain⟨c,v',h1,h2,h3,h4⟩:=hget j hjk
   rw[hvs j hjk,h2] at hj
   cases hj
   exact h4
  ·have hjk:j<k:=by have:=(List.getElem?_eq_some_iff.1 hv).1;simpa using this
   obtain⟨c',v',h1,h2,h3,h4⟩:=hget j hjk
   rw[hvs j hjk,h2] at hv
   cases hv
   rw[h1] at hc
   cases hc
   exact h3
 obtain⟨row,hrow⟩:∃row:Fin l.length->RowT l enc k m,∀i,(row i).t=l[i.1]/\∀j,j<k->arr[cap.off+(i.1*k+j)]? = (row i).vs[j]?:=⟨fun i=>(hrow i).choose,fun i=>(hrow i).choose_spec⟩
 haveI:Inhabited (RowT l enc k m):=⟨row ⟨0,List.length_pos_iff.2 hnil⟩⟩
 obtain⟨d,hds,hdi⟩:∃d:Array (RowT l enc k m),d.size=n/\∀i (hi:i<l.length),d[i]! = row ⟨i,hi⟩:=by
  refine⟨Array.ofFn row,by simp[hnl],fun i hi=>?_⟩
  rw[getElem!_pos _ i (by simpa using hi)]
  simp
 have hdt:d.toList.map RowT.t=l:=by
  apply List.ext_getElem?
  intro i
  by_cases hi:i<l.length
  ·have:i<d.size:=by rw[hds,<-hnl];exact hi
   rw[List.getElem?_map,Array.getElem?_toList,Array.getElem?_eq_getElem this,Option.map_some,List.getElem?_eq_getElem hi]
   have h2:=hdi i hi
   rw[getElem!_pos d i this] at h2
   rw[h2,(hrow ⟨i,hi⟩).1]
  ·rw[List.getElem?_eq_none (by simp[hds,<-hnl];omega),List.getElem?_eq_none (by omega)]
 have hlt:∀x y:RowT l enc k m,ltOf (fun x y:RowT l enc k m=>(cmp x.t y.t).getD 0) x y=cltM cmp x.t y.t:=fun x y=>by
  have:=((hswo' x.t x.mem).2 y.t y.mem).1
  show decide ((cmp x.t y.t).getD 0<0)=_
  unfold cltM
  cases hc:cmp x.t y.t with
  |none=>rw[hc] at this;simp at this
  |some c=>rfl
 have hSW:SWO (ltOf (fun x y:RowT l enc k m=>(cmp x.t y.t).getD 0)):=by
  refine⟨fun x=>?_,fun x y z h1 h2=>?_,fun x y z h1 h2=>?_⟩
  ·rw[hlt];exact(hswo' x.t x.mem).1
  ·rw[hlt] at *;exact(((hswo' x.t x.mem).2 y.t y.mem).2 z.t z.mem).1 h1 h2
  ·rw[hlt] at *;exact(((hswo' x.t x.mem).2 y.t y.mem).2 z.t z.mem).2 h1 h2
 have hheap:∀(nd:Nat) (dk:Array (RowT l enc k m)) (os:Array Obj) (b':Nat),b'<w.heap.size->(sortWorldK RowT.vs k w b cap.off nd dk os).heap[b']? = if b=b' then (w.heap[b']?).map (onCells (putCells _root_.id cap.off (flatK RowT.vs k dk))) else w.heap[b']?:=fun nd dk os b' hb'=>heap_sorted _root_.id w nd b cap.off (flatK RowT.vs k dk) os b' hb'
 have hother:∀(nd:Nat) (dk:Array (RowT l enc k m)) (os:Array Obj) (b':Nat),b'<w.heap.size->b'≠b->(sortWorldK RowT.vs k w b cap.off nd dk os).heap[b']? = w.heap[b']?:=fun nd dk os b' h1 h2=>by rw[hheap nd dk os b' h1,if_neg (Ne.symm h2)]
 have himm':∀(nd:Nat) (dk:Array (RowT l enc k m)) (os:Array Obj) (b':Nat) (o:Obj),m b'=some o->(sortWorldK RowT.vs k w b cap.off nd dk os).heap[b']? = some o:=fun nd dk os b' o hb'=>by
  have hne:b'≠b:=fun e=>by rw[e,hmb] at hb';simp at hb'
  rw[hother nd dk os b' (lt_of_some (himm b' o hb')) hne]
  exact himm b' o hb'
 have hC:=cmp_lays (size:=d.size) (w:=w) (b:=b) (off:=cap.off) hek hgl hcl hcr himm' hcmp fun x hx y hy=>((hswo' x hx).2 y hy).1
 have hH:HoldsK RowT.vs k w b cap.off d:=by
  intro j hj
  have hjd:j<d.size*k:=by simpa using hj
  have hk0:0<k:=by
   rcases Nat.eq_zero_or_pos k with h0|h0
   ·rw[show d.size*k=0 from by rw[Nat.mul_eq_zero];exact .inr h0] at hjd;omega
   ·exact h0
  have hi:j / k<l.length:=by rw[hnl,<-hds];exact Nat.div_lt_of_lt_mul (by rw[Nat.mul_comm];exact hjd)
  have hjk:j % k<k:=Nat.mod_lt _ hk0
  refine⟨?_,by simp[World.frozen?,o1]⟩
  rw[get_flatK RowT.vs k d j hjd,hdi _ hi,cell_of_heap o1]
  have h2:=(hrow ⟨j / k,hi⟩).2 (j % k) hjk
  have e1:j / k*k+j % k=j:=by rw[Nat.mul_comm];exact Nat.div_add_mod j k
  simp only[e1] at h2
  rw[h2]
  have hlt2:j % k<(row ⟨j / k,hi⟩).vs.length:=by rw[(row ⟨j / k,hi⟩).hl];exact hjk
  rw[List.getElem?_eq_getElem hlt2]
  show _=some ((row ⟨j / k,hi⟩).vs[j % k]!)
  rw[getElem!_pos (row ⟨j / k,hi⟩).vs (j % k) hlt2]
 have hcall:=h RowT.vs (fun x=>x.hl) (fun x=>x.h1) _ hSW cs b cap.off cap.n d w hC hH hbs (by rw[hds,<-hnl];exact hlen)
 rw[hds] at hcall
 refine hcall.mono ?_
 rintro ex w' ⟨rfl,d',nd,os,hP,hS,rfl⟩
 obtain⟨p1,_,p3⟩:=hP
 have hd's:d'.size=n:=by rw[p1,hds]
 have hd'p:d'.toList.Perm d.toList:=by
  have e1:d'.extract 0 n=d':=by rw[<-hd's];exact Array.extract_size
  have e2:d.extract 0 n=d:=by rw[<-hds];exact Array.extract_size
  rwa [e1,e2] at p3
 have hd't:d'.toList.map RowT.t=r:=by
  refine List.Perm.eq_of_pairwise (le:=fun x y=>cltM cmp y x=false) (fun x y h1 h2 h3 h4=>?_) ?_ hsorted (((hd'p.map RowT.t).trans (by rw[hdt])).trans hperm.symm)
  ·exact dstM_uniq hdst x (((hd'p.map RowT.t).trans (by rw[hdt])).mem_iff.1 h1) y (hperm.mem_iff.1 h2) h4 h3
  ·refine pair_of_sorted (f:=RowT.t) (r:=fun x y=>cltM cmp y x=false) fun i j hi hij hj=>?_
   rw[<-hlt]
   exact hS i j hi hij (by rw[<-hd's];exact hj)
 have hsz:w.heap.size<=(sortWorldK RowT.vs k w b cap.off nd d' os).heap.size:=by simp[sortWorldK,putRowK,grow,putRow,mapBlock,Sort.ahead]
 refine⟨_,m,β,rfl,.tup rfl (by simp),Mem.le_refl _,himm' nd d' os,fun b' hb' hF=>⟨rfl,hother nd d' os b' hb' (fun e=>?_)⟩,hsz,⟨rfl,rfl,rfl,Nat.le_add_right _ _⟩,fun q=>?_,fun q b' cap' hq hbq=>?_,fun q q' b1 cap1 cap2 hq hq'=>hinj q q' b1 cap1 cap2 (hlive q hq) (hlive q' hq'),hhids _ hsz,hnx,fun q hq=>⟨hq,rfl⟩⟩
 ·subst e;exact(hF id hlid).1 cap hb
 ·rw[hg]
  split
  ·rename_i hh
   subst hh
   rw[hb]
   refine⟨putCells _root_.id cap.off (flatK RowT.vs k d') arr,bl,by rw[hheap nd d' os b hbs,if_pos rfl,o1];rfl,by simp[putCells,o2],by simpa[hrl] using o3,o4,?_,oB,fun i j rw' c hr' hc=>?_⟩
   ·intro rw' hr'
    obtain⟨x,_,rfl⟩:=List.mem_map.1 hr'
    exact hek x
   ·rw[<-hd't,List.map_map,List.getElem?_map,Array.getElem?_toList] at hr'
    cases hx:d'[i]? with
    |none=>rw[hx] at hr';simp at hr'
    |some x=>
     rw[hx] at hr'
     simp at hr'
     subst hr'
     have hi:i<d'.size:=(Array.getElem?_eq_some_iff.1 hx).1
     have hjk:j<k:=by have:=(List.getElem?_eq_some_iff.1 hc).1;rwa [hek] at this
     have hjv:j<x.vs.length:=by rw[x.hl];exact hjk
     have hij:i*k+j<d'.size*k:=by
      have:=Nat.mul_le_mul_right k (show i+1<=d'.size from hi)
      rw[Nat.succ_mul] at this
      omega
     have ha:cap.off+(i*k+j)<arr.size:=by
      rw[o2]
      have:=Nat.mul_le_mul_right k (show d'.size<=cap.n by rw[hd's,<-hnl];exact o3')
      omega
     have e1:(i*k+j) / k=i:=by
      rw[Nat.mul_comm,Nat.mul_add_div (by omega),Nat.div_eq_of_lt hjk,Nat.add_zero]
     have e2:(i*k+j) % k=j:=by rw[Nat.mul_comm,Nat.mul_add_mod,Nat.mod_eq_of_lt hjk]
     refine⟨x.vs[j],?_,.inl (.imm (x.rel j c _ hc (List.getElem?_eq_getElem hjv))),x.h1 _ (List.getElem_mem _)⟩
     unfold putCells
     rw[Array.getElem?_mapIdx,Array.getElem?_eq_getElem ha,Option.map_some,if_pos ⟨Nat.le_add_right _ _,by rw[size_flatK];omega⟩,Nat.add_sub_cancel_left,get_flatK RowT.vs k d' _ hij,e1,e2]
     have hx2:d'[i]! = x:=by
      rw[getElem!_pos d' i hi]
      rw[Array.getElem?_eq_getElem hi] at hx
      exact Option.some.inj hx
     rw[hx2]
     show some ((x.vs)[j]!)=_
     rw[getElem!_pos x.vs j hjv]
  ·rename_i hne
   by_cases hd:hget hp q=.dead
   ·rw[hd];exact ObOk.dead' _
   ·refine ObOk.congr (fun b' cap' hbb=>hother nd d' os b' (live_lt hd hbb (hown q)) (fun e=>?_)) (fun x hx=>hother nd d' os x (hhid q x hd hx).1 ((hhid q x hd hx).2.2.1 id b cap hlid hb)) (hown q)
    subst e
    exact hne (hinj id q b' cap cap' hlid hd hb hbb)
 ·have hq:=hlive q hq
  exact⟨hpriv q b' cap' hq hbq,fun _ hF=>(hF q hq).1 cap' hbq⟩
end Go.Pv
namespace Go.Pv
open Go
set_option linter.unusedVariables false
section
variable{K:Ctx}{Q:Post}{S:St}
variable{ops:Array Oper}{rest:List Oper}{ty:TypeId}{pos:String}{after:Array Edge}{g:Option (Nat×Bool)}
def encR{α:Type}(e k:Nat)(enc:α->List V)(r:List α):List V:=[.dsl e k (r.map enc)]
theorem set_set{α:Type}(l:List α)(i:Nat)(a b:α):(l.set i a).set i b=l.set i b:=by
 induction l generalizing i with
 |nil=>rfl
 |cons x l ih=>cases i with
  |zero=>rfl
  |succ i=>simp[ih]
theorem csub_nil(e k:Nat):CSub Idn (.dsl e k []) (.con (.slice none 0 0)):=fun m β m' β' w B x hy hx=>by
 have h:=hx.v rfl
 have:=h.of_con
 subst this
 exact .inr (.nil e k none)
theorem ghost_eqH{env:Env}{hp:Heap}(hp':Heap){nx:Nat}(h:∀q,hget hp' q=hget hp q):Ghost K ⟨env,hp,nx⟩ ⟨env,hp',nx⟩:=fun m β w a r=>⟨m,β,r.congr (fun _=>rfl) h rfl⟩
theorem hget_self{i:Nat}{b:Ob}{hp:Heap}:hget ((i,b)::hp) i=b:=by rw[hget_put,if_pos rfl]
theorem aops_makeSliceD{α:Type}{d T e k bytes e2 k2:Nat}{x:Operand}{n:Int}{zs:List Value}{ln:Nat}(enc:α->List V)(rows:List (List V))(hT:tyEl K.P T e k bytes=true)(hz:zeroCells K.P e=some zs)
  (h1:zs.all (·.oneCell')=true) (hk:Nat.blt 0 k=true) (hzn:zs=[.slice none 0 0]) (h0:0<=n/\(bytes:Int)*n<=140737488355328/\n<=140737488355328) (hr:rows=(List.replicate n.toNat ([]:List α)).map (encR e2 k2 enc)) (hln:ln=n.toNat) (hw:Wants ops S ⟨some d,.makeSlice T x x,ty,pos,after,g⟩ true)
  (hx:evl K S x=.con (.int .i64 n)) (hN:Nat.blt d K.N=true)
  (kk:AOps K ops rest Q ⟨(d,.own S.nx ln)::S.env,(S.nx,.arr e k rows)::S.hp,S.nx+1⟩):
  AOps K ops (⟨some d,.makeSlice T x x,ty,pos,after,g⟩::rest) Q S:=by
 refine aops_makeSlice (List.replicate n.toNat (zs.map V.con)) hT hz h1 hk h0 rfl hln hw hx hN ?_
 refine aops_ghost (ghost_tellC S.nx (.arr e k rows) (ob0:=.arr e k (List.replicate n.toNat (zs.map V.con))) hget_self ?_) (aops_ghost (ghost_eqH ((S.nx,.arr e k rows)::S.hp) (fun q=>?_)) kk)
 ·subst hr hzn
  refine⟨rfl,rfl,by simp,fun i r r' h h'=>?_⟩
  rw[List.getElem?_map,List.getElem?_replicate] at h
  rw[List.getElem?_replicate] at h'
  split at h
  ·rename_i hi
   rw[if_pos hi] at h'
   simp only[Option.map_some,Option.some.injEq] at h h'
   subst h h'
   refine⟨by simp[encR],fun j c c' hc hc'=>?_⟩
   match j with
   |0=>
    simp[encR] at hc hc'
    subst hc hc'
    exact csub_nil e2 k2
   |j+1=>simp[encR] at hc
  ·simp at h
 ·simp only[hget_put]
  split<;>rfl
instance {α:Type} {e k:Nat} {enc:α->List V}:EK (encR e k enc):=⟨fun x c hc=>by
 have:c=.dsl e k (x.map enc):=by simpa[encR] using hc
 subst this
 exact Keep.dsl _ _ _⟩
end
theorem bk{α β:Type}{o:Option α}{k:α->Option β}{r:β}{P:Prop}(h:o.bind k=some r)(c:∀y,o=some y->k y=some r->P):P:=by
 obtain⟨y,a,b⟩:=bind_some h
 exact c y a b
theorem pure_nilAt{gl:Gl}{P:Program}{f:FuncId}{args args':List V}{d:V}{k:Nat}(i:Nat)(h1:args'[i]? = some (.con (.slice none 0 0)))(h2:args=args'.set i (.lst k []))(h:PureG gl P f args d):PureG gl P f args' d:=fun m w vs hm hg ha=>by
 subst h2
 refine h m w vs hm hg ⟨by simpa using ha.1,fun j c v hc hv=>?_⟩
 rw[List.getElem?_set] at hc
 by_cases e:i=j
 ·subst e
  have hi:=(List.getElem?_eq_some_iff.1 h1).1
  rw[if_pos rfl,if_pos hi] at hc
  cases hc
  have:=ha.2 i _ v h1 hv
  cases this
  exact .nil _ _ _
 ·rw[if_neg e] at hc
  exact ha.2 j c v hc hv
section
variable{K:Ctx}{Q:Post}{S:St}
variable{ops:Array Oper}{rest:List Oper}{ty:TypeId}{pos:String}{after:Array Edge}{g:Option (Nat×Bool)}
def UndL(a b:List V):Prop:=a.length=b.length/\∀(j:Nat) (c c':V),a[j]? = some c->b[j]? = some c'->Und c c'/\Keep c
inductive CSubs:List V->List V->Prop
 |nil:CSubs [] []
 |cons {c c':V} {l l':List V} (h:CSub Idn c c') (h':CSubs l l'):CSubs (c::l) (c'::l')
theorem CSubs.len{l l':List V}(h:CSubs l l'):l.length=l'.length:=by
 induction h with
 |nil=>rfl
 |cons _ _ ih=>simp[ih]
theorem CSubs.at{l l':List V}(h:CSubs l l'):∀(j:Nat) (c c':V),l[j]? = some c->l'[j]? = some c'->CSub Idn c c':=by
 induction h with
 |nil=>intro j c c' h;simp at h
 |cons h _ ih=>
  intro j c c' h1 h2
  cases j with
  |zero=>simp at h1 h2;subst h1 h2;exact h
  |succ j=>exact ih j c c' (by simpa using h1) (by simpa using h2)
theorem csub_keep(c:V):CSub Idn c c:=CSub.same HyMC.h Sub.keepI
theorem UndL.nil:UndL [] []:=⟨rfl,fun j c c' h=>by simp at h⟩
theorem UndL.cons{c c':V}{l l':List V}(h:Und c c'/\Keep c)(r:UndL l l'):UndL (c::l) (c'::l'):=⟨by simp[r.1],fun j x x' h1 h2=>by
 cases j with
 |zero=>simp at h1 h2;subst h1 h2;exact h
 |succ j=>exact r.2 j x x' (by simpa using h1) (by simpa using h2)⟩
end
end Go.Pv
