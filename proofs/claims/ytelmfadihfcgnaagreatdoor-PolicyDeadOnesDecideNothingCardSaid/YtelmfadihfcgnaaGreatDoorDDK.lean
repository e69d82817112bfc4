/- Part of the proof: DO, DR, ZC, DA, DS, DT, DU, EI, DK. -/
import Derived.Test.YtelmfadihfcgnaaGreatDoorDDN
import Derived.Test.YtelmfadihfcgnaaGreatDoorDWA
import Derived.Test.YtelmfadihfcgnaaGreatDoorDZA
import Derived.Maps.RangeRun
import Derived.Lib.SlicesCompact
import Derived.Shelf.Small.Strs
namespace Go.Pv
open Go
set_option linter.unusedVariables false
section
variable{K:Ctx}{Q:Post}{S:St}
variable{m:Mem}{β:Locs}{w:World}{a:Act}
variable{ops:Array Oper}{rest:List Oper}{ty:TypeId}{pos:String}{after:Array Edge}{g:Option (Nat×Bool)}
theorem ghost_freezeMD(id:Nat){es:List (Value×V)}(es':List (Value×V))(env:Env)(hp:Heap)(ho:hget S.hp id=.map es)(hl:es.length=es'.length)
  (hk:∀(i:Nat) (p p':Value×V),es[i]? = some p->es'[i]? = some p'->p.1=p'.1/\Und p.2 p'.2/\Keep p.2)
  (henv:∀t,Sub (FrzM id es') (get env t) (get S.env t)) (hhp:∀i,ObSub (FrzM id es') (hget hp i) (hget S.hp i)) (hd:hget hp id=.dead):Ghost K S ⟨env,hp,S.nx⟩:=by
 intro m β w a r
 have hlid:hget S.hp id≠.dead:=by rw[ho];simp
 obtain⟨b,cap,hb⟩:=map_loc r ho
 have hown:=r.own id
 rw[ho,hb] at hown
 obtain⟨ents,clock,bl,h1,h2,hBl,h6⟩:=hown
 have hp':=r.priv id b cap hlid hb
 have key:∃m',(∀b o,m' b=some o->w.heap[b]? = some o)/\FrzM id es' m β m' β/\(∀b',m' b'=m b'\/(∃cap,β id=some (some (b',cap)))\/β.hid id b'):=by
  classical
  let m':Mem:=fun b'=>if b'=b\/β.hid id b' then w.heap[b']? else m b'
  have hmb:∀x,(x=b\/β.hid id x)->m' x=w.heap[x]?:=fun x h=>by simp only[m'];rw[if_pos h]
  have hmo:∀x,¬(x=b\/β.hid id x)->m' x=m x:=fun x h=>by simp only[m'];rw[if_neg h]
  have hle:m.le m':=by
   intro b' o h
   rw[hmo]
   ·exact h
   ·rintro(e'|e')
    ·subst e';rw[hp'.1] at h;simp at h
    ·rw[(r.hid id b' hlid e').m] at h;simp at h
  refine⟨m',?_,⟨hle,rfl,?_⟩,?_⟩
  ·intro b' o h
   by_cases hbb:b'=b\/β.hid id b'
   ·rw[hmb b' hbb] at h;exact h
   ·rw[hmo b' hbb] at h;exact r.imm _ _ h
  ·intro x hx
   cases hx with
   |imm h=>cases h
   | @map _ b2 cap2 h=>
    rw[hb] at h
    simp only[Option.some.injEq,Prod.mk.injEq] at h
    obtain⟨rfl,rfl⟩:=h
    refine .imap (by rw[hmb b (.inl rfl)];exact h1) (by omega) (fun i p e hi he=>?_) (fun i p e hi he=>?_)
    ·have hlt:i<es.length:=by rw[hl];exact(List.getElem?_eq_some_iff.1 hi).1
     rw[(h6 i _ e (List.getElem?_eq_getElem hlt) he).1]
     exact(hk i _ p (List.getElem?_eq_getElem hlt) hi).1
    ·have hlt:i<es.length:=by rw[hl];exact(List.getElem?_eq_some_iff.1 hi).1
     obtain⟨u1,u2,u3⟩:=hk i _ p (List.getElem?_eq_getElem hlt) hi
     have hd:DRel m w (bl i) es[i].2 e.val:=(h6 i _ e (List.getElem?_eq_getElem hlt) he).2.elim (fun h=>.imm (u3 _ _ _ h)) (fun h=>h)
     exact hd.und hle p.2 u2 (fun x hx=>hmb x (.inr (hBl.1 _ x hx)))
  ·intro b'
   by_cases hbb:b'=b\/β.hid id b'
   ·rcases hbb with h|h
    ·exact .inr (.inl ⟨cap,by rw[h];exact hb⟩)
    ·exact .inr (.inr h)
   ·exact .inl (hmo b' hbb)
 obtain⟨m',k1,hy,k2⟩:=key
 have hlive:∀i,hget hp i≠.dead->hget S.hp i≠.dead/\i≠id:=by
  intro i h
  have h2:=hhp i
  refine⟨fun hdd=>?_,fun he=>h (by rw[he];exact hd)⟩
  rw[hdd] at h2
  cases ho':hget hp i with
  |dead=>exact h ho'
  |arr=>rw[ho'] at h2;simp[ObSub] at h2
  |res=>rw[ho'] at h2;simp[ObSub] at h2
  |map=>rw[ho'] at h2;simp[ObSub] at h2
  |iter=>rw[ho'] at h2;simp[ObSub] at h2
  |bld=>rw[ho'] at h2;simp[ObSub] at h2
 refine⟨m',β,?_⟩
 constructor
 ·exact k1
 ·exact Mem.le_trans r.ext hy.1
 ·intro b hb' hold
  rcases k2 b with h|⟨cap2,h⟩|h
  ·rw[h];exact r.mold b hb' hold
  ·exact absurd hold ((r.priv id b _ hlid h).2 hb')
  ·exact absurd hold ((r.hid id b hlid h).old hb')
 ·exact r.frame
 ·exact r.size
 ·exact r.same
 ·exact r.tn
 ·exact r.df.mono hy.1
 ·exact fun t=>henv t _ _ _ _ _ hy (r.env t)
 ·intro i
  exact(hhp i).ok hy (r.own i)
 ·intro i b cap hl hb'
  obtain⟨h1,h2⟩:=hlive i hl
  have hp':=r.priv i b cap h1 hb'
  refine⟨?_,hp'.2⟩
  rcases k2 b with h|⟨cap',h⟩|h
  ·rw[h];exact hp'.1
  ·exact absurd (r.inj i id b cap cap' h1 hlid hb' h) h2
  ·exact absurd rfl ((r.hid id b hlid h).ne i b cap h1 hb')
 ·intro i i' b cap cap' hl hl'
  exact r.inj i i' b cap cap' (hlive i hl).1 (hlive i' hl').1
 ·intro i x hl hx
  obtain⟨h1,h2⟩:=hlive i hl
  have h:=r.hid i x h1 hx
  refine⟨h.lt,?_,h.old,fun i' b c hi'=>h.ne i' b c (hlive i' hi').1,fun i' hi'=>h.un i' (hlive i' hi').1⟩
  rcases k2 x with h'|⟨cap',h'⟩|h'
  ·rw[h'];exact h.m
  ·exact absurd rfl (h.ne id x cap' hlid h')
  ·exact absurd (h.un id hlid h') (Ne.symm h2)
 ·exact r.nx
 ·exact r.pin
theorem aops_lookup_takeG(id0 nx':Nat)(hfr:∀m β w a,Rel K m β w a S->β id0=none/\∀q,q<K.pins->q≠id0)(hlt0:id0<nx')(hle0:S.nx<=nx'){d:Nat}{T k e e' k' id:Nat}{x y:Operand}{good:Value->Prop}{kv:Value}{es es':List (Value×V)}{rws:List (List V)}(hT:tyMap K.P T k e=true)(hK:KeyT K.P k good)
  (hz:(K.P.info? e).bind (·.zero)=some (.slice none 0 0))
  (hw:Wants ops S ⟨some d,.lookup T x y false,ty,pos,after,g⟩ true) (hx:evl K S x=.map id) (ho:hget S.hp id=.map es) (hy:KeyIs K S y kv) (hg:good kv) (hges:∀p,p∈es->good p.1)
  (hl:LookT kv id0 e' k' es es' rws) (hN:Nat.blt d K.N=true)
  (kk:AOps K ops rest Q ⟨(d,.own id0 rws.length)::S.env,(id,.map es')::(id0,.arr e' k' rws)::S.hp,nx'⟩):AOps K ops (⟨some d,.lookup T x y false,ty,pos,after,g⟩::rest) Q S:=by
 refine aops_runs hw (fun m β w a r=>?_) kk
 have h:=r.reads x
 rw[hx] at h
 obtain⟨b,ents,clock,e1,⟨E,e2,eP,eW⟩,e3,e4⟩:=(MapIs.own ho).read r h
 have hobj:(getObj b).run K.P w=.ok (.map E clock) w:=by simp[getObj,Sem.run,e2]
 have hzr:(zeroValue e).run K.P w=.ok (.slice none 0 0) w:=by
  cases hi:K.P.info? e with
  |none=>simp[hi] at hz
  |some i=>
   simp[hi] at hz
   simp only[zeroValue,Sem.run_bind,run_typeInfo w hi,Result.andThen_ok,hz];rfl
 have hbloc:=map_loc r ho
 have hidn:id≠id0:=fun h=>by obtain⟨b,cap,hb⟩:=hbloc;rw[h,(hfr m β w a r).1] at hb;simp at hb
 have hswap:∀(m':Mem) (β':Locs) (o1 o2:Ob) (n:Nat),Rel K m' β' w a ⟨S.env,(id0,o2)::(id,o1)::S.hp,n⟩->Rel K m' β' w a ⟨S.env,(id,o1)::(id0,o2)::S.hp,n⟩:=by
  intro m' β' o1 o2 n rr
  refine rr.congr (fun _=>rfl) (fun t=>?_) rfl
  show hget ((id,o1)::(id0,o2)::S.hp) t=hget ((id0,o2)::(id,o1)::S.hp) t
  rw[hget_put,hget_put,hget_put,hget_put]
  by_cases h1:id=t<;>by_cases h2:id0=t
  ·exact absurd (h1.trans h2.symm) hidn
  ·rw[if_pos h1,if_neg h2,if_pos h1]
  ·rw[if_neg h1,if_pos h2,if_pos h2]
  ·rw[if_neg h1,if_neg h2,if_neg h2,if_neg h1]
 rcases hl.cases with ⟨h1,h2,h3⟩|⟨i,h1,h2,h3⟩
 ·subst h1 h2
  rcases found hK hg e3 (fun i p e a b=>(e4 i p e a b).1) hges eP eW (w:=w) with ⟨a1,a2,_⟩|⟨j,p,en,jE,a1,a2,a3,a4,a5,aE⟩
  ·obtain⟨β',hle,hβ,r3⟩:=r.adopt id0 nx' (hfr m β w a r).1 (hfr m β w a r).2 hlt0 hle0 none (.arr e' k' []) (fun b c hb=>by simp at hb) (fun _ _=>rfl)
   have r4:Rel K m β' w a ⟨S.env,(id,.map es')::(id0,.arr e' k' [])::S.hp,nx'⟩:=by
    refine r3.congr (fun _=>rfl) (fun t=>?_) rfl
    show hget ((id,.map es')::(id0,.arr e' k' [])::S.hp) t=hget ((id0,.arr e' k' [])::S.hp) t
    rw[hget_put]
    split
    ·rename_i h;subst h;rw[hget_put,if_neg (Ne.symm hidn),ho]
    ·rfl
   refine⟨_,w,m,β',.inl ?_,r4.put hN (.ownNil (ad:=none) hβ)⟩
   simp only[execOp,e1,hy.read r]
   refine run_value ?_
   simp only[Instr.lookup,Sem.run_bind,run_underlying (tyMap_inv hT),Result.andThen_ok,hobj,pure,Sem.run,hK.check _ w kv hg,a1,hzr]
   rfl
  ·exact absurd a4 (h3 p (List.mem_of_getElem? a3))
 ·obtain⟨m',β',r2⟩:=r.takeM id i id0 nx' (hfr m β w a r).1 (hfr m β w a r).2 hlt0 hle0 ho h1 (show ovl (.dsl e' k' rws) id0=_ from rfl)
  rw[<-h2] at r2
  have hx2:VRel m' β' (.map id) (a.eval x):=by
   have:=(r2.reads x)
   exact(show evl K ⟨S.env,(id,.map es')::(id0,.arr e' k' rws)::S.hp,nx'⟩ x=.map id by cases x<;>exact hx) ▸ this
  obtain⟨b2,ents2,clock2,f1,⟨E2,f2,fP,fW⟩,f3,f4⟩:=(MapIs.own (S:=⟨S.env,(id,.map es')::(id0,.arr e' k' rws)::S.hp,nx'⟩) (id:=id) (es:=es') (by simp[hget_put])).read r2 hx2
  have hges':∀p,p∈es'->good p.1:=by
   intro p hp
   rw[h2] at hp
   rcases List.mem_or_eq_of_mem_set hp with h|h
   ·exact hges p h
   ·rw[h];exact hg
  have hobj2:(getObj b2).run K.P w=.ok (.map E2 clock2) w:=by simp[getObj,Sem.run,f2]
  rcases found hK hg f3 (fun i p e a b=>(f4 i p e a b).1) hges' fP fW (w:=w) with ⟨a1,a2,_⟩|⟨j,p,en,jE,a1,a2,a3,a4,a5,aE⟩
  ·have:=h3.none_of a2;simp at this
  ·have hp:p=(kv,p.2):=by rw[<-a4]
   rw[hp] at a3
   have hr:=h3.some_of j p.2 a3 a5
   simp only[Option.some.injEq] at hr
   refine⟨en.val,w,m',β',.inl ?_,r2.put hN ?_⟩
   ·simp only[execOp,f1,hy.read r]
    refine run_value ?_
    simp only[Instr.lookup,Sem.run_bind,run_underlying (tyMap_inv hT),Result.andThen_ok,hobj2,pure,Sem.run,hK.check _ w kv hg,a1]
    rfl
   ·rw[hr];exact(f4 j _ en a3 a2).2 (by rw[<-hr];rfl)
inductive LookD(x:Value)(d o:V):List (Value×V)->List (Value×V)->Prop
 |here {es:List (Value×V)}:LookD x d o ((x,d)::es) ((x,o)::es)
 |there {q:Value} {v:V} {es es':List (Value×V)} (h:q≠x) (h':LookD x d o es es'):LookD x d o ((q,v)::es) ((q,v)::es')
theorem LookD.at{x:Value}{d o:V}{es es':List (Value×V)}(h:LookD x d o es es'):∃i,es[i]? = some (x,d)/\es'=es.set i (x,o)/\Look x es' (some o):=by
 induction h with
 |here=>exact⟨0,rfl,rfl,.here⟩
 | @there q v es es' h h' ih=>
  obtain⟨i,h1,h2,h3⟩:=ih
  exact⟨i+1,by simpa using h1,by rw[h2];rfl,.there h h3⟩
theorem aops_mapUpdate_deepG{T k e id2:Nat}{x y z:Operand}{good:Value->Prop}{kv:Value}{id:Nat}{es:List (Value×V)}{dv o:V}{ob:Ob}(es3:List (Value×V))(hT:tyMap K.P T k e=true)(hK:KeyT K.P k good)
  (hw:Wants ops S ⟨none,.mapUpdate T x y z,ty,pos,after,g⟩ true) (hx:evl K S x=.map id) (ho:hget S.hp id=.map es) (hy:KeyIs K S y kv) (hg:good kv) (hges:∀p,p∈es->good p.1) (hz:evl K S z=o)
  (hov:ovl dv id2=some (o,ob)) (ho2:hget S.hp id2=ob) (hne:Nat.beq id id2=false) (hkp:OKeep ob)
  (hp:Puts kv dv es es3) (kk:AOps K ops rest Q ⟨S.env,(id,.map es3)::(id2,.dead)::S.hp,S.nx⟩):AOps K ops (⟨none,.mapUpdate T x y z,ty,pos,after,g⟩::rest) Q S:=by
 obtain⟨es2,i,h1,h2,h3⟩:=hp.other o
 have hne:id≠id2:=fun h=>by rw[h,Nat.beq_refl] at hne;simp at hne
 refine aops_mapUpdate es2 hT hK hw hx ho hy hg hges hz h1 (aops_ghost (S':=⟨S.env,(id,.map (es2.set i (kv,dv)))::(id2,.dead)::(id,.map es2)::S.hp,S.nx⟩) (ghost_untakeMG id i id2 (S:=⟨S.env,(id,.map es2)::S.hp,S.nx⟩) (by simp[hget_put]) h2 hov (by rw[hget_put,if_neg hne];exact ho2) hne hkp) ?_)
 rw[<-h3]
 refine aops_ghost (ghost_congr (S':=⟨S.env,(id,.map es3)::(id2,.dead)::S.hp,S.nx⟩) (fun _=>rfl) (fun t=>?_) rfl) kk
 simp only[hget_put]
 split
 ·rfl
 ·split
  ·rfl
  ·rfl
theorem ghost_frzDMC(id id2:Nat){es:List (Value×V)}(es':List (Value×V))(ob:Ob)(ho:hget S.hp id=.map es)(hl:es.length=es'.length)
  (hk:∀(i:Nat) (p p':Value×V),es[i]? = some p->es'[i]? = some p'->p.1=p'.1/\Und p.2 p'.2/\Keep p.2) (hob:ObSub (FrzM id es') ob (hget S.hp id2)):
  Ghost K S ⟨S.env,(id,.dead)::(id2,ob)::S.hp,S.nx⟩:=
 ghost_freezeMD id es' _ _ ho hl hk (fun _=>Sub.keepM) (fun i=>by
  rw[hget_put]
  split
  ·trivial
  ·rw[hget_put]
   split
   ·rename_i h;subst h;exact hob
   ·exact ObSub.keep (fun _=>Sub.keepM) _) (by simp[hget_put])
theorem ghost_frzDM(id t:Nat){es:List (Value×V)}(es':List (Value×V))(ho:hget S.hp id=.map es)(hl:es.length=es'.length)
  (hk:∀(i:Nat) (p p':Value×V),es[i]? = some p->es'[i]? = some p'->p.1=p'.1/\Und p.2 p'.2/\Keep p.2) (ht:get S.env t=.map id):
  Ghost K S ⟨(t,.imap es')::S.env,(id,.dead)::S.hp,S.nx⟩:=
 ghost_freezeMD id es' _ _ ho hl hk (envPut (fun _=>Sub.keepM) (by rw[ht];exact Sub.frzM)) (fun i=>by rw[hget_put];split<;>first|trivial|exact ObSub.keep (fun _=>Sub.keepM) _) (by simp[hget_put])
end
variable{κ α β γ:Type}[DecidableEq κ]
theorem und_rows{e k:Nat}{enc:α->List V}(hi:∀x,Imms (enc x))(l:List α):Und (.dsl e k (l.map enc)) (.lst k (l.map enc)):=
 .sl rfl (fun i r r' h h'=>by rw[h] at h';simp at h';rw[h']) (fun i j r r' c c' h h' hj hj'=>by
  rw[h] at h';simp at h';subst h'
  rw[hj] at hj';simp at hj';subst hj'
  rw[List.getElem?_map,Option.map_eq_some_iff] at h
  obtain⟨x,_,rfl⟩:=h
  exact .imm (hi x c (List.mem_of_getElem? hj)).1)
theorem und_map{τ:Type}{D E:τ->Value×V}(h:∀x,(D x).1=(E x).1/\Und (D x).2 (E x).2/\Keep (D x).2)(l:List τ)(i:Nat)(p p':Value×V)(hp:(l.map D)[i]? = some p)(hp':(l.map E)[i]? = some p'):p.1=p'.1/\Und p.2 p'.2/\Keep p.2:=by
 rw[List.getElem?_map,Option.map_eq_some_iff] at hp hp'
 obtain⟨x,h1,rfl⟩:=hp
 obtain⟨y,h2,rfl⟩:=hp'
 rw[h1] at h2;simp at h2;subst h2
 exact h x
theorem okeep_rows{e k:Nat}{enc:α->List V}(hi:∀x,Imms (enc x))(l:List α):OKeep (.arr e k (l.map enc)):=fun r hr=>by
 obtain⟨x,_,rfl⟩:=List.mem_map.1 hr;exact(hi x).keep
section
variable{K:Ctx}{Q:Post}{S:St}
end
def optr{τ:Type}(enc:τ->List V):Option τ->V
 |none=>.con (.pointer none)
 |some x=>.iptr (enc x) 0
theorem imm_optr{τ:Type}{enc:τ->List V}:∀o:Option τ,Imm (optr enc o)
 |none=>Imm.con _
 |some _=>Imm.iptr _ _
section
variable{K:Ctx}{Q:Post}{S:St}{s:List It}
variable{ops:Array Oper}{l:List Oper}
theorem ghost_optr{τ:Type}{enc:τ->List V}{o:Option τ}{x:τ}(t:Nat)(h:o=some x)(ht:get S.env t=optr enc o):Ghost K S ⟨(t,.iptr (enc x) 0)::S.env,S.hp,S.nx⟩:=by
 subst h
 refine Ghost.env (S:=S) (fun q=>?_)
 show(bif Nat.beq t q then V.iptr (enc x) 0 else get S.env q)=get S.env q
 cases hq:Nat.beq t q
 ·rfl
 ·have:=Nat.eq_of_beq_eq_true hq
  subst this
  exact ht.symm
theorem opC{τ:Type}{enc:τ->List V}{o:Option τ}{x:τ}(t:Nat)(h:o=some x)(ht:gtC S.env t=some (optr enc o)){c:Code}(k:WG K Q (.c c::s) ⟨(t,.iptr (enc x) 0)::S.env,S.hp,S.nx⟩):WG K Q (.c c::s) S:=
 wg_cl (.inl ⟨_,rfl⟩) (ghost_optr t h (gtC_ok ht)) k
theorem opO{τ:Type}{enc:τ->List V}{o:Option τ}{x:τ}(t:Nat)(h:o=some x)(ht:gtC S.env t=some (optr enc o))(k:WG K Q (.o ops l::s) ⟨(t,.iptr (enc x) 0)::S.env,S.hp,S.nx⟩):WG K Q (.o ops l::s) S:=
 wg_cl (.inr ⟨_,_,rfl⟩) (ghost_optr t h (gtC_ok ht)) k
end
theorem good_holeM{E:κ×List α->Value×V}{good:Value->Prop}(h:∀p,good (E p).1){nx:Nat}{k0:κ}:∀{xs:List (κ×List α)} (q:Value×V),q∈holeM E nx k0 xs->good q.1
 |[],q,hq=>by simp[holeM] at hq
 |p::xs,q,hq=>by
  simp only[holeM] at hq
  split at hq
  ·rcases List.mem_cons.1 hq with rfl|hq
   ·exact h p
   ·obtain⟨x,_,rfl⟩:=List.mem_map.1 hq;exact h x
  ·rcases List.mem_cons.1 hq with rfl|hq
   ·exact h p
   ·exact good_holeM h q hq
section
variable{K:Ctx}{Q:Post}{S:St}
variable{ops:Array Oper}{rest:List Oper}{ty:TypeId}{pos:String}{after:Array Edge}{g:Option (Nat×Bool)}
theorem aops_lookup_tk_at{d nx:Nat}{T k e e' k' id n:Nat}{x y:Operand}{good:Value->Prop}{kv:Value}{es es':List (Value×V)}{rws:List (List V)}(idn:Nat)(hid:(Nat.blt idn nx&&Nat.ble K.pins idn)=true)(hnxx:S.nx=nx)(hres:hget S.hp idn=.res)(hT:tyMap K.P T k e=true)(hK:KeyT K.P k good)
  (hz:(K.P.info? e).bind (·.zero)=some (.slice none 0 0))
  (hw:Wants ops S ⟨some d,.lookup T x y false,ty,pos,after,g⟩ true) (hx:evl K S x=.map id) (ho:hget S.hp id=.map es) (hy:KeyIs K S y kv) (hg:good kv) (hges:∀p,p∈es->good p.1)
  (hl:LookT kv idn e' k' es es' rws) (hn:rws.length=n) (hN:Nat.blt d K.N=true)
  (kk:AOps K ops rest Q ⟨(d,.own idn n)::S.env,(id,.map es')::(idn,.arr e' k' rws)::S.hp,S.nx⟩):AOps K ops (⟨some d,.lookup T x y false,ty,pos,after,g⟩::rest) Q S:=by
 subst hn
 exact aops_lookup_takeG idn S.nx (fun _ _ _ _ r=>⟨r.free hres,fun q hq=>by have:=Nat.le_of_ble_eq_true (Bool.and_eq_true_iff.1 hid).2;omega⟩) (by rw[hnxx];exact Nat.le_of_ble_eq_true (Bool.and_eq_true_iff.1 hid).1) (Nat.le_refl _) hT hK hz hw hx ho hy hg hges hl hN kk
def sameAll(ts:List Nat)(v:V)(e:Env):Env:=match ts with|[]=>e|t::ts=>(t,v)::sameAll ts v e
theorem sameAll_sub{Y:Hy}{v v0:V}{env:Env}(hk:∀v,Sub Y v v)(h:Sub Y v v0):∀(ts:List Nat),(∀t,t∈ts->get env t=v0)->∀t',Sub Y (get (sameAll ts v env) t') (get env t')
 |[],_,t'=>hk _
 |t::ts,hh,t'=>by
  rw[sameAll,get_put]
  split
  ·rename_i he;subst he;rw[hh t (by simp)];exact h
  ·exact sameAll_sub hk h ts (fun q hq=>hh q (List.mem_cons_of_mem _ hq)) t'
theorem ghost_frzEs(id:Nat)(ts:List Nat){e k n:Nat}{rows:List (List V)}(ho:hget S.hp id=.arr e k rows)(hi:∀row,row∈rows->Imms row)
  (ht:∀t,t∈ts->get S.env t=.own id n) (hn:n=rows.length):Ghost K S ⟨sameAll ts (.lst k rows) S.env,(id,.dead)::S.hp,S.nx⟩:=
 ghost_freeze id _ _ ho hi (sameAll_sub (fun _=>Sub.keep) (Sub.frzAll hn) ts ht) hpFrz0 (by simp[hget_put])
inductive Zs:List V->List Value->Prop
 |nil:Zs [] []
 |con {v:Value} {cs:List V} {vs:List Value} (h:Zs cs vs):Zs (.con v::cs) (v::vs)
 |sl {k:Nat} {cs:List V} {vs:List Value} (h:Zs cs vs):Zs (.lst k []::cs) (.slice none 0 0::vs)
theorem Zs.ok{cs:List V}{vs:List Value}(h:Zs cs vs)(m:Mem):cs.length=vs.length/\∀(i:Nat) c v,cs[i]? = some c->vs[i]? = some v->IRel m c v:=by
 induction h with
 |nil=>exact⟨rfl,by simp⟩
 |con h ih=>
  refine⟨by simp[ih.1],fun i c v a b=>?_⟩
  cases i with
  |zero=>simp at a b;subst a;subst b;exact .con _
  |succ i=>exact ih.2 i c v (by simpa using a) (by simpa using b)
 |sl h ih=>
  refine⟨by simp[ih.1],fun i c v a b=>?_⟩
  cases i with
  |zero=>simp at a b;subst a;subst b;exact .nil _ _ _
  |succ i=>exact ih.2 i c v (by simpa using a) (by simpa using b)
theorem irel_aggZ{cs:List V}{vs:List Value}(h:Zs cs vs):∀m:Mem,IRel m (.agg cs) (.agg vs.toArray):=fun m=>
 .agg (by simpa using (h.ok m).1) (fun i c v a b=>(h.ok m).2 i c v a (by simpa using b))
end
end Go.Pv
namespace Go.Pv
open Go
set_option linter.unusedVariables false
set_option linter.unusedSimpArgs false
open Go.ChangeMaps (setBlock)
section
variable{K:Ctx}{Q:Post}{S:St}
variable{m:Mem}{β:Locs}{w:World}{a:Act}
variable{ops:Array Oper}{rest:List Oper}{ty:TypeId}{pos:String}{after:Array Edge}{g:Option (Nat×Bool)}
theorem run_valueW{P:Program}{w w':World}{s:Sem Value}{v:Value}(h:s.run P w=.ok v w'):(do pure (Next.value (<-s)):Sem Next).run P w=.ok (.value v) w':=by
 rw[Sem.run_bind,h];rfl
theorem aops_range{d T k e:Nat}{x:Operand}{es:List (Value×V)}(hT:tyMap K.P T k e=true)
  (hw:Wants ops S ⟨some d,.range T x,ty,pos,after,g⟩ true) (hx:evl K S x=.imap es) (hN:Nat.blt d K.N=true)
  (kk:AOps K ops rest Q ⟨(d,.ptr S.nx 1 0 0)::S.env,(S.nx,.iter [] es)::S.hp,S.nx+1⟩):AOps K ops (⟨some d,.range T x,ty,pos,after,g⟩::rest) Q S:=by
 refine aops_runs hw (fun m β w a r=>?_) kk
 have h:=r.reads x
 rw[hx] at h
 generalize hv:a.eval x=v at h
 cases h with
 |imm h=>
 cases h with
 | @imap _ bm ents clock hm hl hk h=>
 obtain⟨E,hE,hP,hW⟩:=hm
 obtain⟨β',hle,hnx,r2⟩:=r.alloc (.mapIter (some bm) clock #[] clock) (.iter [] es) ⟨0,0⟩ _ rfl (fun β' hle=>⟨bm,#[],E,clock,ents.toList,rfl,by simp,hE,hW,by simpa[leftOf,List.filter_eq_self.2] using hP,by simpa using hl,fun i p e hi he=>⟨hk i p e hi (by simpa using he),h i p e hi (by simpa using he)⟩,by simp⟩)
 refine⟨.pointer (some ⟨w.heap.size,0,none⟩),{ w with heap:=w.heap.push (.mapIter (some bm) clock #[] clock) },m,β',.inl ?_,Rel.put r2 hN (.ptr hnx)⟩
 simp only[execOp,hv]
 exact run_valueW (run_range_map w T k e bm E clock (tyMap_inv hT) (r.imm _ _ hE))
theorem aops_runs1{o:Oper}{S':St}(r:Rel K m β w a S)(hw:Wants ops S o true)
  (h:∃v w' m' β',((execOp a.eval o).run K.P w=.ok (.value v) w')/\Rel K m' β' w' (a.put o.dst v) S') (k:AOps K ops rest Q S'):wpListIn K.fc 0 K.P ops (Q.at K) (o::rest) a w:=by
 unfold wpListIn
 rw[if_pos (hw.at r)]
 obtain⟨v,w',m',β',h1,r'⟩:=h
 refine op_in (.inr (nd_run h1 (fun d e=>by cases e))) ?_
 unfold Oper.wp
 rw[h1];exact k m' β' w' _ r'
theorem erase_left{v L:List MapEntry}{j:Nat}{e:MapEntry}(h:v.Perm L)(hn:(L.map (·.born)).Nodup)(hj:v[j]? = some e):(v.eraseIdx j).Perm (L.filter fun x=>x.born != e.born):=by
 have h1:=cons_erase e v j hj
 have hn2:((e::v.eraseIdx j).map (·.born)).Nodup:=((h1.symm.trans h).map _).nodup_iff.2 hn
 have h3:∀x,x∈v.eraseIdx j->(x.born != e.born)=true:=by
  intro x hx
  rw[List.map_cons,List.nodup_cons] at hn2
  simp only[bne_iff_ne,ne_eq]
  intro hh
  exact hn2.1 (List.mem_map.2 ⟨x,hx,hh⟩)
 have h2:=((h1.symm.trans h).filter fun x=>x.born != e.born)
 rw[List.filter_cons,if_neg (by simp),List.filter_eq_self.2 h3] at h2
 exact h2
theorem left_push(E:Array MapEntry)(seen:Array Nat)(b:Nat):(leftOf E (seen.push b)).toList=(leftOf E seen).toList.filter fun x=>x.born != b:=by
 simp only[leftOf,Array.toList_filter,List.filter_filter]
 congr 1
 funext x
 rw[contains_push]
 cases hc:seen.contains x.born<;>by_cases hb:x.born=b<;>simp[hb,bne]
theorem aops_next{d id:Nat}{x:Operand}{cur left:List (Value×V)}
  (hw:Wants ops S ⟨some d,.next x false,ty,pos,after,g⟩ true) (hx:evl K S x=.ptr id 1 0 0) (ho:hget S.hp id=.iter cur left) (hN:Nat.blt d K.N=true)
  (k0:left=[]->AOps K ops rest Q (S.put d (.tup [.con (.bool false)])))
  (k1:∀j p,left[j]? = some p->AOps K ops rest Q ⟨(d,.tup [.con (.bool true),.con p.1,p.2])::S.env,(id,.iter [p] (left.eraseIdx j))::S.hp,S.nx⟩):
  AOps K ops (⟨some d,.next x false,ty,pos,after,g⟩::rest) Q S:=by
 intro m β w a r
 have h:=r.reads x
 rw[hx] at h
 generalize hv:a.eval x=v at h
 cases h with
 |imm h=>cases h
 | @ptr _ _ _ _ b cap hb=>
 have hown:=r.own id
 rw[hb,ho] at hown
 obtain⟨bm,seen,E,clock,v,h0,h1,h2,h3,h4,h5,h6,h7⟩:=hown
 have hpt:Value.pointer (some ⟨b,cap.off+(0*1+0),none⟩)=.pointer (some ⟨b,0,none⟩):=by rw[h0]
 rcases run_next_at (P:=K.P) w ty b bm clock clock seen E clock h1 (r.imm _ _ h2) h3.lt (Nat.le_refl _) with ⟨q1,q2⟩|⟨e,q1,w1,q2,q3⟩
 ·have hl:left=[]:=by
   have:v.length=0:=by rw[h4.length_eq,Array.length_toList];exact q1
   exact List.length_eq_zero_iff.1 (by omega)
  refine aops_runs1 r hw ⟨.tuple #[.bool false],w,m,β,?_,r.put hN ?_⟩ (k0 hl)
  ·simp only[execOp,hv,hpt];exact run_value q2
  ·refine .tup rfl fun i c u hi hu=>?_
   match i with
   |0=>simp at hi hu;subst hi;subst hu;exact .imm (.con _)
   |i+1=>simp at hi
 ·obtain⟨j,hj⟩:=List.getElem?_of_mem (h4.mem_iff.2 q1)
  have hlt:j<left.length:=by rw[h5];exact(List.getElem?_eq_some_iff.1 hj).1
  have hp:left[j]? = some left[j]:=List.getElem?_eq_getElem hlt
  obtain⟨e1,e2⟩:=h6 j _ e hp hj
  have r1:Rel K m β w1 a S:=by rcases q2 with rfl|rfl;exact r;exact r.drawn _ (Nat.le_succ _)
  have hh1:w1.heap=w.heap:=by rcases q2 with rfl|rfl<;>rfl
  have hbl:b<w1.heap.size:=by rw[hh1];exact lt_of_some h1
  have r2:=r1.update (by rw[ho];simp) hb (setBlock w1 b (.mapIter (some bm) clock (seen.push e.born) clock)) (.iter [left[j]] (left.eraseIdx j))
   (fun b' hne=>by simp only[setBlock,Array.getElem?_setIfInBounds];rw[if_neg (Ne.symm hne)]) (by simp[setBlock]) ⟨rfl,rfl,rfl,trivial⟩
   (fun _=>⟨bm,seen.push e.born,E,clock,v.eraseIdx j,h0,by simp[setBlock,hbl],h2,h3,by
    rw[left_push]
    refine erase_left h4 ?_ hj
    have:((leftOf E seen).toList).Sublist E.toList:=by simp only[leftOf,Array.toList_filter];exact List.filter_sublist
    exact List.Nodup.sublist (this.map _) h3.born,by rw[List.length_eraseIdx,List.length_eraseIdx,h5],fun i p e' hi he=>by
    rw[List.getElem?_eraseIdx] at hi he
    split at hi
    ·rename_i hlt;rw[if_pos hlt] at he;exact h6 i p e' hi he
    ·rename_i hlt;rw[if_neg hlt] at he;exact h6 _ p e' hi he,fun p hpc=>by
    simp at hpc;subst hpc
    exact⟨e,(mem_left q1).1,by simp,e1,e2⟩⟩)
  refine aops_runs1 r hw ⟨.tuple #[.bool true,e.key,e.val],_,m,β,?_,r2.put hN ?_⟩ (k1 j left[j] hp)
  ·simp only[execOp,hv,hpt];exact run_valueW q3
  ·refine .tup rfl fun i c u hi hu=>?_
   match i with
   |0=>simp at hi hu;subst hi;subst hu;exact .imm (.con _)
   |1=>simp at hi hu;subst hi;subst hu;rw[<-e1];exact .imm (.con _)
   |2=>simp at hi hu;subst hi;subst hu;exact .imm e2
   |i+3=>simp at hi
theorem aops_entry{d id:Nat}{x:Operand}{p:Value×V}{left:List (Value×V)}
  (hw:Wants ops S ⟨some d,.entry x,ty,pos,after,g⟩ true) (hx:evl K S x=.ptr id 1 0 0) (ho:hget S.hp id=.iter [p] left) (hN:Nat.blt d K.N=true)
  (kk:AOps K ops rest Q (S.put d (.tup [.con p.1,p.2]))):AOps K ops (⟨some d,.entry x,ty,pos,after,g⟩::rest) Q S:=by
 intro m β w a r
 have h:=r.reads x
 rw[hx] at h
 generalize hv:a.eval x=v at h
 cases h with
 |imm h=>cases h
 | @ptr _ _ _ _ b cap hb=>
 have hown:=r.own id
 rw[hb,ho] at hown
 obtain⟨bm,seen,E,clock,v,h0,h1,h2,h3,h4,h5,h6,h7⟩:=hown
 have hpt:Value.pointer (some ⟨b,cap.off+(0*1+0),none⟩)=.pointer (some ⟨b,0,none⟩):=by rw[h0]
 obtain⟨e,q1,q2,q3,q4⟩:=h7 p (by simp)
 have hf:E.find? (·.born==e.born)=some e:=by rw[<-Array.find?_toList];exact find_born e E.toList h3.born q1
 refine aops_runs1 r hw ⟨.tuple #[e.key,e.val],w,m,β,?_,r.put hN ?_⟩ kk
 ·simp only[execOp,hv,hpt]
  refine run_value ?_
  simp only[Instr.entry,getObj,Sem.run_bind,Sem.run,h1,r.imm _ _ h2,Result.andThen,q2,bne_self_eq_false,Bool.false_eq_true,if_false,hf]
  rfl
 ·refine .tup rfl fun i c u hi hu=>?_
  match i with
  |0=>simp at hi hu;subst hi;subst hu;rw[<-q3];exact .imm (.con _)
  |1=>simp at hi hu;subst hi;subst hu;exact .imm q4
  |i+2=>simp at hi
theorem run_lookupNil{P:Program}{T k e:TypeId}{good:Value->Prop}{kv zv:Value}(c:Bool)(w:World)(hT:tyMap P T k e=true)(hK:KeyT P k good)(hz:(P.info? e).bind (·.zero)=some zv)(hg:good kv):
  (Instr.lookup T (.map none) kv c).run P w=.ok (if c then .tuple #[zv,.bool false] else zv) w:=by
 have hzr:(zeroValue e).run P w=.ok zv w:=by
  cases hi:P.info? e with
  |none=>simp[hi] at hz
  |some i=>
   simp[hi] at hz
   simp only[zeroValue,Sem.run_bind,run_typeInfo w hi,Result.andThen_ok,hz];rfl
 have hf:(Instr.findKey k kv []).run P w=.ok none w:=by
  rcases hK.find w kv hg [] (by simp) with ⟨h,_⟩|⟨j,e',_,h,_⟩
  ·exact h
  ·simp at h
 simp only[Instr.lookup,Sem.run_bind,run_underlying (tyMap_inv hT),Result.andThen_ok,pure,Sem.run,hK.check _ w kv hg]
 rw[hf]
 simp only[Result.andThen_ok,Sem.run_bind,hzr]
 cases c<;>rfl
theorem aops_lookupNil{d:Nat}{T k e:TypeId}{x y:Operand}{good:Value->Prop}{kv zv:Value}(zd:V)(hT:tyMap K.P T k e=true)(hK:KeyT K.P k good)
  (hz:(K.P.info? e).bind (·.zero)=some zv) (hzd:∀m,IRel m zd zv)
  (hw:Wants ops S ⟨some d,.lookup T x y false,ty,pos,after,g⟩ true) (hx:evl K S x=.con (.map none)) (hy:KeyIs K S y kv) (hg:good kv) (hN:Nat.blt d K.N=true)
  (kk:AOps K ops rest Q (S.put d zd)):AOps K ops (⟨some d,.lookup T x y false,ty,pos,after,g⟩::rest) Q S:=
 aops_val _ hw hN (fun m β w a r=>by
  refine⟨zv,?_,.imm (hzd m)⟩
  simp only[execOp,r.con hx,hy.read r]
  exact run_value (run_lookupNil false w hT hK hz hg)) kk
theorem aops_lookupNil_okB{d:Nat}{T k e:TypeId}{x y:Operand}{good:Value->Prop}{kv zv:Value}(zd:V)(hT:tyMap K.P T k e=true)(hK:KeyT K.P k good)
  (hz:(K.P.info? e).bind (·.zero)=some zv) (hzd:∀m,IRel m zd zv)
  (hw:Wants ops S ⟨some d,.lookup T x y true,ty,pos,after,g⟩ true) (hx:evl K S x=.con (.map none)) (hy:KeyIs K S y kv) (hg:good kv) (hN:Nat.blt d K.N=true)
  (kk:AOps K ops rest Q (S.put d (.tup [zd,.con (.bool false)]))):AOps K ops (⟨some d,.lookup T x y true,ty,pos,after,g⟩::rest) Q S:=
 aops_val _ hw hN (fun m β w a r=>by
  refine⟨.tuple #[zv,.bool false],?_,.imm (.tup rfl fun i c v hi hv=>?_)⟩
  ·simp only[execOp,r.con hx,hy.read r]
   exact run_value (run_lookupNil true w hT hK hz hg)
  ·match i with
   |0=>simp at hi hv;subst hi;subst hv;exact hzd m
   |1=>simp at hi hv;subst hi;subst hv;exact .con _
   |i+2=>simp at hi) kk
end
inductive EnvFz(Y:Hy)(env:Env):Env->Prop
 |refl:EnvFz Y env env
 |put {e:Env} {t:Nat} {v v0:V} (ht:get env t=v0) (hv:Sub Y v v0) (h:EnvFz Y env e):EnvFz Y env ((t,v)::e)
theorem EnvFz.get{Y:Hy}{env e:Env}(hk:∀v,Sub Y v v)(h:EnvFz Y env e)(t:Nat):Sub Y (get e t) (get env t):=by
 induction h with
 |refl=>exact hk _
 |put ht hv _ ih=>
  rw[get_put]
  split
  ·rename_i he;subst he;rw[ht];exact hv
  ·exact ih
inductive HpFz(Y:Hy)(hp:Heap):Heap->Prop
 |refl:HpFz Y hp hp
 |put {e:Heap} {t:Nat} {v v0:Ob} (ht:hget hp t=v0) (hv:ObSub Y v v0) (h:HpFz Y hp e):HpFz Y hp ((t,v)::e)
theorem HpFz.get{Y:Hy}{hp e:Heap}(hk:∀v,ObSub Y v v)(h:HpFz Y hp e)(t:Nat):ObSub Y (hget e t) (hget hp t):=by
 induction h with
 |refl=>exact hk _
 |put ht hv _ ih=>
  rw[hget_put]
  split
  ·rename_i he;subst he;rw[ht];exact hv
  ·exact ih
section
variable{K:Ctx}{S:St}
theorem ghost_frzMx(id:Nat){es:List (Value×V)}{env:Env}{hp:Heap}(ho:hget S.hp id=.map es)(hi:∀p,p∈es->Imm p.2)(he:EnvFz (FrzM id es) S.env env)(hh:HpFz (FrzM id es) S.hp hp):
  Ghost K S ⟨env,(id,.dead)::hp,S.nx⟩:=
 ghost_freezeM id env _ ho hi (he.get (fun _=>Sub.keepM)) (fun i=>by
  rw[hget_put]
  split
  ·trivial
  ·exact hh.get (fun _=>ObSub.keep (fun _=>Sub.keepM) _) i) (by simp[hget_put])
end
def RM{α:Type}(n:Nat)(l:List α)(P:Prop):Prop:=l.length<n/\P
theorem RM.zero{α:Type}{l:List α}{P:Prop}{X:Prop}(h:RM 0 l P):X:=absurd h.1 (Nat.not_lt_zero _)
theorem RM.start{α:Type}{l:List α}{P:Prop}(h:P):RM (l.length+1) l P:=⟨Nat.lt_succ_self _,h⟩
theorem RM.step{α:Type}{l l':List α}{n:Nat}{P P':Prop}(h:RM (n+1) l P)(hq:l'.length<l.length)(h':P'):RM n l' P':=⟨by have:=h.1;omega,h'⟩
section
variable{K:Ctx}{Q:Post}{S:St}{s:List It}
variable{ops:Array Oper}{rest:List Oper}{ty:TypeId}{pos:String}{after:Array Edge}{g:Option (Nat×Bool)}
theorem nxt{α:Type}{enc:α->Value×V}{xs:List α}{d id nx:Nat}{env:Env}{hp:Heap}{x:Operand}{cur:List (Value×V)}(hx:evl K ⟨env,hp,nx⟩ x=.ptr id 1 0 0)(ho:hget hp id=.iter cur (xs.map enc))(hw:Wants ops ⟨env,hp,nx⟩ ⟨some d,.next x false,ty,pos,after,g⟩ true)(hN:Nat.blt d K.N=true)
  (k0:xs=[]->WG K Q (.o ops rest::s) ⟨(d,.tup [.con (.bool false)])::env,hp,nx⟩)
  (k1:∀x l',l'.length<xs.length->xs.Perm (x::l')->WG K Q (.o ops rest::s) ⟨(d,.tup [.con (.bool true),.con (enc x).1,(enc x).2])::env,(id,.iter [enc x] (l'.map enc))::hp,nx⟩):
  WG K Q (.o ops (⟨some d,.next x false,ty,pos,after,g⟩::rest)::s) ⟨env,hp,nx⟩:=by
 refine aops_next hw hx ho hN (fun h=>k0 (List.map_eq_nil_iff.1 h)) (fun j p hj=>?_)
 rw[List.getElem?_map,Option.map_eq_some_iff] at hj
 obtain⟨y,h1,rfl⟩:=hj
 rw[<-ChangeMaps.map_eraseIdx enc xs j]
 have hlt:=(List.getElem?_eq_some_iff.1 h1).1
 exact k1 y (xs.eraseIdx j) (by rw[List.length_eraseIdx,if_pos hlt];omega) (cons_erase y xs j h1)
end
end Go.Pv
namespace Go.Pv
open Go Go.RowKit
set_option linter.unusedVariables false
set_option linter.unusedSimpArgs false
open Go.Sort in
theorem mut_compactG{gl:Gl}{P:Program}{f:FuncId}{k id:Nat}{hp:Heap}{e:TypeId}{α:Type}[Inhabited α](enc:α->Value)(h1c:∀x,(enc x).oneCell'=true)(l l' zs:List α)(hid:hget hp id=.arr e 1 (l.map fun x=>[V.con (enc x)]))(hl:(l'++zs).length=l.length)
  (h:∀(w:World) (blk off cap:Nat),Holds enc w blk off l.toArray->blk<w.heap.size->l.length<=cap->Calls P f #[.slice (some ⟨blk,off,none⟩) l.length cap] w fun e w'=>
   e=.returned (.slice (some ⟨blk,off,none⟩) l'.length cap)/\∃n os,w'=grow (putRow enc (Sort.ahead w n) blk off (l'++zs).toArray) os)
  (hn:∀(w:World) (a:Option Addr),l=[]->Calls P f #[.slice a 0 0] w fun e w'=>e=.returned (.slice a 0 0)/\Below w.heap.size w w'/\True):
  MutG gl P f [.own id l.length] k hp (.own id l'.length) k ((id,.arr e 1 (l'.map fun x=>[V.con (enc x)]))::hp):=by
 intro m β w vs himm _ hargs hown hpriv hinj hhid hnx
 obtain⟨v,rfl⟩:∃v,vs=#[v]:=by
  have:=hargs.len
  simp at this
  exact⟨vs[0],by
   apply Array.ext
   ·simp[<-this]
   ·intro i h1 h2
    have:i=0:=by simp at h2;omega
    subst this;simp⟩
 have hv:=hargs.at' 0 _ _ rfl rfl
 have hob:=hown id
 rw[hid] at hob
 have hg:∀q,hget ((id,Ob.arr e 1 (l'.map fun x=>[V.con (enc x)]))::hp) q=if id=q then Ob.arr e 1 (l'.map fun x=>[V.con (enc x)]) else hget hp q:=fun q=>hget_put _ _ _ _
 have hlive:∀q,hget ((id,Ob.arr e 1 (l'.map fun x=>[V.con (enc x)]))::hp) q≠.dead->hget hp q≠.dead:=fun q hq=>by
  rw[hg] at hq
  split at hq
  ·rename_i hh;subst hh;rw[hid];simp
  ·exact hq
 have hhids:∀(w':World),w.heap.size<=w'.heap.size->∀q x,hget ((id,Ob.arr e 1 (l'.map fun x=>[V.con (enc x)]))::hp) q≠.dead->β.hid q x->x<w'.heap.size/\m x=none/\(x<w.heap.size->¬Foreign hp β x)/\
   (∀i b c,hget ((id,Ob.arr e 1 (l'.map fun x=>[V.con (enc x)]))::hp) i≠.dead->β i=some (some (b,c))->x≠b)/\∀i,hget ((id,Ob.arr e 1 (l'.map fun x=>[V.con (enc x)]))::hp) i≠.dead->β.hid i x->i=q:=by
  intro w' hs q x hq hx
  obtain⟨q1,q2,q3,q4⟩:=hhid q x (hlive q hq) hx
  exact⟨by omega,q2,fun _ hF=>(hF q (hlive q hq)).2 hx,fun i b c hi=>q3 i b c (hlive i hi),fun i hi=>q4 i (hlive i hi)⟩
 generalize hnl:l.length=n at hv h
 cases hv with
 |imm h'=>cases h'
 | @ownNil _ ad hb=>
  have hl0:l=[]:=List.length_eq_zero_iff.1 hnl
  subst hl0
  have hl':l'=[]:=by
   have:(l'++zs).length=0:=by simpa using hl
   simp at this;exact this.1
  subst hl'
  refine(hn w ad rfl).mono ?_
  rintro ex w' ⟨rfl,hB,hdr⟩
  have hheap:∀b,b<w.heap.size->w'.heap[b]? = w.heap[b]?:=hB.block
  refine⟨_,m,β,rfl,.ownNil hb,Mem.le_refl _,fun b o hb=>by rw[hheap b (lt_of_some (himm b o hb))];exact himm b o hb,fun b hb _=>⟨rfl,hheap b hb⟩,hB.size,⟨hB.os,hB.tape,hB.output,hdr⟩,fun q=>?_,fun q b cap hq hbq=>?_,fun q q' b cap cap' hq hq'=>hinj q q' b cap cap' (hlive q hq) (hlive q' hq'),hhids w' hB.size,hnx,fun q hq=>⟨hq,rfl⟩⟩
  ·rw[hg]
   split
   ·rename_i hh;subst hh;rw[hb];simp[ObOk]
   ·by_cases hd:hget hp q=.dead
    ·rw[hd];exact ObOk.dead' _
    ·exact ObOk.congr (fun b cap hbb=>hheap b (live_lt hd hbb (hown q))) (fun x hx=>hheap x (hhid q x hd hx).1) (hown q)
  ·have hq:=hlive q hq
   exact⟨hpriv q b cap hq hbq,fun _ hF=>(hF q hq).1 cap hbq⟩
 | @own _ _ b cap hb=>
  rw[hb] at hob
  obtain⟨arr,bl,o1,o2,o3,o4,o5,oB,o6⟩:=hob
  have hbs:b<w.heap.size:=lt_of_some o1
  have hcell:∀j (hj:j<l.length),arr[cap.off+j]? = some (enc l[j]):=fun j hj=>by
   obtain⟨v,v1,v2,_⟩:=o6 j 0 [V.con (enc l[j])] (V.con (enc l[j])) (by simp[List.getElem?_eq_getElem hj]) rfl
   have:=(v2.v rfl).of_con
   subst this
   simpa using v1
  refine(h w b cap.off cap.n (fun j hj=>?_) hbs (by simpa[hnl] using o3)).mono ?_
  ·have hj':j<l.length:=by simpa using hj
   have hz:(l.toArray)[j]! = l[j]:=by rw[getElem!_pos _ j hj];simp
   rw[hz]
   exact⟨(cell_of_heap o1).trans (hcell j hj'),by simp[World.frozen?,o1]⟩
  rintro ex w' ⟨rfl,nd,os,rfl⟩
  have hheap:=heap_sorted enc w nd b cap.off (l'++zs).toArray os
  have hother:∀b',b'<w.heap.size->b'≠b->(grow (putRow enc (Sort.ahead w nd) b cap.off (l'++zs).toArray) os).heap[b']? = w.heap[b']?:=fun b' h1 h2=>by rw[hheap b' h1,if_neg (Ne.symm h2)]
  have hlid:hget hp id≠.dead:=by rw[hid];simp
  have hsz:w.heap.size<=(grow (putRow enc (Sort.ahead w nd) b cap.off (l'++zs).toArray) os).heap.size:=by simp[grow,putRow,mapBlock,Sort.ahead]
  refine⟨_,m,β,rfl,.own hb,Mem.le_refl _,fun b' o hb'=>?_,fun b' hb' hF=>⟨rfl,hother b' hb' (fun e=>?_)⟩,hsz,⟨rfl,rfl,rfl,trivial⟩,fun q=>?_,fun q b' cap' hq hbq=>?_,fun q q' b1 cap1 cap2 hq hq'=>hinj q q' b1 cap1 cap2 (hlive q hq) (hlive q' hq'),hhids _ hsz,hnx,fun q hq=>⟨hq,rfl⟩⟩
  ·have hne:b'≠b:=fun e=>by
    subst e
    rw[hpriv id b' cap hlid hb] at hb'
    simp at hb'
   rw[hother b' (lt_of_some (himm b' o hb')) hne]
   exact himm b' o hb'
  ·subst e;exact(hF id hlid).1 cap hb
  ·rw[hg]
   split
   ·rename_i hh
    subst hh
    rw[hb]
    refine⟨putCells enc cap.off (l'++zs).toArray arr,bl,by rw[hheap b hbs,if_pos rfl,o1];rfl,by simp[putCells,o2],by simp at hl o3 ⊢;omega,o4,?_,oB,fun i j row c hr hc=>?_⟩
    ·intro row hr
     obtain⟨x,_,rfl⟩:=List.mem_map.1 hr
     rfl
    ·rw[List.getElem?_map] at hr
     cases hli:l'[i]? with
     |none=>rw[hli] at hr;simp at hr
     |some x=>
      rw[hli] at hr
      simp at hr
      subst hr
      have hi:i<l'.length:=(List.getElem?_eq_some_iff.1 hli).1
      have hx:l'[i]=x:=(List.getElem?_eq_some_iff.1 hli).2
      have hj:j=0:=by
       have:=(List.getElem?_eq_some_iff.1 hc).1
       simp at this;exact this
      subst hj
      simp at hc
      subst hc
      have ha:cap.off+i<arr.size:=by simp at hl o3;omega
      refine⟨enc x,?_,.inl (.imm (.con _)),h1c x⟩
      rw[Nat.mul_one,Nat.add_zero]
      unfold putCells
      rw[Array.getElem?_mapIdx,Array.getElem?_eq_getElem ha,Option.map_some,if_pos ⟨Nat.le_add_right _ _,by simp;omega⟩,Nat.add_sub_cancel_left,getElem!_pos _ i (by simp;omega)]
      simp[List.getElem_append_left hi,hx]
   ·by_cases hd:hget hp q=.dead
    ·rw[hd];exact ObOk.dead' _
    ·refine ObOk.congr (fun b' cap' hbb=>hother b' (live_lt hd hbb (hown q)) (fun e=>?_)) (fun x hx=>hother x (hhid q x hd hx).1 ((hhid q x hd hx).2.2.1 id b cap hlid hb)) (hown q)
     subst e
     rename_i hne
     exact hne (hinj id q b' cap cap' hlid hd hb hbb)
  ·have hq:=hlive q hq
   exact⟨hpriv q b' cap' hq hbq,fun _ hF=>(hF q hq).1 cap' hbq⟩
def tsort(l:List (List UInt8)):List (List UInt8):=l.mergeSort fun x y=>decide (x<=y)
def cpt{α:Type}[Inhabited α][DecidableEq α](l:List α):List α:=Lib.compact l
theorem compactUpTo_len{α:Type}[Inhabited α][DecidableEq α](d:Array α)(m:Nat):(Lib.compactUpTo d m).length<=m:=by
 simp only[Lib.compactUpTo,List.length_map]
 exact Nat.le_trans (List.length_filter_le _ _) (by simp)
theorem cpt_len{α:Type}[Inhabited α][DecidableEq α](l:List α):(cpt l).length<=l.length:=compactUpTo_len _ _
theorem grow_nil(w:World):w=Go.Sort.grow w #[]:=by cases w;simp[Go.Sort.grow]
theorem pad_len{α:Type}(l c:List α)(h:c.length<=l.length)(z:α):(c++List.replicate (l.length - c.length) z).length=l.length:=by simp;omega
open Go.Sort in
theorem mut_sortStr{gl:Gl}{P:Program}{f:FuncId}{k id:Nat}{hp:Heap}{e:TypeId}(l:List (List UInt8))(hid:hget hp id=.arr e 1 (l.map fun x=>[V.con (str x)]))
  (h:∀(blk off cap:Nat) (zs:List (List UInt8)) (w:World),Holds str w blk off zs.toArray->blk<w.heap.size->zs.length<4611686018427387904->Calls P f #[.slice (some ⟨blk,off,none⟩) zs.length cap] w fun e w'=>
   e=.returned (.tuple #[])/\∃n os,w'=grow (putRow str (Sort.ahead w n) blk off (zs.mergeSort fun x y=>decide (x<=y)).toArray) os)
  (hn:∀(p:Option Addr) (w:World),Calls P f #[.slice p 0 0] w fun e w'=>e=.returned (.tuple #[])/\w'=w) (hc:l.length<4611686018427387904):
  MutG gl P f [.own id l.length] k hp (.tup []) k ((id,.arr e 1 ((tsort l).map fun x=>[V.con (str x)]))::hp):=
 mut_sortG str (fun _=>rfl) l (tsort l) hid (List.length_mergeSort _) (fun w blk off cap hH hb=>h blk off cap l w hH hb hc) (fun w a _=>(hn a w).mono (by rintro e w' ⟨rfl,rfl⟩;exact⟨rfl,Below.refl _ _,trivial⟩))
open Go.Sort in
theorem mut_compactS{gl:Gl}{P:Program}{f:FuncId}{k id:Nat}{hp:Heap}{e:TypeId}{α:Type}[Inhabited α][DecidableEq α](enc:α->Value)(h1c:∀x,(enc x).oneCell'=true)(z:α)(l:List α)(hid:hget hp id=.arr e 1 (l.map fun x=>[V.con (enc x)]))
  (h:∀(blk off cap:Nat) (zs:List α) (w:World),Holds enc w blk off zs.toArray->zs.length<=9223372036854775807->zs.length<=cap->Calls P f #[.slice (some ⟨blk,off,none⟩) zs.length cap] w fun e w'=>
   e=.returned (.slice (some ⟨blk,off,none⟩) (Lib.compact zs).length cap)/\∃q,w'=putRow enc (Sort.ahead w q) blk off (Lib.compact zs++List.replicate (zs.length - (Lib.compact zs).length) z).toArray)
  (hn:∀(p:Option Addr) (w:World),Calls P f #[.slice p 0 0] w fun e w'=>e=.returned (.slice p 0 0)/\w'=w) (hc:l.length<=140737488355328):
  MutG gl P f [.own id l.length] k hp (.own id (cpt l).length) k ((id,.arr e 1 ((cpt l).map fun x=>[V.con (enc x)]))::hp):=
 mut_compactG enc h1c l (cpt l) (List.replicate (l.length - (cpt l).length) z) hid (pad_len _ _ (cpt_len l) z) (fun w blk off cap hH _ hcap=>(h blk off cap l w hH (by omega) hcap).mono (by rintro e w' ⟨rfl,q,rfl⟩;exact⟨rfl,q,#[],grow_nil _⟩)) (fun w a _=>(hn a w).mono (by rintro e w' ⟨rfl,rfl⟩;exact⟨rfl,Below.refl _ _,trivial⟩))
end Go.Pv
namespace Go.Pv
open Go
set_option linter.unusedVariables false
section
variable{K:Ctx}{Q:Post}{S:St}
variable{ops:Array Oper}{rest:List Oper}{ty:TypeId}{pos:String}{after:Array Edge}{g:Option (Nat×Bool)}
theorem ghost_eqH{env:Env}{hp:Heap}(hp':Heap){nx:Nat}(h:∀q,hget hp' q=hget hp q):Ghost K ⟨env,hp,nx⟩ ⟨env,hp',nx⟩:=fun m β w a r=>⟨m,β,r.congr (fun _=>rfl) h rfl⟩
theorem hget_self{i:Nat}{b:Ob}{hp:Heap}:hget ((i,b)::hp) i=b:=by rw[hget_put,if_pos rfl]
end
section
variable{K:Ctx}{Q:Post}{S:St}
variable{ops:Array Oper}{rest:List Oper}{ty:TypeId}{pos:String}{after:Array Edge}{g:Option (Nat×Bool)}
def UndL(a b:List V):Prop:=a.length=b.length/\∀(j:Nat) (c c':V),a[j]? = some c->b[j]? = some c'->Und c c'/\Keep c
def UndE{α:Type}(D E:α->List V):Prop:=∀x,UndL (D x) (E x)
inductive CSubs:List V->List V->Prop
 |nil:CSubs [] []
 |cons {c c':V} {l l':List V} (h:CSub Idn c c') (h':CSubs l l'):CSubs (c::l) (c'::l')
theorem CSubs.len{l l':List V}(h:CSubs l l'):l.length=l'.length:=by
 induction h with
 |nil=>rfl
 |cons _ _ ih=>simp[ih]
theorem CSubs.at{l l':List V}(h:CSubs l l'):∀(j:Nat) (c c':V),l[j]? = some c->l'[j]? = some c'->CSub Idn c c':=by
 induction h with
 |nil=>intro j c c' h;simp at h
 |cons h _ ih=>
  intro j c c' h1 h2
  cases j with
  |zero=>simp at h1 h2;subst h1 h2;exact h
  |succ j=>exact ih j c c' (by simpa using h1) (by simpa using h2)
theorem UndL.nil:UndL [] []:=⟨rfl,fun j c c' h=>by simp at h⟩
theorem UndL.cons{c c':V}{l l':List V}(h:Und c c'/\Keep c)(r:UndL l l'):UndL (c::l) (c'::l'):=⟨by simp[r.1],fun j x x' h1 h2=>by
 cases j with
 |zero=>simp at h1 h2;subst h1 h2;exact h
 |succ j=>exact r.2 j x x' (by simpa using h1) (by simpa using h2)⟩
theorem und_con(v:Value):Und (.con v) (.con v)/\Keep (.con v):=⟨.imm rfl,(Imm.con v).2⟩
theorem und_dsl{α:Type}(e k:Nat){enc:α->List V}(hi:∀x,Imms (enc x))(l:List α):Und (.dsl e k (l.map enc)) (.lst k (l.map enc))/\Keep (.dsl e k (l.map enc)):=⟨und_rows hi l,Keep.dsl _ _ _⟩
end
def conL(f:V->Option Value):List V->Option (List Value)
 |[]=>some []
 |x::l=>match f x with|some v=>(match conL f l with|some r=>some (v::r)|none=>none)|none=>none
def conV:Nat->V->Option Value
 |0,_=>none
 |n+1,v=>match v with
  | .con v=>some v
  | .agg cs=>(match conL (conV n) cs with|some l=>some (.agg l.toArray)|none=>none)
  |_=>none
theorem conL_at{f:V->Option Value}:∀{cs:List V} {l:List Value},conL f cs=some l->l.length=cs.length/\∀(i:Nat) c v,cs[i]? = some c->l[i]? = some v->f c=some v
 |[],l,h=>by simp[conL] at h;subst h;simp
 |x::cs,l,h=>by
  simp only[conL] at h
  split at h
  ·rename_i y hy
   split at h
   ·rename_i q hq
    simp at h;subst h
    obtain⟨h1,h2⟩:=conL_at hq
    refine⟨by simp[h1],fun i c v a b=>?_⟩
    cases i with
    |zero=>simp at a b;subst a;subst b;exact hy
    |succ i=>exact h2 i c v (by simpa using a) (by simpa using b)
   ·simp at h
  ·simp at h
theorem conV_ok{m:Mem}{β:Locs}:∀{n:Nat} {v:V} {x y:Value},conV n v=some x->VRel m β v y->y=x
 |0,v,x,y,h=>by simp[conV] at h
 |n+1,v,x,y,h=>by
  intro hv
  cases v with
  |con c=>simp[conV] at h;subst h;exact hv.of_con
  |agg cs=>
   simp only[conV] at h
   split at h
   ·rename_i l hl
    simp at h;subst h
    obtain⟨vs,rfl,h2,h3⟩:=agg_inv hv
    obtain⟨a1,a2⟩:=conL_at hl
    congr 1
    apply Array.ext
    ·simp[a1,h2]
    ·intro i hi hj
     have hic:i<cs.length:=by rw[h2];exact hi
     have hil:i<l.length:=by rw[a1];exact hic
     have:=conV_ok (a2 i _ _ (List.getElem?_eq_getElem hic) (List.getElem?_eq_getElem hil)) (h3 i _ _ (List.getElem?_eq_getElem hic) (Array.getElem?_eq_getElem hi))
     simpa using this
   ·simp at h
  |_=>simp[conV] at h
theorem irel_agg{m:Mem}(l:List Value):IRel m (.agg (l.map .con)) (.agg l.toArray):=.agg (by simp) fun i c v a b=>by
 simp only[List.getElem?_map,List.getElem?_toArray] at a b
 rw[b] at a
 simp at a;subst a;exact .con _
def unC:Value->V
 | .agg vs=>.agg (vs.toList.map .con)
 |v=>.con v
theorem unC_ok{m:Mem}{β:Locs}(v:Value):VRel m β (unC v) v:=by
 cases v with
 |agg vs=>
  refine .imm (.agg (by simp) fun i c u a b=>?_)
  simp only[List.getElem?_map,Array.getElem?_toList,b,Option.map_some,Option.some.injEq] at a
  subst a;exact .con _
 |_=>exact .imm (.con _)
section
variable{K:Ctx}{Q:Post}{S S':St}{ops:Array Oper}{rest:List Oper}{t:TT}{ty:TypeId}{pos:String}{after:Array Edge}{g:Option (Nat×Bool)}
theorem aops_mkIface{d n:Nat}{T:TypeId}{x:Operand}{v:V}{c:Value}(hT:K.P.concrete T=true)(hw:Wants ops S ⟨some d,.makeInterface T x,ty,pos,after,g⟩ true)(hx:evl K S x=v)(hc:conV n v=some c)(hN:Nat.blt d K.N=true)
  (k:AOps K ops rest Q (S.put d (.con (.iface T c)))):AOps K ops (⟨some d,.makeInterface T x,ty,pos,after,g⟩::rest) Q S:=
 aops_val _ hw hN (fun m β w a r=>by
  have:=r.reads x
  rw[hx] at this
  have:=conV_ok hc this
  exact⟨.iface T c,by simp only[execOp,this];exact run_value (Go.run_makeInterface w T c hT),.imm (.con _)⟩) k
def clI(t:TT)(e:Env):Op->Option (Nat×List V)
 | .call c=>(match c.callee with
  | .invoke x name=>(match evC e x with
   |some (.con (.iface T v))=>(match ask t T (TF.qM name) with
    |some f=>(match evL e c.args.toList with
     |some vs=>(match frc (unC v::vs) with|some r=>some (f,r)|none=>none)
     |none=>none)
    |none=>none)
   |_=>none)
  | .value x=>(match evC e x with
   |some (.con (.func (.method name) first caps))=>(match first.toList,caps.toList with
    |[.iface T v],[]=>(match ask t T (TF.qM name) with
     |some f=>(match evL e c.args.toList with
      |some vs=>(match frc (unC v::vs) with|some r=>some (f,r)|none=>none)
      |none=>none)
     |none=>none)
    |_,_=>none)
   |_=>none)
  |_=>none)
 |_=>none
theorem evL_at{e:Env}(ha:Ag e S):∀{l:List Operand} {vs:List V},evL e l=some vs->vs=l.map (evl K S):=fun h=>(evL_ok ha h).symm
theorem clI_run0(ht:TTok K.P t){e:Env}(ha:Ag e S){o:Oper}{f:Nat}{avs:List V}(h:clI t e o.op=some (f,avs)):
  ∀m β w a,Rel K m β w a S->∃vs:Array Value,(execOp a.eval o).run K.P w=.ok (.enter f vs) w/\VRels m β avs vs:=by
 obtain⟨dst,op,ty',pos,after,g⟩:=o
 cases op<;>simp only[clI,reduceCtorEq] at h
 rename_i c
 obtain⟨callee,args,at'⟩:=c
 simp only at h
 split at h
 ·rename_i x name
  split at h
  ·rename_i T v hx
   split at h
   ·rename_i f' hm
    split at h
    ·rename_i vs hv
     split at h
     ·rename_i q hq
      simp only[Option.some.injEq,Prod.mk.injEq] at h
      obtain⟨rfl,rfl⟩:=h
      have hq:=frc_ok hq
      have hv:=evL_at (K:=K) ha hv
      have hmm:=(askM ht hm).1
      subst hq
      intro m β w a r
      have hr:=r.con (evC_ok (K:=K) ha hx)
      refine⟨#[v]++args.map a.eval,?_,?_⟩
      ·have:(execOp a.eval ⟨dst,.call ⟨.invoke x name,args,at'⟩,ty',pos,after,g⟩)=callMethod (.iface T v) name (args.map a.eval):=by
        simp only[execOp,resolve,hr,pure_bind]
        show invoke (.fn (.method name) #[]) (#[Value.iface T v]++args.map a.eval)=_
        simp only[invoke]
        rw[show(#[Value.iface T v]++args.map a.eval)[0]? = some (Value.iface T v) by rw[Array.getElem?_append_left (by simp)];rfl]
        simp only
        congr 1
        apply Array.ext'
        simp
        exact List.take_of_length_le (by simp)
       rw[this]
       exact hmm v (args.map a.eval) w
      ·refine⟨by simp[hv];omega,fun i c u h1 h2=>?_⟩
       cases i with
       |zero=>
        rw[Array.getElem?_append_left (by simp)] at h2
        simp at h1 h2;subst h1;subst h2;exact unC_ok v
       |succ i=>
        simp only[List.getElem?_cons_succ,hv,List.getElem?_map,Array.getElem?_toList] at h1
        rw[Array.getElem?_append_right (by simp)] at h2
        simp only[List.size_toArray,List.length_cons,List.length_nil,Nat.zero_add,Nat.add_sub_cancel,Array.getElem?_map] at h2
        cases ho:args[i]? with
        |none=>rw[ho] at h1;simp at h1
        |some y=>
         rw[ho] at h1 h2
         simp at h1 h2
         subst h1;subst h2
         exact r.reads y
     ·simp at h
    ·simp at h
   ·simp at h
  ·simp at h
 ·rename_i x
  split at h
  ·rename_i name first caps hx
   split at h
   ·rename_i T v hf1 hc1
    have hf1:=toList_one hf1
    have hc1:=toList_nil hc1
    subst hf1 hc1
    split at h
    ·rename_i f' hm
     split at h
     ·rename_i vs hv
      split at h
      ·rename_i q hq
       simp only[Option.some.injEq,Prod.mk.injEq] at h
       obtain⟨rfl,rfl⟩:=h
       have hq:=frc_ok hq
       have hv:=evL_at (K:=K) ha hv
       have hmm:=(askM ht hm).1
       subst hq
       intro m β w a r
       have hr:=r.con (evC_ok (K:=K) ha hx)
       refine⟨#[v]++args.map a.eval,?_,?_⟩
       ·have:(execOp a.eval ⟨dst,.call ⟨.value x,args,at'⟩,ty',pos,after,g⟩)=callMethod (.iface T v) name (args.map a.eval):=by
         simp only[execOp,resolve,hr,Deferred.ofValue,pure_bind]
         show invoke (.fn (.method name) #[]) (#[Value.iface T v]++args.map a.eval)=_
         simp only[invoke]
         rw[show(#[Value.iface T v]++args.map a.eval)[0]? = some (Value.iface T v) by rw[Array.getElem?_append_left (by simp)];rfl]
         simp only
         congr 1
         apply Array.ext'
         simp
         exact List.take_of_length_le (by simp)
        rw[this]
        exact hmm v (args.map a.eval) w
       ·refine⟨by simp[hv];omega,fun i c u h1 h2=>?_⟩
        cases i with
        |zero=>
         rw[Array.getElem?_append_left (by simp)] at h2
         simp at h1 h2;subst h1;subst h2;exact unC_ok v
        |succ i=>
         simp only[List.getElem?_cons_succ,hv,List.getElem?_map,Array.getElem?_toList] at h1
         rw[Array.getElem?_append_right (by simp)] at h2
         simp only[List.size_toArray,List.length_cons,List.length_nil,Nat.zero_add,Nat.add_sub_cancel,Array.getElem?_map] at h2
         cases ho:args[i]? with
         |none=>rw[ho] at h1;simp at h1
         |some y=>
          rw[ho] at h1 h2
          simp at h1 h2
          subst h1;subst h2
          exact r.reads y
      ·simp at h
     ·simp at h
    ·simp at h
   ·simp at h
  ·simp at h
 ·simp at h
theorem aops_mkMeth{d:Nat}{name:String}{x:Operand}{iv:Value}(hw:Wants ops S ⟨some d,.makeFunc (.method name) #[x] #[],ty,pos,after,g⟩ true)(hx:evl K S x=.con iv)(hN:Nat.blt d K.N=true)
  (k:AOps K ops rest Q (S.put d (.con (.func (.method name) #[iv] #[])))):AOps K ops (⟨some d,.makeFunc (.method name) #[x] #[],ty,pos,after,g⟩::rest) Q S:=
 aops_val _ hw hN (fun m β w a r=>⟨.func (.method name) #[iv] #[],by simp only[execOp];exact run_value (by simp[Instr.makeFunc,pure,r.con hx]),.imm (.con _)⟩) k
theorem aops_nilMeth{d:Nat}{name:String}{x:Operand}{T:TypeId}{v:Value}(hT:∀(v:Value) (w:World),(nilAhead (K.P.types.size+Made.depth) T v name).run K.P w=.ok (some false) w)(hw:Wants ops S ⟨some d,.nilCheck x,ty,pos,after,g⟩ true)(hx:evl K S x=.con (.func (.method name) #[.iface T v] #[]))(hN:Nat.blt d K.N=true)
  (k:AOps K ops rest Q (S.put d (.con (.func (.method name) #[.iface T v] #[])))):AOps K ops (⟨some d,.nilCheck x,ty,pos,after,g⟩::rest) Q S:=
 aops_val _ hw hN (fun m β w a r=>⟨.func (.method name) #[.iface T v] #[],by
  simp only[execOp,r.con hx]
  simp[Sem.run_bind,hT,Result.andThen,pure],.imm (.con _)⟩) k
theorem run_eqNilM{P:Program}{w:World}{T:TypeId}{x y:Operand}(neg:Bool)(hT:tyMp P T=true)(b:Option Nat):
      (do eqGuard (if neg then .neq else .eql) T x y (.map b) (.map none);binOp (if neg then .neq else .eql) T (.map b) (.map none):Sem Value).run P w=.ok (.bool (if neg then !b.isNone else b.isNone)) w:=by
  obtain⟨k,e,hu⟩:∃k e,P.underlying T=some (.map k e):=by
    unfold tyMp at hT
    split at hT
    · exact⟨_,_,‹_›⟩
    · simp at hT
  have hd:(10000:Nat)=9999+1:=rfl
  have hg:∀op:BinOp,(eqGuard op T x y (.map b) (.map none)).run P w=.ok () w:=by
    intro op;unfold eqGuard;cases op<;>simp[pure]
  have hq:(Op.equal T (.map b) (.map none)).run P w=.ok b.isNone w:=by
    rw[Op.equal,Op.maxDepth,hd,Op.equalIn]
    simp only[Sem.run_bind,run_underlying hu,Result.andThen_ok]
    cases b<;>rfl
  rw[Sem.run_bind,hg,Result.andThen_ok]
  cases neg
  · simp only[Bool.false_eq_true,if_false,binOp,Sem.run_bind,hq,Result.andThen_ok];rfl
  · simp only[if_true,binOp,Sem.run_bind,hq,Result.andThen_ok];rfl
def mapNil:V->Option Bool
 | .con (.map none)=>some true
 | .map _=>some false
 |_=>none
theorem aops_eqNilM{d:Nat}{x y:Operand}{T T':TypeId}{v:V}{b:Bool}(neg:Bool)(hT:tyMp K.P T=true)(hw:Wants ops S ⟨some d,.binOp (if neg then .neq else .eql) T x y T',ty,pos,after,g⟩ true)
  (hx:evl K S x=v) (hv:mapNil v=some b) (hy:evl K S y=.con (.map none)) (hN:Nat.blt d K.N=true)
  (k:AOps K ops rest Q (S.put d (.con (.bool (if neg then !b else b))))):AOps K ops (⟨some d,.binOp (if neg then .neq else .eql) T x y T',ty,pos,after,g⟩::rest) Q S:=
 aops_val _ hw hN (fun m β w a r=>by
  have h:=r.reads x
  rw[hx] at h
  have key:∃o,a.eval x=.map o/\o.isNone=b:=by
   generalize a.eval x=u at h
   unfold mapNil at hv
   split at hv
   ·simp at hv;subst hv;exact⟨none,h.of_con,rfl⟩
   ·simp at hv;subst hv
    cases h with
    |imm h=>cases h
    |map hb=>exact⟨_,rfl,rfl⟩
   ·simp at hv
  obtain⟨o,ho,hb⟩:=key
  have hr:=run_eqNilM (P:=K.P) (w:=w) (x:=x) (y:=y) neg hT o
  refine⟨.bool (if neg then !b else b),?_,.imm (.con _)⟩
  simp only[execOp,ho,r.con hy]
  rw[<-hb]
  exact run_value hr) k
end
structure KRow where
 row:List V
 imm:Imms row
 one:row.all oneV=true
structure KV where
 t:Nat
 d:V
def KV.enc(x:KV):List V:=[.ifc x.t x.d]
theorem KRow.ext'{a b:KRow}(h:a.row=b.row):a=b:=by cases a;cases b;cases h;rfl
theorem KV.enc_imm(x:KV):Imms x.enc:=fun c hc=>by
 have:c=.ifc x.t x.d:=by simpa[KV.enc] using hc
 rw[this];exact Imm.ifc _ _
theorem KV.enc_one(x:KV):x.enc.all oneV=true:=rfl
section
variable{τ R:Type}
open Classical in
noncomputable def kdec(enc:τ->List V)(x:KRow):Option τ:=if h:∃y,enc y=x.row then some h.choose else none
theorem kdec_some{enc:τ->List V}{x:KRow}{y:τ}(h:kdec enc x=some y):x.row=enc y:=by
 unfold kdec at h
 split at h
 ·rename_i hx;rw[<-Option.some.inj h];exact hx.choose_spec.symm
 ·cases h
theorem kdec_eq{enc:τ->List V}(inj:∀a b,enc a=enc b->a=b){x:KRow}{y:τ}(h:x.row=enc y):kdec enc x=some y:=by
 unfold kdec
 have hx:∃y,enc y=x.row:=⟨y,h.symm⟩
 rw[dif_pos hx]
 exact congrArg some (inj _ _ (hx.choose_spec.trans h))
open Classical in
noncomputable def vdec(enc:τ->List V)(T:Nat)(x:KV):Option τ:=if h:∃y,x.t=T/\x.d=.agg (enc y) then some h.choose else none
theorem vdec_some{enc:τ->List V}{T:Nat}{x:KV}{y:τ}(h:vdec enc T x=some y):x.t=T/\x.d=.agg (enc y):=by
 unfold vdec at h
 split at h
 ·rename_i hx;rw[<-Option.some.inj h];exact hx.choose_spec
 ·cases h
theorem vdec_eq{enc:τ->List V}(inj:∀a b,enc a=enc b->a=b){T:Nat}{x:KV}{y:τ}(h:x.t=T)(h':x.d=.agg (enc y)):vdec enc T x=some y:=by
 unfold vdec
 have hx:∃y,x.t=T/\x.d=.agg (enc y):=⟨y,h,h'⟩
 rw[dif_pos hx]
 refine congrArg some (inj _ _ ?_)
 have:=hx.choose_spec.2.symm.trans h'
 exact V.agg.inj this
theorem vdec_ne{enc:τ->List V}{T:Nat}{x:KV}(h:x.t≠T):vdec enc T x=none:=by
 unfold vdec
 rw[dif_neg]
 rintro⟨y,h1,_⟩;exact h h1
def mkK(T:Nat)(enc:τ->List V)(y:τ):KV:=⟨T,.agg (enc y)⟩
def oel(o:Option τ)(f:τ->Option R)(g:Option R):Option R:=match o with|some y=>f y|none=>g
theorem oeK{o:Option τ}{f:τ->Option R}{g:Option R}{r:R}{P:Prop}(h:oel o f g=some r)(k1:∀y,o=some y->f y=some r->P)(k2:g=some r->P):P:=by
 cases o with
 |none=>exact k2 h
 |some y=>exact k1 y rfl h
end
section
variable{K:Ctx}{Q:Post}{S:St}{s:List It}
variable{ops:Array Oper}{l rest:List Oper}{ty:TypeId}{pos:String}{after:Array Edge}{g:Option (Nat×Bool)}
theorem ghost_eqv(t:Nat){v v':V}(ht:get S.env t=v)(h:v=v'):Ghost K S ⟨(t,v')::S.env,S.hp,S.nx⟩:=by
 subst h
 refine Ghost.env (S:=S) (fun q=>?_)
 show(bif Nat.beq t q then v else get S.env q)=get S.env q
 cases hq:Nat.beq t q
 ·rfl
 ·have:=Nat.eq_of_beq_eq_true hq
  subst this
  exact ht.symm
theorem kroO{τ:Type}{enc:τ->List V}{x:KRow}{y:τ}(t:Nat)(h:kdec enc x=some y)(ht:gtC S.env t=some (.iptr x.row 0))(k:WG K Q (.o ops l::s) ⟨(t,.iptr (enc y) 0)::S.env,S.hp,S.nx⟩):WG K Q (.o ops l::s) S:=
 wg_cl (.inr ⟨_,_,rfl⟩) (ghost_eqv t (gtC_ok ht) (by rw[kdec_some h])) k
theorem aops_mkIfc{d:Nat}{T:TypeId}{x:Operand}{v:V}(hT:K.P.concrete T=true)(hw:Wants ops S ⟨some d,.makeInterface T x,ty,pos,after,g⟩ true)(hx:evl K S x=v)(hi:Imm v)(hN:Nat.blt d K.N=true)
  (k:AOps K ops rest Q (S.put d (.ifc T v))):AOps K ops (⟨some d,.makeInterface T x,ty,pos,after,g⟩::rest) Q S:=
 aops_val _ hw hN (fun m β w a r=>by
  have:=r.reads x
  rw[hx] at this
  exact⟨.iface T (a.eval x),by simp only[execOp];exact run_value (Go.run_makeInterface w T _ hT),.imm (.ifc (hi.2 _ _ _ this))⟩) k
theorem aops_invoke{d f:Nat}{T:TypeId}{x:Operand}{name:String}{args:Array Operand}{at':Array TypeId}{dv dr:V}{avs:List V}(hm:∀(v:Value) (args:Array Value) (w:World),(callMethod (.iface T v) name args).run K.P w=.ok (.enter f (#[v]++args)) w)
  (hw:Wants ops S ⟨some d,.call ⟨.invoke x name,args,at'⟩,ty,pos,after,g⟩ true) (hx:evl K S x=.ifc T dv) (ha:args.toList.map (evl K S)=avs) (hi:Imms avs) (hc:PureG K.gl K.P f (dv::avs) dr) (hN:Nat.blt d K.N=true)
  (kk:AOps K ops rest Q (S.put d dr)):AOps K ops (⟨some d,.call ⟨.invoke x name,args,at'⟩,ty,pos,after,g⟩::rest) Q S:=by
 refine aops_calls hw rfl hN (fun m β w a r=>?_) hc kk
 have hr:=r.reads x
 rw[hx] at hr
 obtain⟨v,hv,hd⟩:∃v,a.eval x=.iface T v/\IRel m dv v:=by
  generalize a.eval x=u at hr
  cases hr with
  |imm h=>cases h with|ifc h=>exact⟨_,rfl,h⟩
 refine⟨#[v]++args.map a.eval,?_,?_⟩
 ·have:(execOp a.eval ⟨some d,.call ⟨.invoke x name,args,at'⟩,ty,pos,after,g⟩)=callMethod (.iface T v) name (args.map a.eval):=by
   simp only[execOp,resolve,hv,pure_bind]
   show invoke (.fn (.method name) #[]) (#[Value.iface T v]++args.map a.eval)=_
   simp only[invoke]
   rw[show(#[Value.iface T v]++args.map a.eval)[0]? = some (Value.iface T v) by rw[Array.getElem?_append_left (by simp)];rfl]
   simp only
   congr 1
   apply Array.ext'
   simp
   exact List.take_of_length_le (by simp)
  rw[this]
  exact hm v (args.map a.eval) w
 ·refine⟨by simp[<-ha];omega,fun i c u h1 h2=>?_⟩
  cases i with
  |zero=>
   rw[Array.getElem?_append_left (by simp)] at h2
   simp at h1 h2;subst h1;subst h2;exact hd
  |succ i=>
   rw[List.getElem?_cons_succ] at h1
   have h1':=h1
   rw[<-ha,List.getElem?_map,Array.getElem?_toList] at h1
   rw[Array.getElem?_append_right (by simp)] at h2
   simp only[List.size_toArray,List.length_cons,List.length_nil,Nat.zero_add,Nat.add_sub_cancel,Array.getElem?_map] at h2
   cases ho:args[i]? with
   |none=>rw[ho] at h1;simp at h1
   |some y=>
    rw[ho] at h1 h2
    simp at h1 h2
    subst h2
    exact(hi.get h1').2 m β _ (h1 ▸ r.reads y)
end
theorem pure_indexByte{gl:Gl}{P:Program}{f:FuncId}{s:List UInt8}{c:Int}(h:∀(c:Int) (w:World),Calls P f #[.string ⟨s.toArray⟩,.int .u8 c] w fun e w'=>e=.returned (.int .i64 (Lib.indexByte (⟨s.toArray⟩:ByteArray).data.toList c.toNat.toUInt8))/\w'=w):
  PureG gl P f [sV s,V.con (.int .u8 c)] (iV (Lib.indexByte s c.toNat.toUInt8)):=
 pure_same (l:=[str s,.int .u8 c]) (v:=.int .i64 (Lib.indexByte s c.toNat.toUInt8)) (fun w=>h c w) (fun m=>.con _)
instance:EI KRow.row:=⟨KRow.imm,KRow.one⟩
instance:EI KV.enc:=⟨KV.enc_imm,KV.enc_one⟩
def DispG(gl:Gl)(P:Program)(name:String)(k:KV)(avs:List V)(dr:V):Prop:=
 ∃f:FuncId,(∀(v:Value) (args:Array Value) (w:World),(callMethod (.iface k.t v) name args).run P w=.ok (.enter f (#[v]++args)) w)/\PureG gl P f (k.d::avs) dr
theorem disp_of{gl:Gl}{P:Program}{name:String}{k:KV}{avs:List V}{dr:V}{τ:Type}{enc:τ->List V}{T f:Nat}{y:τ}(hm:∀(v:Value) (args:Array Value) (w:World),(callMethod (.iface T v) name args).run P w=.ok (.enter f (#[v]++args)) w)
  (hy:vdec enc T k=some y) (hc:PureG gl P f (V.agg (enc y)::avs) dr):DispG gl P name k avs dr:=by
 obtain⟨h1,h2⟩:=vdec_some hy
 exact⟨f,by rw[h1];exact hm,by rw[h2];exact hc⟩
section
variable{K:Ctx}{Q:Post}{S:St}
variable{ops:Array Oper}{l rest:List Oper}{ty:TypeId}{pos:String}{after:Array Edge}{g:Option (Nat×Bool)}
theorem aops_mkMethI{d:Nat}{T:TypeId}{name:String}{x:Operand}{dv:V}(hw:Wants ops S ⟨some d,.makeFunc (.method name) #[x] #[],ty,pos,after,g⟩ true)(hx:evl K S x=.ifc T dv)(hN:Nat.blt d K.N=true)
  (k:AOps K ops rest Q (S.put d (.fn (.method name) [.ifc T dv] []))):AOps K ops (⟨some d,.makeFunc (.method name) #[x] #[],ty,pos,after,g⟩::rest) Q S:=
 aops_val _ hw hN (fun m β w a r=>by
  have hr:=r.reads x
  rw[hx] at hr
  refine⟨.func (.method name) #[a.eval x] #[],by simp only[execOp];exact run_value (by simp[Instr.makeFunc,pure]),.imm (.fn rfl rfl (fun i c v h1 h2=>?_) (fun i c v h1 h2=>by simp at h1))⟩
  cases i with
  |zero=>
   simp at h1 h2;subst h1;subst h2
   generalize a.eval x=u at hr
   cases hr with
   |imm h=>exact h
  |succ i=>simp at h1) k
theorem aops_nilMethI{d:Nat}{name:String}{x:Operand}{T:TypeId}{dv:V}(hT:∀(v:Value) (w:World),(nilAhead (K.P.types.size+Made.depth) T v name).run K.P w=.ok (some false) w)(hw:Wants ops S ⟨some d,.nilCheck x,ty,pos,after,g⟩ true)
  (hx:evl K S x=.fn (.method name) [.ifc T dv] []) (hN:Nat.blt d K.N=true)
  (k:AOps K ops rest Q (S.put d (.fn (.method name) [.ifc T dv] []))):AOps K ops (⟨some d,.nilCheck x,ty,pos,after,g⟩::rest) Q S:=
 aops_val _ hw hN (fun m β w a r=>by
  have hr:=r.reads x
  rw[hx] at hr
  have hr2:=hr
  obtain⟨v,hv⟩:∃v,a.eval x=.func (.method name) #[.iface T v] #[]:=by
   generalize a.eval x=u at hr
   have key:∀(fs cs:Array Value),1=fs.size->0=cs.size->(∀(i:Nat) (c:V) (v:Value),[V.ifc T dv][i]? = some c->fs[i]? = some v->VRel m β c v)->∃v,(Value.func (.method name) fs cs)=.func (.method name) #[.iface T v] #[]:=by
    intro fs cs h1 h2 h3
    obtain⟨l⟩:=fs
    obtain⟨l2⟩:=cs
    match l,l2,h1,h2 with
    |[y],[],_,_=>
     have:=h3 0 _ y rfl rfl
     cases this with
     |imm h=>cases h with|ifc h=>exact⟨_,rfl⟩
   cases hr with
   |imm h=>cases h with|fn h1 h2 h3 h4=>exact key _ _ h1 h2 (fun i c v a b=>.imm (h3 i c v a b))
   |fn h1 h2 h3 h4=>exact key _ _ h1 h2 h3
  refine⟨.func (.method name) #[.iface T v] #[],?_,by rw[<-hv];exact hr2⟩
  simp only[execOp,hv]
  simp[Sem.run_bind,hT,Result.andThen,pure]) k
theorem aops_invokeD{d:Nat}{k:KV}{x:Operand}{name:String}{args:Array Operand}{at':Array TypeId}(dr:V)(avs:List V)
  (hw:Wants ops S ⟨some d,.call ⟨.invoke x name,args,at'⟩,ty,pos,after,g⟩ true) (hx:evl K S x=.ifc k.t k.d) (ha:args.toList.map (evl K S)=avs) (hi:Imms avs) (hc:DispG K.gl K.P name k avs dr) (hN:Nat.blt d K.N=true)
  (kk:AOps K ops rest Q (S.put d dr)):AOps K ops (⟨some d,.call ⟨.invoke x name,args,at'⟩,ty,pos,after,g⟩::rest) Q S:=by
 obtain⟨f,hm,hc⟩:=hc
 exact aops_invoke hm hw hx ha hi hc hN kk
end
end Go.Pv
