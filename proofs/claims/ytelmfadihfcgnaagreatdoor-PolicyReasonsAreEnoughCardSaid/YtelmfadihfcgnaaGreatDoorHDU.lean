/- Part of the proof. -/
import Derived.Test.YtelmfadihfcgnaaGreatDoorHDN
import Derived.Test.YtelmfadihfcgnaaGreatDoorHWA
import Derived.Maps.RangeRun
import Derived.Lib.SlicesCompact
import Derived.Shelf.SlSortCmp.NoneTotal
set_option linter.unusedSimpArgs false
set_option linter.unusedVariables false
namespace Go.Pv
open Go
section
variable{K:cR}{Q:ca}{S:St}
variable{m:bB}{β:ba}{w:World}{a:Act}
variable{ops:Array Oper}{rest:List Oper}{ty:TypeId}{pos:String}{after:Array Edge}{g:Option (Nat×Bool)}
theorem lO(id:Nat){es:List (Value×V)}(es':List (Value×V))(env:cc)(hp:aC)(ho:ak S.hp id=.map es)(hl:es.length=es'.length)
  (hk:∀(i:Nat) (p p':Value×V),es[i]? = some p->es'[i]? = some p'->p.1=p'.1/\um p.2 p'.2/\dC p.2)
  (henv:∀t,ai (p9 id es') (get env t) (get S.env t)) (hhp:∀i,ag (p9 id es') (ak hp i) (ak S.hp i)) (hd:ak hp id=.dead):aY K S ⟨env,hp,S.nx⟩:=by
 intro m β w a r;have hlid:ak S.hp id≠.dead:=by rw[ho];simp
 obtain⟨b,cap,hb⟩:=mG r ho;have hown:=r.own id;rw[ho,hb] at hown;obtain⟨ents,clock,bl,h1,h2,hBl,h6⟩:=hown;have hp':=r.priv id b cap hlid hb
 have key:∃m',(∀b o,m' b=some o->w.heap[b]? = some o)/\p9 id es' m β m' β/\(∀b',m' b'=m b'\/(∃cap,β id=some (some (b',cap)))\/β.hid id b'):=by
  classical
  let m':bB:=fun b'=>if b'=b\/β.hid id b' then w.heap[b']? else m b'
  have hmb:∀x,(x=b\/β.hid id x)->m' x=w.heap[x]?:=fun x h=>by grind
  have hmo:∀x,¬(x=b\/β.hid id x)->m' x=m x:=fun x h=>by grind
  have hle:m.le m':=by
   intro b' o h;rw[hmo]
   ·exact h
   ·rintro(e'|e')
    ·grind
    ·rw[(r.hid id b' hlid e').m] at h;simp at h
  refine⟨m',?_,⟨hle,Y,?_⟩,?_⟩
  ·intro b' o h;by_cases hbb:b'=b\/β.hid id b'
   ·grind
   ·rw[hmo b' hbb] at h;exact r.imm _ _ h
  ·intro x hx;cases hx with
   |imm h=>cases h
   | @map _ b2 cap2 h=>
    rw[hb] at h;simp only[ax9,Prod.mk.injEq] at h;obtain⟨rfl,rfl⟩:=h;refine .imap (by rw[hmb b (.inl Y)];exact h1) (by omega) (fun i p e hi he=>?_) (fun i p e hi he=>?_)
    ·grind
    ·have hlt:i<es.length:=by rw[hl];exact(bd9.1 hi).1
     obtain⟨u1,u2,u3⟩:=hk i _ p (az9 hlt) hi;have hd:gu m w (bl i) es[i].2 e.val:=(h6 i _ e (az9 hlt) he).2.elim (fun h=>.imm (u3 _ _ _ h)) (fun h=>h);exact hd.und hle p.2 u2 (fun x hx=>hmb x (.inr (hBl.1 _ x hx)))
  grind
 obtain⟨m',k1,hy,k2⟩:=key
 have hlive:∀i,ak hp i≠.dead->ak S.hp i≠.dead/\i≠id:=by
  intro i h;have h2:=hhp i;refine⟨fun hdd=>?_,fun he=>h (by grind)⟩;rw[hdd] at h2;cases ho':ak hp i with
  |dead=>exact h ho'
  |arr=>simp_all[ag]
  |res=>simp_all[ag]
  |map=>simp_all[ag]
  |iter=>simp_all[ag]
  |bld=>simp_all[ag]
 refine⟨m',β,?_⟩;constructor
 ·exact k1
 ·exact bB.le_trans r.ext hy.1
 ·intro b hb' hold;rcases k2 b with h|⟨cap2,h⟩|h
  ·rw[h];exact r.mold b hb' hold
  ·grind
  ·exact absurd hold ((r.hid id b hlid h).old hb')
 ·exact r.frame
 ·exact r.size
 ·exact r.same
 ·exact r.tn
 ·exact r.df.mono hy.1
 ·exact fun t=>henv t _ _ _ _ _ hy (r.env t)
 ·intro i;exact(hhp i).ok hy (r.own i)
 ·intro i b cap hl hb';obtain⟨h1,h2⟩:=hlive i hl;have hp':=r.priv i b cap h1 hb';refine⟨?_,hp'.2⟩;rcases k2 b with h|⟨cap',h⟩|h
  ·grind
  ·exact absurd (r.inj i id b cap cap' h1 hlid hb' h) h2
  ·exact absurd Y ((r.hid id b hlid h).ne i b cap h1 hb')
 ·intro i i' b cap cap' hl hl';exact r.inj i i' b cap cap' (hlive i hl).1 (hlive i' hl').1
 ·intro i x hl hx;obtain⟨h1,h2⟩:=hlive i hl;have h:=r.hid i x h1 hx;refine⟨h.lt,?_,h.old,fun i' b c hi'=>h.ne i' b c (hlive i' hi').1,fun i' hi'=>h.un i' (hlive i' hi').1⟩;rcases k2 x with h'|⟨cap',h'⟩|h'
  ·rw[h'];exact h.m
  ·exact absurd Y (h.ne id x cap' hlid h')
  ·exact absurd (h.un id hlid h') (Ne.symm h2)
 ·exact r.nx
 ·exact r.pin
theorem oV(id0 nx':Nat)(hfr:∀m β w a,bX K m β w a S->β id0=none/\∀q,q<K.pins->q≠id0)(hlt0:id0<nx')(hle0:S.nx<=nx'){d:Nat}{T k e e' k' id:Nat}{x y:Operand}{good:Value->Prop}{kv:Value}{es es':List (Value×V)}{rws:List (List V)}(hT:eh K.P T k e=true)(hK:ja K.P k good)
  (hz:(K.P.info? e).bind (·.zero)=some (.slice none 0 0))
  (hw:aN ops S ⟨some d,.lookup T x y false,ty,pos,after,g⟩ true) (hx:evl K S x=.map id) (ho:ak S.hp id=.map es) (hy:fg K S y kv) (hg:good kv) (hges:∀p,p∈es->good p.1)
  (hl:pb kv id0 e' k' es es' rws) (hN:Nat.blt d K.N=true)
  (kk:ay K ops rest Q ⟨(d,.own id0 rws.length)::S.env,(id,.map es')::(id0,.arr e' k' rws)::S.hp,nx'⟩):ay K ops (⟨some d,.lookup T x y false,ty,pos,after,g⟩::rest) Q S:=by
 refine cm hw (fun m β w a r=>?_) kk;have h:=r.reads x;rw[hx] at h;obtain⟨b,ents,clock,e1,⟨E,e2,eP,eW⟩,e3,e4⟩:=(o8.own ho).read r h;have hobj:(getObj b).run K.P w=.ok (.map E clock) w:=by simp[getObj,Sem.run,e2]
 have hzr:(zeroValue e).run K.P w=.ok (.slice none 0 0) w:=by
  cases hi:K.P.info? e with
  |none=>grind
  |some i=>
   simp_all[zeroValue,run_typeInfo]
 have hbloc:=mG r ho;have hidn:id≠id0:=fun h=>by grind
 have hswap:∀(m':bB) (β':ba) (o1 o2:Ob) (n:Nat),bX K m' β' w a ⟨S.env,(id0,o2)::(id,o1)::S.hp,n⟩->bX K m' β' w a ⟨S.env,(id,o1)::(id0,o2)::S.hp,n⟩:=by
  intro m' β' o1 o2 n rr;refine rr.congr (fun _=>Y) (fun t=>?_) Y
  show ak ((id,o1)::(id0,o2)::S.hp) t=ak ((id0,o2)::(id,o1)::S.hp) t
  rw[av,av,av,av];by_cases h1:id=t<;>by_cases h2:id0=t
  ·grind
  ·grind
  ·grind
  ·grind
 rcases hl.cases with ⟨h1,h2,h3⟩|⟨i,h1,h2,h3⟩
 ·subst h1 h2;rcases sO hK hg e3 (fun i p e a b=>(e4 i p e a b).1) hges eP eW (w:=w) with ⟨a1,a2,_⟩|⟨j,p,en,jE,a1,a2,a3,a4,a5,aE⟩
  ·obtain⟨β',hle,hβ,r3⟩:=r.adopt id0 nx' (hfr m β w a r).1 (hfr m β w a r).2 hlt0 hle0 none (.arr e' k' []) (fun b c hb=>by simp at hb) (fun _ _=>rfl)
   have r4:bX K m β' w a ⟨S.env,(id,.map es')::(id0,.arr e' k' [])::S.hp,nx'⟩:=by
    refine r3.congr (fun _=>Y) (fun t=>?_) Y
    show ak ((id,.map es')::(id0,.arr e' k' [])::S.hp) t=ak ((id0,.arr e' k' [])::S.hp) t
    rw[av];split
    ·simp_all[av,Ne.symm]
    ·rfl
   refine⟨_,w,m,β',.inl ?_,r4.put hN (.ownNil (ad:=none) hβ)⟩;simp only[execOp,e1,hy.read r];refine bk ?_;simp only[Instr.lookup,Sem.run_bind,run_underlying (cU hT),Result.andThen_ok,hobj,pure,Sem.run,hK.check _ w kv hg,a1,hzr];rfl
  grind
 ·obtain⟨m',β',r2⟩:=r.takeM id i id0 nx' (hfr m β w a r).1 (hfr m β w a r).2 hlt0 hle0 ho h1 (show zz (.dsl e' k' rws) id0=_ from rfl);rw[<-h2] at r2
  have hx2:br m' β' (.map id) (a.eval x):=by
   have:=(r2.reads x);exact(show evl K ⟨S.env,(id,.map es')::(id0,.arr e' k' rws)::S.hp,nx'⟩ x=.map id by cases x<;>exact hx) ▸ this
  obtain⟨b2,ents2,clock2,f1,⟨E2,f2,fP,fW⟩,f3,f4⟩:=(o8.own (S:=⟨S.env,(id,.map es')::(id0,.arr e' k' rws)::S.hp,nx'⟩) (id:=id) (es:=es') (by simp[av])).read r2 hx2
  have hges':∀p,p∈es'->good p.1:=by
   intro p hp;rw[h2] at hp;rcases List.mem_or_eq_of_mem_set hp with h|h
   ·grind
   ·grind
  have hobj2:(getObj b2).run K.P w=.ok (.map E2 clock2) w:=by simp[getObj,Sem.run,f2]
  rcases sO hK hg f3 (fun i p e a b=>(f4 i p e a b).1) hges' fP fW (w:=w) with ⟨a1,a2,_⟩|⟨j,p,en,jE,a1,a2,a3,a4,a5,aE⟩
  ·have:=h3.none_of a2;grind
  ·have hp:p=(kv,p.2):=by rw[<-a4]
   rw[hp] at a3;have hr:=h3.some_of j p.2 a3 a5;simp only[ax9] at hr;refine⟨en.val,w,m',β',.inl ?_,r2.put hN ?_⟩
   ·simp only[execOp,f1,hy.read r];refine bk ?_;simp only[Instr.lookup,Sem.run_bind,run_underlying (cU hT),Result.andThen_ok,hobj2,pure,Sem.run,hK.check _ w kv hg,a1];rfl
   ·rw[hr];exact(f4 j _ en a3 a2).2 (by rw[<-hr];rfl)
theorem lY{T k e id2:Nat}{x y z:Operand}{good:Value->Prop}{kv:Value}{id:Nat}{es:List (Value×V)}{dv o:V}{ob:Ob}(es3:List (Value×V))(hT:eh K.P T k e=true)(hK:ja K.P k good)
  (hw:aN ops S ⟨none,.mapUpdate T x y z,ty,pos,after,g⟩ true) (hx:evl K S x=.map id) (ho:ak S.hp id=.map es) (hy:fg K S y kv) (hg:good kv) (hges:∀p,p∈es->good p.1) (hz:evl K S z=o)
  (hov:zz dv id2=some (o,ob)) (ho2:ak S.hp id2=ob) (hne:Nat.beq id id2=false) (hkp:Cf ob)
  (hp:ic kv dv es es3) (kk:ay K ops rest Q ⟨S.env,(id,.map es3)::(id2,.dead)::S.hp,S.nx⟩):ay K ops (⟨none,.mapUpdate T x y z,ty,pos,after,g⟩::rest) Q S:=by
 obtain⟨es2,i,h1,h2,h3⟩:=hp.other o;have hne:id≠id2:=fun h=>by simp_all
 refine cJ es2 hT hK hw hx ho hy hg hges hz h1 (bp (S':=⟨S.env,(id,.map (es2.set i (kv,dv)))::(id2,.dead)::(id,.map es2)::S.hp,S.nx⟩) (sL id i id2 (S:=⟨S.env,(id,.map es2)::S.hp,S.nx⟩) (by simp[av]) h2 hov (by simp_all[av]) hne hkp) ?_);rw[<-h3];refine bp (yG (S':=⟨S.env,(id,.map es3)::(id2,.dead)::S.hp,S.nx⟩) (fun _=>Y) (fun t=>?_) Y) kk
 simp_all[av]
theorem wF(id id2:Nat){es:List (Value×V)}(es':List (Value×V))(ob:Ob)(ho:ak S.hp id=.map es)(hl:es.length=es'.length)
  (hk:∀(i:Nat) (p p':Value×V),es[i]? = some p->es'[i]? = some p'->p.1=p'.1/\um p.2 p'.2/\dC p.2) (hob:ag (p9 id es') ob (ak S.hp id2)):
  aY K S ⟨S.env,(id,.dead)::(id2,ob)::S.hp,S.nx⟩:=
 lO id es' _ _ ho hl hk (fun _=>ai.keepM) (fun i=>by
  rw[av];split
  ·trivial
  grind [av,ag.keep,ai.keepM]) (by simp[av])
theorem yF(id t:Nat){es:List (Value×V)}(es':List (Value×V))(ho:ak S.hp id=.map es)(hl:es.length=es'.length)
  (hk:∀(i:Nat) (p p':Value×V),es[i]? = some p->es'[i]? = some p'->p.1=p'.1/\um p.2 p'.2/\dC p.2) (ht:get S.env t=.map id):
  aY K S ⟨(t,.imap es')::S.env,(id,.dead)::S.hp,S.nx⟩:=
 lO id es' _ _ ho hl hk (pF (fun _=>ai.keepM) (by grind [ai.frzM])) (fun i=>by rw[av];split<;>first|trivial|simp_all[ag.keep,ai.keepM]) (by simp[av])
end
variable{κ α β γ:Type}[DecidableEq κ]
theorem xK{e k:Nat}{enc:α->List V}(hi:∀x,cv (enc x))(l:List α):um (.dsl e k (l.map enc)) (.lst k (l.map enc)):=
 .sl rfl (fun i r r' h h'=>by grind) (fun i j r r' c c' h h' hj hj'=>by
  rw[h] at h';simp at h';subst h';rw[hj] at hj';simp at hj';subst hj';rw[az8,ad8] at h;obtain⟨x,_,rfl⟩:=h;exact .imm (hi x c (ay9 hj)).1)
theorem Bj{τ:Type}{D E:τ->Value×V}(h:∀x,(D x).1=(E x).1/\um (D x).2 (E x).2/\dC (D x).2)(l:List τ)(i:Nat)(p p':Value×V)(hp:(l.map D)[i]? = some p)(hp':(l.map E)[i]? = some p'):p.1=p'.1/\um p.2 p'.2/\dC p.2:=by
 grind
theorem Ab{e k:Nat}{enc:α->List V}(hi:∀x,cv (enc x))(l:List α):Cf (.arr e k (l.map enc)):=fun r hr=>by
 obtain⟨x,_,rfl⟩:=bf9.1 hr;exact(hi x).keep
section
variable{K:cR}{Q:ca}{S:St}
end
def vX{τ:Type}(enc:τ->List V):Option τ->V
 |none=>.con (.pointer none)
 |some x=>.iptr (enc x) 0
theorem F3{τ:Type}{enc:τ->List V}:∀o:Option τ,aw (vX enc o)
 |none=>aw.con _
 |some _=>aw.iptr _ _
section
variable{K:cR}{Q:ca}{S:St}{s:List It}
variable{ops:Array Oper}{l:List Oper}
theorem sN{τ:Type}{enc:τ->List V}{o:Option τ}{x:τ}(t:Nat)(h:o=some x)(ht:get S.env t=vX enc o):aY K S ⟨(t,.iptr (enc x) 0)::S.env,S.hp,S.nx⟩:=by
 subst h;refine aY.env (S:=S) (fun q=>?_)
 show(bif Nat.beq t q then V.iptr (enc x) 0 else get S.env q)=get S.env q
 cases hq:Nat.beq t q
 ·rfl
 ·have:=ci9 hq;subst this;exact ht.symm
theorem opC{τ:Type}{enc:τ->List V}{o:Option τ}{x:τ}(t:Nat)(h:o=some x)(ht:pf S.env t=some (vX enc o)){c:Code}(k:WG K Q (.c c::s) ⟨(t,.iptr (enc x) 0)::S.env,S.hp,S.nx⟩):WG K Q (.c c::s) S:=
 rL (.inl ⟨_,rfl⟩) (sN t h (dN ht)) k
theorem opO{τ:Type}{enc:τ->List V}{o:Option τ}{x:τ}(t:Nat)(h:o=some x)(ht:pf S.env t=some (vX enc o))(k:WG K Q (.o ops l::s) ⟨(t,.iptr (enc x) 0)::S.env,S.hp,S.nx⟩):WG K Q (.o ops l::s) S:=
 rL (.inr ⟨_,_,rfl⟩) (sN t h (dN ht)) k
end
theorem sJ{E:κ×List α->Value×V}{good:Value->Prop}(h:∀p,good (E p).1){nx:Nat}{k0:κ}:∀{xs:List (κ×List α)} (q:Value×V),q∈lL E nx k0 xs->good q.1
 |[],q,hq=>by simp[lL] at hq
 |p::xs,q,hq=>by
  simp only[lL] at hq;split at hq
  ·grind
  ·rcases as9.1 hq with rfl|hq
   ·exact h p
   ·exact sJ h q hq
section
variable{K:cR}{Q:ca}{S:St}
variable{ops:Array Oper}{rest:List Oper}{ty:TypeId}{pos:String}{after:Array Edge}{g:Option (Nat×Bool)}
theorem oU{d nx:Nat}{T k e e' k' id n:Nat}{x y:Operand}{good:Value->Prop}{kv:Value}{es es':List (Value×V)}{rws:List (List V)}(idn:Nat)(hid:(Nat.blt idn nx&&Nat.ble K.pins idn)=true)(hnxx:S.nx=nx)(hres:ak S.hp idn=.res)(hT:eh K.P T k e=true)(hK:ja K.P k good)
  (hz:(K.P.info? e).bind (·.zero)=some (.slice none 0 0))
  (hw:aN ops S ⟨some d,.lookup T x y false,ty,pos,after,g⟩ true) (hx:evl K S x=.map id) (ho:ak S.hp id=.map es) (hy:fg K S y kv) (hg:good kv) (hges:∀p,p∈es->good p.1)
  (hl:pb kv idn e' k' es es' rws) (hn:rws.length=n) (hN:Nat.blt d K.N=true)
  (kk:ay K ops rest Q ⟨(d,.own idn n)::S.env,(id,.map es')::(idn,.arr e' k' rws)::S.hp,S.nx⟩):ay K ops (⟨some d,.lookup T x y false,ty,pos,after,g⟩::rest) Q S:=by
 subst hn;exact oV idn S.nx (fun _ _ _ _ r=>⟨r.free hres,fun q hq=>by have:=ax8 (ci8.1 hid).2;omega⟩) (by simp_all) (ae9 _) hT hK hz hw hx ho hy hg hges hl hN kk
theorem bJ.consE{Yo:Hy}{n:Nat}{σ:Nat->Nat}{hp e:aC}{id:Nat}{ob ob':Ob}(hn:Nat.blt id n=true)(hh:ak hp (σ id)=ob')(h:ag Yo ob ob')(h':bJ Yo n σ hp e):bJ Yo n σ hp ((id,ob)::e):=.cons hn (by rw[hh];exact h) h'
theorem ti{d nx:Nat}{f:FuncId}{args:Array Operand}{at':Array TypeId}{avs':List V}{k k':Nat}{hp hp':aC}{dc:V}(res:List Nat)(hnx:S.nx=nx)(hres:∀i,i∈res->ak S.hp i=.res)
  (dv:V) (avs:List V) (σ τ:Nat->Nat) (u:aC) (hf:cE K.P f=true)
  (hw:aN ops S ⟨some d,.call ⟨.value (.func f),args,at'⟩,ty,pos,after,g⟩ true) (hN:Nat.blt d K.N=true) (ha:args.toList.map (evl K S)=avs)
  (hsub:ia (Ren k σ) avs' avs) (hhp:bJ (Ren k σ) k σ S.hp hp) (hc:fV K.gl K.P f avs' k hp dc k' hp')
  (hto:Cv k k' nx nx σ τ (fun i=>res.any fun j=>Nat.beq i j)=true) (hτ:qG k' τ=true) (hkk:Nat.ble k k'=true) (hpins:(res.all fun i=>Nat.ble K.pins i)=true)
  (hdv:ai (To k' τ) dv dc) (hu:kS (To k' τ) τ hp' k' 0 u)
  (kk:ay K ops rest Q ⟨(d,dv)::S.env,u++S.hp,S.nx⟩):ay K ops (⟨some d,.call ⟨.value (.func f),args,at'⟩,ty,pos,after,g⟩::rest) Q S:=by
 subst hnx
 have hfree:∀i,(res.any fun j=>Nat.beq i j)=true->i∈res:=by
  intro i hi;obtain⟨j,hj,e⟩:=cf9.1 hi;rw[ci9 e];exact hj
 exact gH σ τ S.nx u (fun i=>res.any fun j=>Nat.beq i j) hw Y hN (px hf ha) hsub (bJ.get hhp) hc
  (fun i hi=>hres i (hfree i hi)) hto hτ (cj9 (by omega)) hkk
  (fun i hi=>ax8 (aq8.1 hpins i (hfree i hi))) hdv hu kk
def rl(ts:List Nat)(v:V)(e:cc):cc:=match ts with|[]=>e|t::ts=>(t,v)::rl ts v e
theorem qb{Yo:Hy}{v v0:V}{env:cc}(hk:∀v,ai Yo v v)(h:ai Yo v v0):∀(ts:List Nat),(∀t,t∈ts->get env t=v0)->∀t',ai Yo (get (rl ts v env) t') (get env t')
 |[],_,t'=>hk _
 |t::ts,hh,t'=>by
  rw[rl,cn];split
  ·rename_i he;subst he;rw[hh t (by simp)];exact h
  ·exact qb hk h ts (fun q hq=>hh q (by9 _ hq)) t'
theorem cx(id:Nat)(ts:List Nat){e k n:Nat}{rows:List (List V)}(ho:ak S.hp id=.arr e k rows)(hi:∀row,row∈rows->cv row)
  (ht:∀t,t∈ts->get S.env t=.own id n) (hn:n=rows.length):aY K S ⟨rl ts (.lst k rows) S.env,(id,.dead)::S.hp,S.nx⟩:=
 fK id _ _ ho hi (qb (fun _=>ai.keep) (ai.frzAll hn) ts ht) wB (by simp[av])
inductive Zs:List V->List Value->Prop
 |nil:Zs [] []
 |con {v:Value} {cs:List V} {vs:List Value} (h:Zs cs vs):Zs (.con v::cs) (v::vs)
 |sl {k:Nat} {cs:List V} {vs:List Value} (h:Zs cs vs):Zs (.lst k []::cs) (.slice none 0 0::vs)
theorem Zs.ok{cs:List V}{vs:List Value}(h:Zs cs vs)(m:bB):cs.length=vs.length/\∀(i:Nat) c v,cs[i]? = some c->vs[i]? = some v->bN m c v:=by
 induction h with
 |nil=>grind
 |con h ih=>
  refine⟨by simp[ih.1],fun i c v a b=>?_⟩;cases i with
  |zero=>simp at a b;subst a;subst b;exact .con _
  |succ i=>grind
 |sl h ih=>
  refine⟨by simp[ih.1],fun i c v a b=>?_⟩;cases i with
  |zero=>simp at a b;subst a;subst b;exact .nil _ _ _
  |succ i=>grind
theorem mJ{cs:List V}{vs:List Value}(h:Zs cs vs):∀m:bB,bN m (.agg cs) (.agg vs.toArray):=fun m=>
 .agg (by simpa using (h.ok m).1) (fun i c v a b=>(h.ok m).2 i c v a (by grind))
theorem Fz:∀{l:List V},cv l->uQ l=true
 |[],_=>rfl
 |c::l,h=>by
  have h1:=(h c (by simp)).1;simp only[uQ,h1];exact Fz (fun x hx=>h x (by9 _ hx))
theorem Fy{rows:List (List V)}(h:∀row,row∈rows->cv row):∀row,row∈rows->uQ row=true:=fun row hr=>Fz (h row hr)
end
end Go.Pv
namespace Go.Pv
open Go
open Go.ChangeMaps (setBlock)
section
variable{K:cR}{Q:ca}{S:St}
variable{m:bB}{β:ba}{w:World}{a:Act}
variable{ops:Array Oper}{rest:List Oper}{ty:TypeId}{pos:String}{after:Array Edge}{g:Option (Nat×Bool)}
theorem zS{P:Program}{w w':World}{s:Sem Value}{v:Value}(h:s.run P w=.ok v w'):(do pure (Next.value (<-s)):Sem Next).run P w=.ok (.value v) w':=by
 simp_all
theorem th{d T k e:Nat}{x:Operand}{es:List (Value×V)}(hT:eh K.P T k e=true)
  (hw:aN ops S ⟨some d,.range T x,ty,pos,after,g⟩ true) (hx:evl K S x=.imap es) (hN:Nat.blt d K.N=true)
  (kk:ay K ops rest Q ⟨(d,.ptr S.nx 1 0 0)::S.env,(S.nx,.iter [] es)::S.hp,S.nx+1⟩):ay K ops (⟨some d,.range T x,ty,pos,after,g⟩::rest) Q S:=by
 refine cm hw (fun m β w a r=>?_) kk;have h:=r.reads x;rw[hx] at h;generalize hv:a.eval x=v at h;cases h with
 |imm h=>
 cases h with
 | @imap _ bm ents clock hm hl hk h=>
 obtain⟨E,hE,hP,hW⟩:=hm;obtain⟨β',hle,hnx,r2⟩:=r.alloc (.mapIter (some bm) clock #[] clock) (.iter [] es) ⟨0,0⟩ _ rfl (fun β' hle=>⟨bm,#[],E,clock,ents.toList,rfl,by simp,hE,hW,by simpa[leftOf,List.filter_eq_self.2] using hP,by grind,fun i p e hi he=>⟨hk i p e hi (by grind),h i p e hi (by grind)⟩,by simp⟩);refine⟨.pointer (some ⟨w.heap.size,0,none⟩),{ w with heap:=w.heap.push (.mapIter (some bm) clock #[] clock) },m,β',.inl ?_,bX.put r2 hN (.ptr hnx)⟩;simp only[execOp,hv];exact zS (run_range_map w T k e bm E clock (cU hT) (r.imm _ _ hE))
theorem nM{o:Oper}{S':St}(r:bX K m β w a S)(hw:aN ops S o true)
  (h:∃v w' m' β',((execOp a.eval o).run K.P w=.ok (.value v) w')/\bX K m' β' w' (a.put o.dst v) S') (k:ay K ops rest Q S'):wpListIn K.fc 0 K.P ops (Q.at K) (o::rest) a w:=by
 unfold wpListIn;rw[if_pos (hw.at r)];obtain⟨v,w',m',β',h1,r'⟩:=h;refine fY (.inr (kr h1 (fun d e=>by cases e))) ?_;unfold Oper.wp;rw[h1];exact k m' β' w' _ r'
theorem AI{v L:List MapEntry}{j:Nat}{e:MapEntry}(h:v.Perm L)(hn:(L.map (·.born)).Nodup)(hj:v[j]? = some e):(v.eraseIdx j).Perm (L.filter fun x=>x.born != e.born):=by
 have h1:=fw e v j hj;have hn2:((e::v.eraseIdx j).map (·.born)).Nodup:=((h1.symm.trans h).map _).nodup_iff.2 hn
 have h3:∀x,x∈v.eraseIdx j->(x.born != e.born)=true:=by
  intro x hx;rw[bm9,aa9] at hn2;simp only[bne_iff_ne,ne_eq];intro hh;exact hn2.1 (bf9.2 ⟨x,hx,hh⟩)
 have h2:=((h1.symm.trans h).filter fun x=>x.born != e.born);rw[aa8,if_neg (by simp),List.filter_eq_self.2 h3] at h2;exact h2
theorem CQ(E:Array MapEntry)(seen:Array Nat)(b:Nat):(leftOf E (seen.push b)).toList=(leftOf E seen).toList.filter fun x=>x.born != b:=by
 simp only[leftOf,Array.toList_filter,List.filter_filter]
 grind
theorem Dj{d id:Nat}{x:Operand}{cur left:List (Value×V)}
  (hw:aN ops S ⟨some d,.next x false,ty,pos,after,g⟩ true) (hx:evl K S x=.ptr id 1 0 0) (ho:ak S.hp id=.iter cur left) (hN:Nat.blt d K.N=true)
  (k0:left=[]->ay K ops rest Q (S.put d (.tup [.con (.bool false)])))
  (k1:∀j p,left[j]? = some p->ay K ops rest Q ⟨(d,.tup [.con (.bool true),.con p.1,p.2])::S.env,(id,.iter [p] (left.eraseIdx j))::S.hp,S.nx⟩):
  ay K ops (⟨some d,.next x false,ty,pos,after,g⟩::rest) Q S:=by
 intro m β w a r;have h:=r.reads x;rw[hx] at h;generalize hv:a.eval x=v at h;cases h with
 |imm h=>cases h
 | @ptr _ _ _ _ b cap hb=>
 have hown:=r.own id;rw[hb,ho] at hown;obtain⟨bm,seen,E,clock,v,h0,h1,h2,h3,h4,h5,h6,h7⟩:=hown;have hpt:Value.pointer (some ⟨b,cap.off+(0*1+0),none⟩)=.pointer (some ⟨b,0,none⟩):=by rw[h0]
 rcases run_next_at (P:=K.P) w ty b bm clock clock seen E clock h1 (r.imm _ _ h2) h3.lt (ae9 _) with ⟨q1,q2⟩|⟨e,q1,w1,q2,q3⟩
 ·have hl:left=[]:=by
   have:v.length=0:=by rw[h4.length_eq,bk8];exact q1
   exact ay8.1 (by omega)
  refine nM r hw ⟨.tuple #[.bool false],w,m,β,?_,r.put hN ?_⟩ (k0 hl)
  ·simp_all[execOp]
  ·refine .tup Y fun i c u hi hu=>?_
   match i with
   |0=>simp at hi hu;subst hi;subst hu;exact .imm (.con _)
   |i+1=>simp at hi
 ·obtain⟨j,hj⟩:=bc8 (h4.mem_iff.2 q1);have hlt:j<left.length:=by rw[h5];exact(bd9.1 hj).1
  have hp:left[j]? = some left[j]:=az9 hlt;obtain⟨e1,e2⟩:=h6 j _ e hp hj;have r1:bX K m β w1 a S:=by rcases q2 with rfl|rfl;exact r;exact r.drawn _ (al9 _)
  have hh1:w1.heap=w.heap:=by rcases q2 with rfl|rfl<;>rfl
  have hbl:b<w1.heap.size:=by rw[hh1];exact bD h1
  have r2:=r1.update (by grind) hb (setBlock w1 b (.mapIter (some bm) clock (seen.push e.born) clock)) (.iter [left[j]] (left.eraseIdx j))
   (fun b' hne=>by simp only[setBlock,bq8];grind) (by simp[setBlock]) ⟨rfl,rfl,rfl,trivial⟩
   (fun _=>⟨bm,seen.push e.born,E,clock,v.eraseIdx j,h0,by simp[setBlock,hbl],h2,h3,by
    rw[CQ];refine AI h4 ?_ hj;have:((leftOf E seen).toList).Sublist E.toList:=by simp only[leftOf,Array.toList_filter];exact List.filter_sublist
    exact List.Nodup.sublist (this.map _) h3.born,by grind,fun i p e' hi he=>by
    grind,fun p hpc=>by
    simp at hpc;subst hpc;exact⟨e,(mem_left q1).1,by simp,e1,e2⟩⟩)
  refine nM r hw ⟨.tuple #[.bool true,e.key,e.val],_,m,β,?_,r2.put hN ?_⟩ (k1 j left[j] hp)
  ·simp_all[execOp]
  ·refine .tup Y fun i c u hi hu=>?_
   match i with
   |0=>simp at hi hu;subst hi;subst hu;exact .imm (.con _)
   |1=>simp at hi hu;subst hi;subst hu;rw[<-e1];exact .imm (.con _)
   |2=>simp at hi hu;subst hi;subst hu;exact .imm e2
   |i+3=>simp at hi
theorem tu{d id:Nat}{x:Operand}{p:Value×V}{left:List (Value×V)}
  (hw:aN ops S ⟨some d,.entry x,ty,pos,after,g⟩ true) (hx:evl K S x=.ptr id 1 0 0) (ho:ak S.hp id=.iter [p] left) (hN:Nat.blt d K.N=true)
  (kk:ay K ops rest Q (S.put d (.tup [.con p.1,p.2]))):ay K ops (⟨some d,.entry x,ty,pos,after,g⟩::rest) Q S:=by
 intro m β w a r;have h:=r.reads x;rw[hx] at h;generalize hv:a.eval x=v at h;cases h with
 |imm h=>cases h
 | @ptr _ _ _ _ b cap hb=>
 have hown:=r.own id;rw[hb,ho] at hown;obtain⟨bm,seen,E,clock,v,h0,h1,h2,h3,h4,h5,h6,h7⟩:=hown;have hpt:Value.pointer (some ⟨b,cap.off+(0*1+0),none⟩)=.pointer (some ⟨b,0,none⟩):=by rw[h0]
 obtain⟨e,q1,q2,q3,q4⟩:=h7 p (by simp);have hf:E.find? (·.born==e.born)=some e:=by rw[<-Array.find?_toList];exact find_born e E.toList h3.born q1
 refine nM r hw ⟨.tuple #[e.key,e.val],w,m,β,?_,r.put hN ?_⟩ kk
 ·simp only[execOp,hv,hpt];refine bk ?_;simp only[Instr.entry,getObj,Sem.run_bind,Sem.run,h1,r.imm _ _ h2,Result.andThen,q2,bne_self_eq_false,cj8,if_false,hf];rfl
 ·refine .tup Y fun i c u hi hu=>?_
  match i with
  |0=>simp at hi hu;subst hi;subst hu;rw[<-q3];exact .imm (.con _)
  |1=>simp at hi hu;subst hi;subst hu;exact .imm q4
  |i+2=>simp at hi
theorem tW{P:Program}{T k e:TypeId}{good:Value->Prop}{kv zv:Value}(c:Bool)(w:World)(hT:eh P T k e=true)(hK:ja P k good)(hz:(P.info? e).bind (·.zero)=some zv)(hg:good kv):
  (Instr.lookup T (.map none) kv c).run P w=.ok (if c then .tuple #[zv,.bool false] else zv) w:=by
 have hzr:(zeroValue e).run P w=.ok zv w:=by
  cases hi:P.info? e with
  |none=>grind
  |some i=>
   simp_all[zeroValue,run_typeInfo]
 have hf:(Instr.findKey k kv []).run P w=.ok none w:=by
  rcases hK.find w kv hg [] (by simp) with ⟨h,_⟩|⟨j,e',_,h,_⟩
  ·exact h
  ·simp at h
 simp only[Instr.lookup,Sem.run_bind,run_underlying (cU hT),Result.andThen_ok,pure,Sem.run,hK.check _ w kv hg]
 simp_all
theorem tm{d:Nat}{T k e:TypeId}{x y:Operand}{good:Value->Prop}{kv zv:Value}(zd:V)(hT:eh K.P T k e=true)(hK:ja K.P k good)
  (hz:(K.P.info? e).bind (·.zero)=some zv) (hzd:∀m,bN m zd zv)
  (hw:aN ops S ⟨some d,.lookup T x y false,ty,pos,after,g⟩ true) (hx:evl K S x=.con (.map none)) (hy:fg K S y kv) (hg:good kv) (hN:Nat.blt d K.N=true)
  (kk:ay K ops rest Q (S.put d zd)):ay K ops (⟨some d,.lookup T x y false,ty,pos,after,g⟩::rest) Q S:=
 aX _ hw hN (fun m β w a r=>by
  refine⟨zv,?_,.imm (hzd m)⟩;simp only[execOp,r.con hx,hy.read r];exact bk (tW false w hT hK hz hg)) kk
end
theorem ag.itr{Yo:Hy}[jI Yo]{c l:List (Value×V)}:ag Yo (.iter [] l) (.iter c l):=⟨by simp,rfl,jI.h⟩
inductive vv(Yo:Hy)(env:cc):cc->Prop
 |refl:vv Yo env env
 |put {e:cc} {t:Nat} {v v0:V} (ht:get env t=v0) (hv:ai Yo v v0) (h:vv Yo env e):vv Yo env ((t,v)::e)
theorem vv.get{Yo:Hy}{env e:cc}(hk:∀v,ai Yo v v)(h:vv Yo env e)(t:Nat):ai Yo (get e t) (get env t):=by
 induction h<;>grind [cn]
inductive Dx(Yo:Hy)(hp:aC):aC->Prop
 |refl:Dx Yo hp hp
 |put {e:aC} {t:Nat} {v v0:Ob} (ht:ak hp t=v0) (hv:ag Yo v v0) (h:Dx Yo hp e):Dx Yo hp ((t,v)::e)
theorem Dx.get{Yo:Hy}{hp e:aC}(hk:∀v,ag Yo v v)(h:Dx Yo hp e)(t:Nat):ag Yo (ak e t) (ak hp t):=by
 induction h<;>grind [av]
section
variable{K:cR}{S:St}
theorem qj(id:Nat){es:List (Value×V)}{env:cc}{hp:aC}(ho:ak S.hp id=.map es)(hi:∀p,p∈es->aw p.2)(he:vv (p9 id es) S.env env)(hh:Dx (p9 id es) S.hp hp):
  aY K S ⟨env,(id,.dead)::hp,S.nx⟩:=
 ni id env _ ho hi (he.get (fun _=>ai.keepM)) (fun i=>by
  rw[av];split
  ·trivial
  ·exact hh.get (fun _=>ag.keep (fun _=>ai.keepM) _) i) (by simp[av])
end
def BK(a b:B8):Bool:=!(Op.bytesLess b a)
def RM{α:Type}(n:Nat)(l:List α)(P:Prop):Prop:=l.length<n/\P
theorem RM.zero{α:Type}{l:List α}{P:Prop}{X:Prop}(h:RM 0 l P):X:=absurd h.1 (Nat.not_lt_zero _)
theorem RM.start{α:Type}{l:List α}{P:Prop}(h:P):RM (l.length+1) l P:=⟨ak8 _,h⟩
theorem RM.step{α:Type}{l l':List α}{n:Nat}{P P':Prop}(h:RM (n+1) l P)(hq:l'.length<l.length)(h':P'):RM n l' P':=⟨by have:=h.1;omega,h'⟩
section
variable{K:cR}{Q:ca}{S:St}{s:List It}
variable{ops:Array Oper}{rest:List Oper}{ty:TypeId}{pos:String}{after:Array Edge}{g:Option (Nat×Bool)}
theorem nxt{α:Type}{enc:α->Value×V}{xs:List α}{d id nx:Nat}{env:cc}{hp:aC}{x:Operand}{cur:List (Value×V)}(hx:evl K ⟨env,hp,nx⟩ x=.ptr id 1 0 0)(ho:ak hp id=.iter cur (xs.map enc))(hw:aN ops ⟨env,hp,nx⟩ ⟨some d,.next x false,ty,pos,after,g⟩ true)(hN:Nat.blt d K.N=true)
  (k0:xs=[]->WG K Q (.o ops rest::s) ⟨(d,.tup [.con (.bool false)])::env,hp,nx⟩)
  (k1:∀x l',l'.length<xs.length->xs.Perm (x::l')->WG K Q (.o ops rest::s) ⟨(d,.tup [.con (.bool true),.con (enc x).1,(enc x).2])::env,(id,.iter [enc x] (l'.map enc))::hp,nx⟩):
  WG K Q (.o ops (⟨some d,.next x false,ty,pos,after,g⟩::rest)::s) ⟨env,hp,nx⟩:=by
 refine Dj hw hx ho hN (fun h=>k0 (List.map_eq_nil_iff.1 h)) (fun j p hj=>?_);rw[az8,ad8] at hj;obtain⟨y,h1,rfl⟩:=hj;rw[<-ChangeMaps.map_eraseIdx enc xs j];have hlt:=(bd9.1 h1).1;exact k1 y (xs.eraseIdx j) (by grind) (fw y xs j h1)
end
end Go.Pv
namespace Go.Pv
open Go Go.RowKit
open Go.Sort in
theorem wd{gl:Gl}{P:Program}{f:FuncId}{k id:Nat}{hp:aC}{e:TypeId}{α:Type}[Inhabited α](enc:α->Value)(h1c:∀x,(enc x).oneCell'=true)(l l' zs:List α)(hid:ak hp id=.arr e 1 (l.map fun x=>[V.con (enc x)]))(hl:(l'++zs).length=l.length)
  (h:∀(w:World) (blk off cap:Nat),Holds enc w blk off l.toArray->blk<w.heap.size->l.length<=cap->Calls P f #[.slice (some ⟨blk,off,none⟩) l.length cap] w fun e w'=>
   e=.returned (.slice (some ⟨blk,off,none⟩) l'.length cap)/\∃n os,w'=grow (putRow enc (Sort.ahead w n) blk off (l'++zs).toArray) os)
  (hn:∀(w:World) (a:Option Addr),l=[]->Calls P f #[.slice a 0 0] w fun e w'=>e=.returned (.slice a 0 0)/\Below w.heap.size w w'/\True):
  fV gl P f [.own id l.length] k hp (.own id l'.length) k ((id,.arr e 1 (l'.map fun x=>[V.con (enc x)]))::hp):=by
 intro m β w vs himm _ hargs hown hpriv hinj hhid hnx
 obtain⟨v,rfl⟩:∃v,vs=#[v]:=by
  have:=hargs.len;simp at this
  exact⟨vs[0],by
   grind⟩
 have hv:=hargs.at' 0 _ _ rfl rfl;have hob:=hown id;rw[hid] at hob;have hg:∀q,ak ((id,Ob.arr e 1 (l'.map fun x=>[V.con (enc x)]))::hp) q=if id=q then Ob.arr e 1 (l'.map fun x=>[V.con (enc x)]) else ak hp q:=fun q=>av _ _ _ _
 have hlive:∀q,ak ((id,Ob.arr e 1 (l'.map fun x=>[V.con (enc x)]))::hp) q≠.dead->ak hp q≠.dead:=fun q hq=>by
  grind
 have hhids:∀(w':World),w.heap.size<=w'.heap.size->∀q x,ak ((id,Ob.arr e 1 (l'.map fun x=>[V.con (enc x)]))::hp) q≠.dead->β.hid q x->x<w'.heap.size/\m x=none/\(x<w.heap.size->¬c8 hp β x)/\
   (∀i b c,ak ((id,Ob.arr e 1 (l'.map fun x=>[V.con (enc x)]))::hp) i≠.dead->β i=some (some (b,c))->x≠b)/\∀i,ak ((id,Ob.arr e 1 (l'.map fun x=>[V.con (enc x)]))::hp) i≠.dead->β.hid i x->i=q:=by
  intro w' hs q x hq hx;obtain⟨q1,q2,q3,q4⟩:=hhid q x (hlive q hq) hx;exact⟨by omega,q2,fun _ hF=>(hF q (hlive q hq)).2 hx,fun i b c hi=>q3 i b c (hlive i hi),fun i hi=>q4 i (hlive i hi)⟩
 generalize hnl:l.length=n at hv h;cases hv with
 |imm h'=>cases h'
 | @ownNil _ ad hb=>
  have hl0:l=[]:=ay8.1 hnl;subst hl0
  have hl':l'=[]:=by
   have:(l'++zs).length=0:=by simpa using hl
   simp at this;exact this.1
  subst hl';refine(hn w ad Y).mono ?_
  rintro ex w' ⟨rfl,hB,hdr⟩
  have hheap:∀b,b<w.heap.size->w'.heap[b]? = w.heap[b]?:=hB.block;refine⟨_,m,β,Y,.ownNil hb,bB.le_refl _,fun b o hb=>by grind,fun b hb _=>⟨Y,hheap b hb⟩,hB.size,⟨hB.os,hB.tape,hB.output,hdr⟩,fun q=>?_,fun q b cap hq hbq=>?_,fun q q' b cap cap' hq hq'=>hinj q q' b cap cap' (hlive q hq) (hlive q' hq'),hhids w' hB.size,hnx,fun q hq=>⟨hq,Y⟩⟩
  ·grind [bn.dead',bn.congr,eL]
  ·have hq:=hlive q hq;exact⟨hpriv q b cap hq hbq,fun _ hF=>(hF q hq).1 cap hbq⟩
 | @own _ _ b cap hb=>
  rw[hb] at hob;obtain⟨arr,bl,o1,o2,o3,o4,o5,oB,o6⟩:=hob;have hbs:b<w.heap.size:=bD o1
  have hcell:∀j (hj:j<l.length),arr[cap.off+j]? = some (enc l[j]):=fun j hj=>by
   obtain⟨v,v1,v2,_⟩:=o6 j 0 [V.con (enc l[j])] (V.con (enc l[j])) (by grind) rfl;have:=(v2.v rfl).of_con
   grind
  refine(h w b cap.off cap.n (fun j hj=>?_) hbs (by grind)).mono ?_
  ·grind [bW,World.frozen?]
  rintro ex w' ⟨rfl,nd,os,rfl⟩
  have hheap:=jh enc w nd b cap.off (l'++zs).toArray os;have hother:∀b',b'<w.heap.size->b'≠b->(grow (putRow enc (Sort.ahead w nd) b cap.off (l'++zs).toArray) os).heap[b']? = w.heap[b']?:=fun b' h1 h2=>by grind
  have hlid:ak hp id≠.dead:=by rw[hid];simp
  have hsz:w.heap.size<=(grow (putRow enc (Sort.ahead w nd) b cap.off (l'++zs).toArray) os).heap.size:=by simp[grow,putRow,mapBlock,Sort.ahead]
  refine⟨_,m,β,Y,.own hb,bB.le_refl _,fun b' o hb'=>?_,fun b' hb' hF=>⟨Y,hother b' hb' (fun e=>?_)⟩,hsz,⟨Y,Y,Y,trivial⟩,fun q=>?_,fun q b' cap' hq hbq=>?_,fun q q' b1 cap1 cap2 hq hq'=>hinj q q' b1 cap1 cap2 (hlive q hq) (hlive q' hq'),hhids _ hsz,hnx,fun q hq=>⟨hq,Y⟩⟩
  ·grind
  ·subst e;exact(hF id hlid).1 cap hb
  ·rw[hg];split
   ·rename_i hh;subst hh;rw[hb];refine⟨putCells enc cap.off (l'++zs).toArray arr,bl,by rw[hheap b hbs,if_pos rfl,o1];rfl,by simp[putCells,o2],by grind,o4,?_,oB,fun i j row c hr hc=>?_⟩
    ·grind
    ·rw[az8] at hr;cases hli:l'[i]? with
     |none=>grind
     |some x=>
      rw[hli] at hr;simp at hr;subst hr;have hi:i<l'.length:=(bd9.1 hli).1;have hx:l'[i]=x:=(bd9.1 hli).2
      have hj:j=0:=by
       have:=(bd9.1 hc).1;simp at this;exact this
      subst hj;simp at hc;subst hc;have ha:cap.off+i<arr.size:=by simp at hl o3;omega
      refine⟨enc x,?_,.inl (.imm (.con _)),h1c x⟩;rw[Nat.mul_one,bg8];unfold putCells
      grind
   grind [bn.dead',bn.congr,eL]
  ·have hq:=hlive q hq;exact⟨hpriv q b' cap' hq hbq,fun _ hF=>(hF q hq).1 cap' hbq⟩
def dU(l:List B8):List B8:=l.mergeSort fun x y=>decide (x<=y)
def B0{α:Type}[Inhabited α][DecidableEq α](l:List α):List α:=Lib.compact l
theorem qL{α:Type}[Inhabited α][DecidableEq α](d:Array α)(m:Nat):(Lib.compactUpTo d m).length<=m:=by
 grind [Lib.compactUpTo]
theorem wJ{α:Type}[Inhabited α][DecidableEq α](l:List α):(B0 l).length<=l.length:=qL _ _
theorem Gb(w:World):w=Go.Sort.grow w #[]:=by simp_all
theorem H5{α:Type}(l c:List α)(h:c.length<=l.length)(z:α):(c++List.replicate (l.length - c.length) z).length=l.length:=by simp;omega
open Go.Sort in
theorem yj{gl:Gl}{P:Program}{f:FuncId}{k id:Nat}{hp:aC}{e:TypeId}(l:List B8)(hid:ak hp id=.arr e 1 (l.map fun x=>[V.con (str x)]))
  (h:∀(blk off cap:Nat) (zs:List B8) (w:World),Holds str w blk off zs.toArray->blk<w.heap.size->zs.length<4611686018427387904->Calls P f #[.slice (some ⟨blk,off,none⟩) zs.length cap] w fun e w'=>
   e=.returned (.tuple #[])/\∃n os,w'=grow (putRow str (Sort.ahead w n) blk off (zs.mergeSort fun x y=>decide (x<=y)).toArray) os)
  (hn:∀(p:Option Addr) (w:World),Calls P f #[.slice p 0 0] w fun e w'=>e=.returned (.tuple #[])/\w'=w) (hc:l.length<4611686018427387904):
  fV gl P f [.own id l.length] k hp (.tup []) k ((id,.arr e 1 ((dU l).map fun x=>[V.con (str x)]))::hp):=
 uS str (fun _=>rfl) l (dU l) hid (List.length_mergeSort _) (fun w blk off cap hH hb=>h blk off cap l w hH hb hc) (fun w a _=>(hn a w).mono (by simp_all[Below.refl]))
open Go.Sort in
theorem oz{gl:Gl}{P:Program}{f:FuncId}{k id:Nat}{hp:aC}{e:TypeId}{α:Type}[Inhabited α][DecidableEq α](enc:α->Value)(h1c:∀x,(enc x).oneCell'=true)(z:α)(l:List α)(hid:ak hp id=.arr e 1 (l.map fun x=>[V.con (enc x)]))
  (h:∀(blk off cap:Nat) (zs:List α) (w:World),Holds enc w blk off zs.toArray->zs.length<=9223372036854775807->zs.length<=cap->Calls P f #[.slice (some ⟨blk,off,none⟩) zs.length cap] w fun e w'=>
   e=.returned (.slice (some ⟨blk,off,none⟩) (Lib.compact zs).length cap)/\∃q,w'=putRow enc (Sort.ahead w q) blk off (Lib.compact zs++List.replicate (zs.length - (Lib.compact zs).length) z).toArray)
  (hn:∀(p:Option Addr) (w:World),Calls P f #[.slice p 0 0] w fun e w'=>e=.returned (.slice p 0 0)/\w'=w) (hc:l.length<=140737488355328):
  fV gl P f [.own id l.length] k hp (.own id (B0 l).length) k ((id,.arr e 1 ((B0 l).map fun x=>[V.con (enc x)]))::hp):=
 wd enc h1c l (B0 l) (List.replicate (l.length - (B0 l).length) z) hid (H5 _ _ (wJ l) z) (fun w blk off cap hH _ hcap=>(h blk off cap l w hH (by omega) hcap).mono (by rintro e w' ⟨rfl,q,rfl⟩;exact⟨rfl,q,#[],Gb _⟩)) (fun w a _=>(hn a w).mono (by simp_all[Below.refl]))
end Go.Pv
namespace Go.Pv
open Go Go.RowKit Go.Sort Go.Proofs
def gN{T:Type}(cmp:T->T->Option Int)(x y:T):Bool:=match cmp x y with|some c=>decide (c<0)|none=>false
def rU{T:Type}(cmp:T->T->Option Int)(l:List T):Bool:=
 l.all fun x=>!gN cmp x x&&l.all fun y=>(cmp x y).isSome&&l.all fun z=>(!(gN cmp x y&&gN cmp y z)||gN cmp x z)&&(gN cmp x y||gN cmp y z||!gN cmp x z)
structure I7{T:Type}(l:List T)(enc:T->List V)(k:Nat)(m:bB) where
 t:T
 mem:t∈l
 vs:List Value
 hl:vs.length=k
 h1:∀v∈vs,v.oneCell'=true
 rel:∀(j:Nat) (c:V) (v:Value),(enc t)[j]? = some c->vs[j]? = some v->bN m c v
theorem se{α T:Type}[Inhabited α]{f:α->T}{r:T->T->Prop}{d:Array α}(h:∀i j,0<=i->i<j->j<d.size->r (f d[i]!) (f d[j]!)):(d.toList.map f).Pairwise r:=by
 rw[aw9];intro i j hi hj hij;have hi':i<d.size:=by simpa using hi
 have hj':j<d.size:=by simpa using hj
 have:=h i j (ai8 _) hij hj';rw[getElem!_pos d i hi',getElem!_pos d j hj'] at this
 simpa using this
def JG(gl:Gl)(P:Program)(g:FuncId)(args:List V)(c:Int):Prop:=∀(m:bB) (w:World) (vs:Array Value),(∀(b:Nat) o,m b=some o->w.heap[b]? = some o)->fU gl m->nA m args vs->
 Calls P g vs w fun e w'=>e=.returned (.int .i64 c)/\∃q os,w'=grow (w.drewN q) os
def lK(n:Nat):Array (Fin n):=Array.ofFn fun i=>i
theorem j6{n:Nat}:(lK n).size=n:=by simp[lK]
theorem F7{n:Nat}[Inhabited (Fin n)]{i:Nat}(h:i<n):(lK n)[i]! = ⟨i,h⟩:=by
 rw[getElem!_pos _ i (by rw[j6];exact h)];simp[lK]
def J5{T:Type}(cmp:T->T->Option Int)(l:List T)(x y:Fin l.length):Int:=(cmp l[x.1] l[y.1]).getD 0
open Classical in
noncomputable def rW{T:Type}(cmp:T->T->Option Int)(l:List T):Option (List T):=
 bif rU cmp l&&Nat.blt l.length 4611686018427387904 then
  some (if h:0<l.length then haveI:Inhabited (Fin l.length):=⟨⟨0,h⟩⟩;((pdq (ltOf (J5 cmp l)) (lK l.length) 0 l.length (Lib.bitLen l.length) true true).toList.map fun i=>l[i.1]) else [])
 else none
theorem vS{T:Type}{cmp:T->T->Option Int}{l:List T}(hswo:rU cmp l=true):∀x∈l,gN cmp x x=false/\∀y∈l,(cmp x y).isSome=true/\∀z∈l,(gN cmp x y=true->gN cmp y z=true->gN cmp x z=true)/\(gN cmp x y=false->gN cmp y z=false->gN cmp x z=false):=by
 intro x hx;unfold rU at hswo;have h1:=aq8.1 hswo x hx;simp only[aq9,ar9,aq8] at h1;refine⟨h1.1,fun y hy=>?_⟩;have h2:=h1.2 y hy;refine⟨h2.1,fun z hz=>?_⟩;have h3:=h2.2 z hz
 revert h3
 cases gN cmp x y<;>cases gN cmp y z<;>cases gN cmp x z<;>simp
theorem wh{T:Type}{cmp:T->T->Option Int}{l:List T}(hswo:rU cmp l=true)(x y:Fin l.length):ltOf (J5 cmp l) x y=gN cmp l[x.1] l[y.1]:=by
 have:=((vS hswo l[x.1] (bc9 _)).2 l[y.1] (bc9 _)).1
 show decide ((cmp l[x.1] l[y.1]).getD 0<0)=_
 unfold gN;cases hc:cmp l[x.1] l[y.1] with
 |none=>rw[hc] at this;simp at this
 |some c=>rfl
theorem Bu{T:Type}{cmp:T->T->Option Int}{l:List T}(hswo:rU cmp l=true):SWO (ltOf (J5 cmp l)):=by
 have hswo':=vS hswo;refine⟨fun x=>?_,fun x y z h1 h2=>?_,fun x y z h1 h2=>?_⟩
 ·rw[wh hswo];exact(hswo' _ (bc9 _)).1
 ·rw[wh hswo] at *;exact(((hswo' _ (bc9 _)).2 _ (bc9 _)).2 _ (bc9 _)).1 h1 h2
 ·rw[wh hswo] at *;exact(((hswo' _ (bc9 _)).2 _ (bc9 _)).2 _ (bc9 _)).2 h1 h2
theorem rV{T:Type}{cmp:T->T->Option Int}{l r:List T}(hr:rW cmp l=some r):rU cmp l=true/\l.length<4611686018427387904/\∀(h:0<l.length),r=(haveI:Inhabited (Fin l.length):=⟨⟨0,h⟩⟩;((pdq (ltOf (J5 cmp l)) (lK l.length) 0 l.length (Lib.bitLen l.length) true true).toList.map fun i=>l[i.1])):=by
 unfold rW at hr;cases hg:(rU cmp l&&Nat.blt l.length 4611686018427387904) with
 |false=>rw[hg] at hr;simp at hr
 |true=>
  rw[hg] at hr;simp only[cond_true,ax9] at hr;simp only[aq9] at hg;exact⟨hg.1,ax8 hg.2,fun h=>by rw[dif_pos h] at hr;exact hr.symm⟩
theorem EP{T:Type}{cmp:T->T->Option Int}:rW cmp ([]:List T)=some []:=by
 unfold rW;rw[show(rU cmp ([]:List T)&&Nat.blt ([]:List T).length 4611686018427387904)=true from rfl];simp
theorem F6{T:Type}(l:List T):(lK l.length).toList.map (fun i=>l[i.1])=l:=by
 apply List.ext_getElem
 ·simp[lK]
 ·intro i h1 h2;simp[lK]
theorem Cy{T:Type}{cmp:T->T->Option Int}{l r:List T}(hr:rW cmp l=some r):r.Perm l/\r.Pairwise fun x y=>gN cmp y x=false:=by
 by_cases hn:l=[]
 ·subst hn;rw[EP] at hr;simp at hr;subst hr;exact⟨.refl _,.nil⟩
 ·obtain⟨h1,h2,h3⟩:=rV hr;have hpos:0<l.length:=bd8.2 hn;have h:=@pdq_sorts (Fin l.length) ⟨⟨0,hpos⟩⟩ (ltOf (J5 cmp l)) (Bu h1) (lK l.length) 0 l.length (Lib.bitLen l.length) true true (ai8 _) (by rw[j6];exact ae9 _) (Or.inl rfl);have h3:=h3 hpos;generalize @pdq (Fin l.length) ⟨⟨0,hpos⟩⟩ (ltOf (J5 cmp l)) (lK l.length) 0 l.length (Lib.bitLen l.length) true true=d' at h h3
  letI:Inhabited (Fin l.length):=⟨⟨0,hpos⟩⟩
  obtain⟨⟨p1,_,p3⟩,hS⟩:=h;have hsz:d'.size=l.length:=by rw[p1,j6]
  have hp:d'.toList.Perm (lK l.length).toList:=by
   have e1:d'.extract 0 l.length=d':=by
    have:=Array.extract_size (xs:=d')
    rwa [hsz] at this
   have e2:(lK l.length).extract 0 l.length=lK l.length:=by
    have:=Array.extract_size (xs:=lK l.length)
    rwa [j6] at this
   rwa [e1,e2] at p3
  subst h3;refine⟨(hp.map _).trans (by rw[F6]),?_⟩;refine se (f:=fun i:Fin l.length=>l[i.1]) (r:=fun x y=>gN cmp y x=false) fun i j hi hij hj=>?_;rw[<-wh h1];exact hS i j hi hij (by rw[<-hsz];exact hj)
theorem pm{T:Type}{cmp:T->T->Option Int}{l r:List T}(hr:rW cmp l=some r):r.Perm l:=(Cy hr).1
theorem uw{T:Type}{cmp:T->T->Option Int}{l:List T}(h:rU cmp l=true)(hl:l.length<4611686018427387904):∃r,rW cmp l=some r:=by
 unfold rW;have h2:Nat.blt l.length 4611686018427387904=true:=cj9 hl;rw[h,h2];exact⟨_,Y⟩
theorem Db{gl:Gl}{P:Program}{g:FuncId}{m:bB}{T:Type}{l:List T}{enc:T->List V}{k:Nat}{w:World}{b off size:Nat}{cs:Array Value}{caps:List V}{cmp:T->T->Option Int}{α:Type}[Inhabited α](row:α->I7 l enc k m)(hek:∀x,(enc x).length=k)(hgl:fU gl m)
  (hcl:caps.length=cs.size) (hcr:∀(i:Nat) (c:V) (v:Value),caps[i]? = some c->cs[i]? = some v->bN m c v)
  (himm:∀(nd:Nat) (dk:Array α) (os:Array Obj) (b':Nat) (o:Obj),m b'=some o->(sortWorldK (fun a=>(row a).vs) k w b off nd dk os).heap[b']? = some o)
  (hcmp:∀x y c,cmp x y=some c->JG gl P g ([.agg (enc x),.agg (enc y)]++caps) c)
  (hd:∀x∈l,∀y∈l,(cmp x y).isSome=true):CmpLays P g cs (fun a=>(row a).vs) k (fun x y=>(cmp (row x).t (row y).t).getD 0) b off size w:=by
 intro nd os dk _ x0 y0;have hi:=himm nd dk os;generalize sortWorldK (fun a=>(row a).vs) k w b off nd dk os=W at hi;obtain⟨c,hc⟩:=Option.isSome_iff_exists.1 (hd (row x0).t (row x0).mem (row y0).t (row y0).mem);have hrelx:∀x:I7 l enc k m,bN m (.agg (enc x.t)) (.agg x.vs.toArray):=fun x=>.agg (by simp[hek,x.hl]) fun i c v h1 h2=>x.rel i c v h1 (by simpa using h2)
 have hrels:nA m ([.agg (enc (row x0).t),.agg (enc (row y0).t)]++caps) (#[.agg (row x0).vs.toArray,.agg (row y0).vs.toArray]++cs):=by
  refine⟨by simp[hcl];omega,fun i c' v' h1 h2=>?_⟩
  match i,h1,h2 with
  |0,h1,h2=>
   simp at h1;rw[Array.getElem?_append_left (by simp)] at h2;simp at h2;rw[<-h1,<-h2];exact hrelx (row x0)
  |1,h1,h2=>
   simp at h1;rw[Array.getElem?_append_left (by simp)] at h2;simp at h2;rw[<-h1,<-h2];exact hrelx (row y0)
  |i+2,h1,h2=>
   refine hcr i c' v' (by simpa using h1) ?_;rw[aw8 (by simp)] at h2
   simpa using h2
 refine Calls.mono (hcmp (row x0).t (row y0).t c hc m W _ hi hgl hrels) ?_
 rintro ex w' ⟨rfl,hgr⟩
 refine⟨?_,hgr⟩
 show Ending.returned (.int .i64 c)=.returned (.int .i64 ((cmp (row x0).t (row y0).t).getD 0))
 rw[hc];rfl
set_option maxHeartbeats 1000000 in
theorem uR{gl:Gl}{P:Program}{f g:FuncId}{kk id:Nat}{hp:aC}{e:TypeId}{k:Nat}{T:Type}(enc:T->List V)(hek:∀x,(enc x).length=k)(hei:∀x,cv (enc x))(caps:List V)(hci:cv caps)(cmp:T->T->Option Int)(l r:List T)
  (hid:ak hp id=.arr e k (l.map enc)) (hr:rW cmp l=some r)
  (hcmp:∀x y c,cmp x y=some c->JG gl P g ([.agg (enc x),.agg (enc y)]++caps) c)
  (h:∀{α:Type} [Inhabited α] (qJ:α->List Value) (_:∀x,(qJ x).length=k) (_:∀x,∀v∈qJ x,v.oneCell'=true) (cf:α->α->Int) (_:SWO (ltOf cf)) (cb:Array Value) (blk off cap:Nat) (d:Array α) (w:World) (_:CmpLays P g cb qJ k cf blk off d.size w) (_:HoldsK qJ k w blk off d) (_:blk<w.heap.size) (_:d.size<4611686018427387904),
   Calls P f #[.slice (some ⟨blk,off,none⟩) d.size cap,.func (.func g) #[] cb] w fun e w'=>e=.returned (.tuple #[])/\∃n os,w'=sortWorldK qJ k w blk off n (pdq (ltOf cf) d 0 d.size (Lib.bitLen d.size) true true) os)
  (hn:∀(p:Option Addr) (cap:Nat) (fv:Value) (w:World),Calls P f #[.slice p 0 cap,fv] w fun e w'=>e=.returned (.tuple #[])/\w'=w):
  fV gl P f [.own id l.length,.fn (.func g) [] caps] kk hp (.tup []) kk ((id,.arr e k (r.map enc))::hp):=by
 intro m β w vs himm hgl hargs hown hpriv hinj hhid hnx
 obtain⟨v,u,rfl⟩:∃v u,vs=#[v,u]:=by
  have:=hargs.len;simp at this;refine⟨vs[0],vs[1],?_⟩;apply Array.ext
  ·simp[<-this]
  ·intro i h1 h2;have:i=0\/i=1:=by simp at h2;omega
   rcases this with rfl|rfl<;>simp
 have hv:=hargs.at' 0 _ _ rfl rfl;have hu:=hargs.at' 1 _ _ rfl rfl;have hob:=hown id;rw[hid] at hob;obtain⟨hswo,hlen,hrd⟩:=rV hr;have hrl:r.length=l.length:=(pm hr).length_eq;have hswo':=vS hswo;have hg:∀q,ak ((id,Ob.arr e k (r.map enc))::hp) q=if id=q then Ob.arr e k (r.map enc) else ak hp q:=fun q=>av _ _ _ _
 have hlive:∀q,ak ((id,Ob.arr e k (r.map enc))::hp) q≠.dead->ak hp q≠.dead:=fun q hq=>by
  rw[hg] at hq;split at hq
  ·rename_i hh;subst hh;rw[hid];simp
  ·exact hq
 have hhids:∀(w':World),w.heap.size<=w'.heap.size->∀q x,ak ((id,Ob.arr e k (r.map enc))::hp) q≠.dead->β.hid q x->x<w'.heap.size/\m x=none/\(x<w.heap.size->¬c8 hp β x)/\
   (∀i b c,ak ((id,Ob.arr e k (r.map enc))::hp) i≠.dead->β i=some (some (b,c))->x≠b)/\∀i,ak ((id,Ob.arr e k (r.map enc))::hp) i≠.dead->β.hid i x->i=q:=by
  intro w' hs q x hq hx;obtain⟨q1,q2,q3,q4⟩:=hhid q x (hlive q hq) hx;exact⟨by omega,q2,fun _ hF=>(hF q (hlive q hq)).2 hx,fun i b c hi=>q3 i b c (hlive i hi),fun i hi=>q4 i (hlive i hi)⟩
 obtain⟨cs,rfl,hcl,hcr⟩:∃cs:Array Value,u=.func (.func g) #[] cs/\caps.length=cs.size/\∀(i:Nat) (c:V) (v:Value),caps[i]? = some c->cs[i]? = some v->bN m c v:=by
  cases hu with
  |imm h'=>
   cases h' with
   | @fn _ _ _ fs cs hl hl' hf hc=>
    have:fs=#[]:=Array.eq_empty_of_size_eq_zero (by simpa using hl.symm);subst this;exact⟨cs,Y,hl',hc⟩
  | @fn _ _ _ fs cs hl hl' hf hc=>
   have:fs=#[]:=Array.eq_empty_of_size_eq_zero (by simpa using hl.symm);subst this;exact⟨cs,Y,hl',fun i c v h1 h2=>(hci c (ay9 h1)).2 _ _ _ (hc i c v h1 h2)⟩
 by_cases hnil:l=[]
 ·subst hnil;have hrn:r=[]:=ay8.1 hrl;subst hrn
  obtain⟨p,c,rfl⟩:∃p c,v=.slice p 0 c:=by
   cases hv with
   |imm h'=>cases h'
   |ownNil hb=>exact⟨_,_,rfl⟩
   |own hb=>exact⟨_,_,rfl⟩
  refine(hn p c _ w).mono ?_
  rintro ex w' ⟨rfl,rfl⟩
  have hsm:∀q,ak ((id,Ob.arr e k (([]:List T).map enc))::hp) q=ak hp q:=fun q=>by
   rw[hg];split
   ·rename_i hh;subst hh;rw[hid]
   ·rfl
  refine⟨_,m,β,Y,.tup Y (by simp),bB.le_refl _,himm,fun b hb _=>⟨Y,Y⟩,ae9 _,⟨Y,Y,Y,trivial⟩,fun q=>?_,fun q b cap hq hbq=>?_,fun q q' b cap cap' hq hq'=>hinj q q' b cap cap' (hlive q hq) (hlive q' hq'),hhids w' (ae9 _),hnx,fun q hq=>⟨hq,Y⟩⟩
  ·rw[hsm];exact hown q
  ·have hq:=hlive q hq;exact⟨hpriv q b cap hq hbq,fun _ hF=>(hF q hq).1 cap hbq⟩
 generalize hnl:l.length=n at hv;cases hv with
 |imm h'=>cases h'
 | @ownNil _ ad hb=>exact absurd (ay8.1 hnl) hnil
 | @own _ _ b cap hb=>
 rw[hb] at hob;obtain⟨arr,bl,o1,o2,o3,o4,o5,oB,o6⟩:=hob;have hbs:b<w.heap.size:=bD o1;have o3':l.length<=cap.n:=by simpa using o3
 have hlid:ak hp id≠.dead:=by rw[hid];simp
 have hmb:m b=none:=hpriv id b cap hlid hb
 have hcell:∀(i:Nat) (hi:i<l.length) (j:Nat) (c:V),(enc l[i])[j]? = some c->∃v,arr[cap.off+(i*k+j)]? = some v/\bN m c v/\v.oneCell'=true:=fun i hi j c hc=>by
  obtain⟨v,v1,v2,v3⟩:=o6 i j (enc l[i]) c (by simp[az9 hi]) hc;have hI:=hei l[i] c (ay9 hc);exact⟨v,v1,hI.2 _ _ _ (v2.v hI.1),v3⟩
 have hrow:∀i:Fin l.length,∃x:I7 l enc k m,x.t=l[i.1]/\∀j,j<k->arr[cap.off+(i.1*k+j)]? = x.vs[j]?:=fun i=>by
  have ak:∀j,j<k->∃c v,(enc l[i.1])[j]? = some c/\arr[cap.off+(i.1*k+j)]? = some v/\bN m c v/\v.oneCell'=true:=fun j hj=>by
   have hj':j<(enc l[i.1]).length:=by rw[hek];exact hj
   obtain⟨v,hv⟩:=hcell i.1 i.2 j _ (az9 hj');exact⟨_,v,az9 hj',hv⟩
  have hvs:∀j,j<k->((List.range k).map fun j=>arr[cap.off+(i.1*k+j)]!)[j]? = arr[cap.off+(i.1*k+j)]?:=fun j hj=>by
   obtain⟨c,v,h1,h2,h3⟩:=ak j hj;rw[az8,ba9 hj,ba8,h2];have hlt:=(bb9.1 h2).1;rw[getElem!_pos arr _ hlt];rw[bb8 hlt] at h2;exact h2
  refine⟨⟨l[i.1],bc9 _,(List.range k).map fun j=>arr[cap.off+(i.1*k+j)]!,by simp,fun v hv=>?_,fun j c v hc hv=>?_⟩,Y,fun j hj=>(hvs j hj).symm⟩
  ·obtain⟨j,hj⟩:=bc8 hv;have hjk:j<k:=by have:=(bd9.1 hj).1;simpa using this
   obtain⟨c,v',h1,h2,h3,h4⟩:=ak j hjk;rw[hvs j hjk,h2] at hj;cases hj;exact h4
  ·have hjk:j<k:=by have:=(bd9.1 hv).1;simpa using this
   obtain⟨c',v',h1,h2,h3,h4⟩:=ak j hjk;rw[hvs j hjk,h2] at hv;cases hv;rw[h1] at hc;cases hc;exact h3
 obtain⟨row,hrow⟩:∃row:Fin l.length->I7 l enc k m,∀i,(row i).t=l[i.1]/\∀j,j<k->arr[cap.off+(i.1*k+j)]? = (row i).vs[j]?:=⟨fun i=>(hrow i).choose,fun i=>(hrow i).choose_spec⟩
 letI:Inhabited (Fin l.length):=⟨⟨0,bd8.2 hnil⟩⟩
 obtain⟨d,hd⟩:∃d:Array (Fin l.length),d=lK l.length:=⟨_,rfl⟩;have hds:d.size=n:=by rw[hd,<-hnl];exact j6
 have hdi:∀i (hi:i<l.length),d[i]! = ⟨i,hi⟩:=fun i hi=>by rw[hd];exact F7 hi
 have hrt:∀i:Fin l.length,(row i).t=l[i.1]:=fun i=>(hrow i).1
 have hlt:∀x y:Fin l.length,ltOf (fun x y:Fin l.length=>(cmp (row x).t (row y).t).getD 0) x y=gN cmp l[x.1] l[y.1]:=fun x y=>by
  have:=((hswo' l[x.1] (bc9 _)).2 l[y.1] (bc9 _)).1
  show decide ((cmp (row x).t (row y).t).getD 0<0)=_
  rw[hrt,hrt];unfold gN;cases hc:cmp l[x.1] l[y.1] with
  |none=>rw[hc] at this;simp at this
  |some c=>rfl
 have hcf:(fun x y:Fin l.length=>(cmp (row x).t (row y).t).getD 0)=J5 cmp l:=by
  funext x y;rw[hrt,hrt];rfl
 have hSW:SWO (ltOf (fun x y:Fin l.length=>(cmp (row x).t (row y).t).getD 0)):=by
  rw[hcf];exact Bu hswo
 have hheap:∀(nd:Nat) (dk:Array (Fin l.length)) (os:Array Obj) (b':Nat),b'<w.heap.size->(sortWorldK (fun a=>(row a).vs) k w b cap.off nd dk os).heap[b']? = if b=b' then (w.heap[b']?).map (onCells (putCells _root_.id cap.off (flatK (fun a=>(row a).vs) k dk))) else w.heap[b']?:=fun nd dk os b' hb'=>jh _root_.id w nd b cap.off (flatK (fun a=>(row a).vs) k dk) os b' hb';have hother:∀(nd:Nat) (dk:Array (Fin l.length)) (os:Array Obj) (b':Nat),b'<w.heap.size->b'≠b->(sortWorldK (fun a=>(row a).vs) k w b cap.off nd dk os).heap[b']? = w.heap[b']?:=fun nd dk os b' h1 h2=>by rw[hheap nd dk os b' h1,if_neg (Ne.symm h2)]
 have himm':∀(nd:Nat) (dk:Array (Fin l.length)) (os:Array Obj) (b':Nat) (o:Obj),m b'=some o->(sortWorldK (fun a=>(row a).vs) k w b cap.off nd dk os).heap[b']? = some o:=fun nd dk os b' o hb'=>by
  have hne:b'≠b:=fun e=>by rw[e,hmb] at hb';simp at hb'
  rw[hother nd dk os b' (bD (himm b' o hb')) hne];exact himm b' o hb'
 have hC:=Db (row:=row) (size:=d.size) (w:=w) (b:=b) (off:=cap.off) hek hgl hcl hcr himm' hcmp fun x hx y hy=>((hswo' x hx).2 y hy).1
 have hH:HoldsK (fun a=>(row a).vs) k w b cap.off d:=by
  intro j hj;have hjd:j<d.size*k:=by simpa using hj
  have hk0:0<k:=by
   rcases Nat.eq_zero_or_pos k with h0|h0
   ·rw[show d.size*k=0 from by rw[Nat.mul_eq_zero];exact .inr h0] at hjd;omega
   ·exact h0
  have hi:j / k<l.length:=by rw[hnl,<-hds];exact be9 (by rw[ao9];exact hjd)
  have hjk:j % k<k:=an8 _ hk0;refine⟨?_,by simp[World.frozen?,o1]⟩;rw[get_flatK (fun a=>(row a).vs) k d j hjd,hdi _ hi,bW o1];have h2:=(hrow ⟨j / k,hi⟩).2 (j % k) hjk;have e1:j / k*k+j % k=j:=by rw[ao9];exact ao8 j k
  simp only[e1] at h2;rw[h2];have hlt2:j % k<(row ⟨j / k,hi⟩).vs.length:=by rw[(row ⟨j / k,hi⟩).hl];exact hjk
  rw[az9 hlt2]
  show _=some ((row ⟨j / k,hi⟩).vs[j % k]!)
  rw[getElem!_pos (row ⟨j / k,hi⟩).vs (j % k) hlt2]
 have hcall:=h (fun a=>(row a).vs) (fun x=>(row x).hl) (fun x=>(row x).h1) _ hSW cs b cap.off cap.n d w hC hH hbs (by rw[hds,<-hnl];exact hlen);rw[hds] at hcall;refine hcall.mono ?_
 rintro ex w' ⟨rfl,nd,os,hw⟩
 subst hnl;subst hd;rw[hcf] at hw
 obtain⟨d',hd',hd't⟩:∃d':Array (Fin l.length),pdq (ltOf (J5 cmp l)) (lK l.length) 0 l.length (Lib.bitLen l.length) true true=d'/\d'.toList.map (fun i=>l[i.1])=r:=
  ⟨_,rfl,(hrd (bd8.2 hnil)).symm⟩
 rw[hd'] at hw;subst hw
 have hd's:d'.size=l.length:=by
  have:=congrArg List.length hd't;simp at this;rw[this,hrl]
 have hsz:w.heap.size<=(sortWorldK (fun a=>(row a).vs) k w b cap.off nd d' os).heap.size:=by simp[sortWorldK,putRowK,grow,putRow,mapBlock,Sort.ahead]
 refine⟨_,m,β,Y,.tup Y (by simp),bB.le_refl _,himm' nd d' os,fun b' hb' hF=>⟨Y,hother nd d' os b' hb' (fun e=>?_)⟩,hsz,⟨Y,Y,Y,trivial⟩,fun q=>?_,fun q b' cap' hq hbq=>?_,fun q q' b1 cap1 cap2 hq hq'=>hinj q q' b1 cap1 cap2 (hlive q hq) (hlive q' hq'),hhids _ hsz,hnx,fun q hq=>⟨hq,Y⟩⟩
 ·subst e;exact(hF id hlid).1 cap hb
 ·rw[hg];split
  ·rename_i hh;subst hh;rw[hb];refine⟨putCells _root_.id cap.off (flatK (fun a=>(row a).vs) k d') arr,bl,by rw[hheap nd d' os b hbs,if_pos rfl,o1];rfl,by simp[putCells,o2],by simpa[hrl] using o3,o4,?_,oB,fun i j rw' c hr' hc=>?_⟩
   ·intro rw' hr';obtain⟨x,_,rfl⟩:=bf9.1 hr';exact hek x
   ·rw[<-hd't,bf8,az8,ae8] at hr';cases hx:d'[i]? with
    |none=>rw[hx] at hr';simp at hr'
    |some x0=>
     rw[hx] at hr';simp at hr';subst hr';rw[<-hrt x0] at hc;have hi:i<d'.size:=(bb9.1 hx).1;have hjk:j<k:=by have:=(bd9.1 hc).1;rwa [hek] at this
     have hjv:j<(row x0).vs.length:=by rw[(row x0).hl];exact hjk
     have hij:i*k+j<d'.size*k:=by
      have:=bg9 k (show i+1<=d'.size from hi);rw[Nat.succ_mul] at this;omega
     have ha:cap.off+(i*k+j)<arr.size:=by
      rw[o2];have:=bg9 k (show d'.size<=cap.n by rw[hd's];exact o3');omega
     have e1:(i*k+j) / k=i:=by
      rw[ao9,Nat.mul_add_div (by omega),Nat.div_eq_of_lt hjk,bg8]
     have e2:(i*k+j) % k=j:=by rw[ao9,Nat.mul_add_mod,Nat.mod_eq_of_lt hjk]
     refine⟨(row x0).vs[j],?_,.inl (.imm ((row x0).rel j c _ hc (az9 hjv))),(row x0).h1 _ (bc9 _)⟩;unfold putCells;rw[Array.getElem?_mapIdx,bb8 ha,ba8,if_pos ⟨be8 _ _,by rw[size_flatK];omega⟩,Nat.add_sub_cancel_left,get_flatK (fun a=>(row a).vs) k d' _ hij,e1,e2]
     have hx2:d'[i]! = x0:=by
      rw[getElem!_pos d' i hi];rw[bb8 hi] at hx;exact ah8 hx
     rw[hx2]
     show some (((row x0).vs)[j]!)=_
     rw[getElem!_pos (row x0).vs j hjv]
  ·rename_i hne;by_cases hd:ak hp q=.dead
   ·rw[hd];exact bn.dead' _
   ·refine bn.congr (fun b' cap' hbb=>hother nd d' os b' (eL hd hbb (hown q)) (fun e=>?_)) (fun x hx=>hother nd d' os x (hhid q x hd hx).1 ((hhid q x hd hx).2.2.1 id b cap hlid hb)) (hown q);subst e;exact hne (hinj id q b' cap cap' hlid hd hb hbb)
 ·have hq:=hlive q hq;exact⟨hpriv q b' cap' hq hbq,fun _ hF=>(hF q hq).1 cap' hbq⟩
end Go.Pv
namespace Go.Pv
open Go
section
variable{K:cR}{Q:ca}{S:St}
variable{ops:Array Oper}{rest:List Oper}{ty:TypeId}{pos:String}{after:Array Edge}{g:Option (Nat×Bool)}
def qJ{α:Type}(e k:Nat)(enc:α->List V)(r:List α):List V:=[.dsl e k (r.map enc)]
theorem set_set{α:Type}(l:List α)(i:Nat)(a b:α):(l.set i a).set i b=l.set i b:=by
 induction l generalizing i with
 |nil=>rfl
 |cons x l ih=>cases i with
  |zero=>rfl
  |succ i=>simp[ih]
theorem C1{env:cc}{hp:aC}(hp':aC){nx:Nat}(h:∀q,ak hp' q=ak hp q):aY K ⟨env,hp,nx⟩ ⟨env,hp',nx⟩:=fun m β w a r=>⟨m,β,r.congr (fun _=>rfl) h rfl⟩
theorem mK{i:Nat}{b:Ob}{hp:aC}:ak ((i,b)::hp) i=b:=by simp_all[av]
instance {α:Type} {e k:Nat} {enc:α->List V}:EK (qJ e k enc):=⟨fun x c hc=>by
 simp_all[qJ,dC.dsl]⟩
end
theorem zX{gl:Gl}{P:Program}{f:FuncId}{args args':List V}{d:V}{k:Nat}(i:Nat)(h1:args'[i]? = some (.con (.slice none 0 0)))(h2:args=args'.set i (.lst k []))(h:dY gl P f args d):dY gl P f args' d:=fun m w vs hm hg ha=>by
 subst h2;refine h m w vs hm hg ⟨by simpa using ha.1,fun j c v hc hv=>?_⟩;rw[bl9] at hc;by_cases e:i=j
 ·subst e;have hi:=(bd9.1 h1).1;rw[if_pos rfl,if_pos hi] at hc;cases hc;have:=ha.2 i _ v h1 hv;cases this;exact .nil _ _ _
 ·rw[if_neg e] at hc;exact ha.2 j c v hc hv
section
variable{K:cR}{Q:ca}{S:St}
variable{ops:Array Oper}{rest:List Oper}{ty:TypeId}{pos:String}{after:Array Edge}{g:Option (Nat×Bool)}
def Do(a b:List V):Prop:=a.length=b.length/\∀(j:Nat) (c c':V),a[j]? = some c->b[j]? = some c'->um c c'/\dC c
def Oa{α:Type}(D E:α->List V):Prop:=∀x,Do (D x) (E x)
theorem Do.nil:Do [] []:=⟨rfl,fun j c c' h=>by simp at h⟩
theorem Do.cons{c c':V}{l l':List V}(h:um c c'/\dC c)(r:Do l l'):Do (c::l) (c'::l'):=⟨by simp[r.1],fun j x x' h1 h2=>by
 cases j with
 |zero=>grind
 |succ j=>exact r.2 j x x' (by grind) (by grind)⟩
theorem rf(v:Value):um (.con v) (.con v)/\dC (.con v):=⟨.imm rfl,(aw.con v).2⟩
theorem vA{α:Type}(e k:Nat){enc:α->List V}(hi:∀x,cv (enc x))(l:List α):um (.dsl e k (l.map enc)) (.lst k (l.map enc))/\dC (.dsl e k (l.map enc)):=⟨xK hi l,dC.dsl _ _ _⟩
end
end Go.Pv
