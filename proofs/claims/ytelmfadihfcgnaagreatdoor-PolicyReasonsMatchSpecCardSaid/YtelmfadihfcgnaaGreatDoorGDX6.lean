/- Part of the proof. -/
import Derived.Test.YtelmfadihfcgnaaGreatDoorGDN
import Derived.Test.YtelmfadihfcgnaaGreatDoorGWA
import Derived.Maps.RangeRun
import Derived.Lib.SlicesCompact
import Derived.Shelf.Small.Strs
set_option linter.unusedSimpArgs false
set_option linter.unusedVariables false
namespace Go.Pv
open Go
section
variable{K:cS}{Q:bX}{S:St}
variable{m:bA}{β:aZ}{w:World}{a:Act}
variable{ops:Array Oper}{rest:List Oper}{ty:TypeId}{pos:String}{after:Array Edge}{g:Option (Nat×Bool)}
theorem lH(id:Nat){es:List (Value×V)}(es':List (Value×V))(env:bY)(hp:aD)(ho:ao S.hp id=.map es)(hl:es.length=es'.length)
  (hk:∀(i:Nat) (p p':Value×V),es[i]? = some p->es'[i]? = some p'->p.1=p'.1/\tV p.2 p'.2/\dE p.2)
  (henv:∀t,ak (pL id es') (get env t) (get S.env t)) (hhp:∀i,ag (pL id es') (ao hp i) (ao S.hp i)) (hd:ao hp id=.dead):aV K S ⟨env,hp,S.nx⟩:=by
 intro m β w a r;have hlid:ao S.hp id≠.dead:=by rw[ho];simp
 obtain⟨b,cap,hb⟩:=mA r ho;have hown:=r.own id;rw[ho,hb] at hown;obtain⟨ents,clock,bl,h1,h2,hBl,h6⟩:=hown;have hp':=r.priv id b cap hlid hb
 have key:∃m',(∀b o,m' b=some o->w.heap[b]? = some o)/\pL id es' m β m' β/\(∀b',m' b'=m b'\/(∃cap,β id=some (some (b',cap)))\/β.hid id b'):=by
  classical
  let m':bA:=fun b'=>if b'=b\/β.hid id b' then w.heap[b']? else m b'
  have hmb:∀x,(x=b\/β.hid id x)->m' x=w.heap[x]?:=fun x h=>by grind
  have hmo:∀x,¬(x=b\/β.hid id x)->m' x=m x:=fun x h=>by grind
  have hle:m.le m':=by
   intro b' o h;rw[hmo]
   ·exact h
   ·rintro(e'|e')
    ·grind
    ·rw[(r.hid id b' hlid e').m] at h;simp at h
  refine⟨m',?_,⟨hle,Y,?_⟩,?_⟩
  ·intro b' o h;by_cases hbb:b'=b\/β.hid id b'
   ·grind
   ·rw[hmo b' hbb] at h;exact r.imm _ _ h
  ·intro x hx;cases hx with
   |imm h=>cases h
   | @map _ b2 cap2 h=>
    rw[hb] at h;simp only[av8,Prod.mk.injEq] at h;obtain⟨rfl,rfl⟩:=h;refine .imap (by rw[hmb b (.inl Y)];exact h1) (by omega) (fun i p e hi he=>?_) (fun i p e hi he=>?_)
    ·grind
    ·have hlt:i<es.length:=by rw[hl];exact(bb8.1 hi).1
     obtain⟨u1,u2,u3⟩:=hk i _ p (ax8 hlt) hi;have hd:gp m w (bl i) es[i].2 e.val:=(h6 i _ e (ax8 hlt) he).2.elim (fun h=>.imm (u3 _ _ _ h)) (fun h=>h);exact hd.und hle p.2 u2 (fun x hx=>hmb x (.inr (hBl.1 _ x hx)))
  grind
 obtain⟨m',k1,hy,k2⟩:=key
 have hlive:∀i,ao hp i≠.dead->ao S.hp i≠.dead/\i≠id:=by
  intro i h;have h2:=hhp i;refine⟨fun hdd=>?_,fun he=>h (by grind)⟩;rw[hdd] at h2;cases ho':ao hp i with
  |dead=>exact h ho'
  |arr=>simp_all[ag]
  |res=>simp_all[ag]
  |map=>simp_all[ag]
  |iter=>simp_all[ag]
  |bld=>simp_all[ag]
 refine⟨m',β,?_⟩;constructor
 ·exact k1
 ·exact bA.le_trans r.ext hy.1
 ·intro b hb' hold;rcases k2 b with h|⟨cap2,h⟩|h
  ·rw[h];exact r.mold b hb' hold
  ·grind
  ·exact absurd hold ((r.hid id b hlid h).old hb')
 ·exact r.frame
 ·exact r.size
 ·exact r.same
 ·exact r.tn
 ·exact r.df.mono hy.1
 ·exact fun t=>henv t _ _ _ _ _ hy (r.env t)
 ·intro i;exact(hhp i).ok hy (r.own i)
 ·intro i b cap hl hb';obtain⟨h1,h2⟩:=hlive i hl;have hp':=r.priv i b cap h1 hb';refine⟨?_,hp'.2⟩;rcases k2 b with h|⟨cap',h⟩|h
  ·grind
  ·exact absurd (r.inj i id b cap cap' h1 hlid hb' h) h2
  ·exact absurd Y ((r.hid id b hlid h).ne i b cap h1 hb')
 ·intro i i' b cap cap' hl hl';exact r.inj i i' b cap cap' (hlive i hl).1 (hlive i' hl').1
 ·intro i x hl hx;obtain⟨h1,h2⟩:=hlive i hl;have h:=r.hid i x h1 hx;refine⟨h.lt,?_,h.old,fun i' b c hi'=>h.ne i' b c (hlive i' hi').1,fun i' hi'=>h.un i' (hlive i' hi').1⟩;rcases k2 x with h'|⟨cap',h'⟩|h'
  ·rw[h'];exact h.m
  ·exact absurd Y (h.ne id x cap' hlid h')
  ·exact absurd (h.un id hlid h') (Ne.symm h2)
 ·exact r.nx
 ·exact r.pin
theorem oN(id0 nx':Nat)(hfr:∀m β w a,bQ K m β w a S->β id0=none/\∀q,q<K.pins->q≠id0)(hlt0:id0<nx')(hle0:S.nx<=nx'){d:Nat}{T k e e' k' id:Nat}{x y:Operand}{good:Value->Prop}{kv:Value}{es es':List (Value×V)}{rws:List (List V)}(hT:ef K.P T k e=true)(hK:iY K.P k good)
  (hz:(K.P.info? e).bind (·.zero)=some (.slice none 0 0))
  (hw:aT ops S ⟨some d,.lookup T x y false,ty,pos,after,g⟩ true) (hx:evl K S x=.map id) (ho:ao S.hp id=.map es) (hy:eY K S y kv) (hg:good kv) (hges:∀p,p∈es->good p.1)
  (hl:oW kv id0 e' k' es es' rws) (hN:Nat.blt d K.N=true)
  (kk:ax K ops rest Q ⟨(d,.own id0 rws.length)::S.env,(id,.map es')::(id0,.arr e' k' rws)::S.hp,nx'⟩):ax K ops (⟨some d,.lookup T x y false,ty,pos,after,g⟩::rest) Q S:=by
 refine cg hw (fun m β w a r=>?_) kk;have h:=r.reads x;rw[hx] at h;obtain⟨b,ents,clock,e1,⟨E,e2,eP,eW⟩,e3,e4⟩:=(oT.own ho).read r h;have hobj:(getObj b).run K.P w=.ok (.map E clock) w:=by simp[getObj,Sem.run,e2]
 have hzr:(zeroValue e).run K.P w=.ok (.slice none 0 0) w:=by
  cases hi:K.P.info? e with
  |none=>grind
  |some i=>
   simp_all[zeroValue,run_typeInfo]
 have hbloc:=mA r ho;have hidn:id≠id0:=fun h=>by grind
 have hswap:∀(m':bA) (β':aZ) (o1 o2:Ob) (n:Nat),bQ K m' β' w a ⟨S.env,(id0,o2)::(id,o1)::S.hp,n⟩->bQ K m' β' w a ⟨S.env,(id,o1)::(id0,o2)::S.hp,n⟩:=by
  intro m' β' o1 o2 n rr;refine rr.congr (fun _=>Y) (fun t=>?_) Y
  show ao ((id,o1)::(id0,o2)::S.hp) t=ao ((id0,o2)::(id,o1)::S.hp) t
  rw[av,av,av,av];by_cases h1:id=t<;>by_cases h2:id0=t
  ·grind
  ·grind
  ·grind
  ·grind
 rcases hl.cases with ⟨h1,h2,h3⟩|⟨i,h1,h2,h3⟩
 ·subst h1 h2;rcases su hK hg e3 (fun i p e a b=>(e4 i p e a b).1) hges eP eW (w:=w) with ⟨a1,a2,_⟩|⟨j,p,en,jE,a1,a2,a3,a4,a5,aE⟩
  ·obtain⟨β',hle,hβ,r3⟩:=r.adopt id0 nx' (hfr m β w a r).1 (hfr m β w a r).2 hlt0 hle0 none (.arr e' k' []) (fun b c hb=>by simp at hb) (fun _ _=>rfl)
   have r4:bQ K m β' w a ⟨S.env,(id,.map es')::(id0,.arr e' k' [])::S.hp,nx'⟩:=by
    refine r3.congr (fun _=>Y) (fun t=>?_) Y
    show ao ((id,.map es')::(id0,.arr e' k' [])::S.hp) t=ao ((id0,.arr e' k' [])::S.hp) t
    rw[av];split
    ·simp_all[av,Ne.symm]
    ·rfl
   refine⟨_,w,m,β',.inl ?_,r4.put hN (.ownNil (ad:=none) hβ)⟩;simp only[execOp,e1,hy.read r];refine bi ?_;simp only[Instr.lookup,Sem.run_bind,run_underlying (cU hT),Result.andThen_ok,hobj,pure,Sem.run,hK.check _ w kv hg,a1,hzr];rfl
  grind
 ·obtain⟨m',β',r2⟩:=r.takeM id i id0 nx' (hfr m β w a r).1 (hfr m β w a r).2 hlt0 hle0 ho h1 (show zg (.dsl e' k' rws) id0=_ from rfl);rw[<-h2] at r2
  have hx2:bn m' β' (.map id) (a.eval x):=by
   have:=(r2.reads x);exact(show evl K ⟨S.env,(id,.map es')::(id0,.arr e' k' rws)::S.hp,nx'⟩ x=.map id by cases x<;>exact hx) ▸ this
  obtain⟨b2,ents2,clock2,f1,⟨E2,f2,fP,fW⟩,f3,f4⟩:=(oT.own (S:=⟨S.env,(id,.map es')::(id0,.arr e' k' rws)::S.hp,nx'⟩) (id:=id) (es:=es') (by simp[av])).read r2 hx2
  have hges':∀p,p∈es'->good p.1:=by
   intro p hp;rw[h2] at hp;rcases List.mem_or_eq_of_mem_set hp with h|h
   ·grind
   ·grind
  have hobj2:(getObj b2).run K.P w=.ok (.map E2 clock2) w:=by simp[getObj,Sem.run,f2]
  rcases su hK hg f3 (fun i p e a b=>(f4 i p e a b).1) hges' fP fW (w:=w) with ⟨a1,a2,_⟩|⟨j,p,en,jE,a1,a2,a3,a4,a5,aE⟩
  ·have:=h3.none_of a2;grind
  ·have hp:p=(kv,p.2):=by rw[<-a4]
   rw[hp] at a3;have hr:=h3.some_of j p.2 a3 a5;simp only[av8] at hr;refine⟨en.val,w,m',β',.inl ?_,r2.put hN ?_⟩
   ·simp only[execOp,f1,hy.read r];refine bi ?_;simp only[Instr.lookup,Sem.run_bind,run_underlying (cU hT),Result.andThen_ok,hobj2,pure,Sem.run,hK.check _ w kv hg,a1];rfl
   ·rw[hr];exact(f4 j _ en a3 a2).2 (by rw[<-hr];rfl)
theorem lQ{T k e id2:Nat}{x y z:Operand}{good:Value->Prop}{kv:Value}{id:Nat}{es:List (Value×V)}{dv o:V}{ob:Ob}(es3:List (Value×V))(hT:ef K.P T k e=true)(hK:iY K.P k good)
  (hw:aT ops S ⟨none,.mapUpdate T x y z,ty,pos,after,g⟩ true) (hx:evl K S x=.map id) (ho:ao S.hp id=.map es) (hy:eY K S y kv) (hg:good kv) (hges:∀p,p∈es->good p.1) (hz:evl K S z=o)
  (hov:zg dv id2=some (o,ob)) (ho2:ao S.hp id2=ob) (hne:Nat.beq id id2=false) (hkp:BT ob)
  (hp:g8 kv dv es es3) (kk:ax K ops rest Q ⟨S.env,(id,.map es3)::(id2,.dead)::S.hp,S.nx⟩):ax K ops (⟨none,.mapUpdate T x y z,ty,pos,after,g⟩::rest) Q S:=by
 obtain⟨es2,i,h1,h2,h3⟩:=hp.other o;have hne:id≠id2:=fun h=>by simp_all
 refine cJ es2 hT hK hw hx ho hy hg hges hz h1 (bz (S':=⟨S.env,(id,.map (es2.set i (kv,dv)))::(id2,.dead)::(id,.map es2)::S.hp,S.nx⟩) (si id i id2 (S:=⟨S.env,(id,.map es2)::S.hp,S.nx⟩) (by simp[av]) h2 hov (by simp_all[av]) hne hkp) ?_);rw[<-h3];refine bz (yk (S':=⟨S.env,(id,.map es3)::(id2,.dead)::S.hp,S.nx⟩) (fun _=>Y) (fun t=>?_) Y) kk
 simp_all[av]
theorem wj(id id2:Nat){es:List (Value×V)}(es':List (Value×V))(ob:Ob)(ho:ao S.hp id=.map es)(hl:es.length=es'.length)
  (hk:∀(i:Nat) (p p':Value×V),es[i]? = some p->es'[i]? = some p'->p.1=p'.1/\tV p.2 p'.2/\dE p.2) (hob:ag (pL id es') ob (ao S.hp id2)):
  aV K S ⟨S.env,(id,.dead)::(id2,ob)::S.hp,S.nx⟩:=
 lH id es' _ _ ho hl hk (fun _=>ak.keepM) (fun i=>by
  rw[av];split
  ·trivial
  grind [av,ag.keep,ak.keepM]) (by simp[av])
theorem yj(id t:Nat){es:List (Value×V)}(es':List (Value×V))(ho:ao S.hp id=.map es)(hl:es.length=es'.length)
  (hk:∀(i:Nat) (p p':Value×V),es[i]? = some p->es'[i]? = some p'->p.1=p'.1/\tV p.2 p'.2/\dE p.2) (ht:get S.env t=.map id):
  aV K S ⟨(t,.imap es')::S.env,(id,.dead)::S.hp,S.nx⟩:=
 lH id es' _ _ ho hl hk (pq (fun _=>ak.keepM) (by grind [ak.frzM])) (fun i=>by rw[av];split<;>first|trivial|simp_all[ag.keep,ak.keepM]) (by simp[av])
end
variable{κ α β γ:Type}[DecidableEq κ]
theorem xu{e k:Nat}{enc:α->List V}(hi:∀x,cz (enc x))(l:List α):tV (.dsl e k (l.map enc)) (.lst k (l.map enc)):=
 .sl rfl (fun i r r' h h'=>by grind) (fun i j r r' c c' h h' hj hj'=>by
  rw[h] at h';simp at h';subst h';rw[hj] at hj';simp at hj';subst hj';rw[ay9,ad8] at h;obtain⟨x,_,rfl⟩:=h;exact .imm (hi x c (aw8 hj)).1)
theorem A3{τ:Type}{D E:τ->Value×V}(h:∀x,(D x).1=(E x).1/\tV (D x).2 (E x).2/\dE (D x).2)(l:List τ)(i:Nat)(p p':Value×V)(hp:(l.map D)[i]? = some p)(hp':(l.map E)[i]? = some p'):p.1=p'.1/\tV p.2 p'.2/\dE p.2:=by
 grind
theorem zI{e k:Nat}{enc:α->List V}(hi:∀x,cz (enc x))(l:List α):BT (.arr e k (l.map enc)):=fun r hr=>by
 obtain⟨x,_,rfl⟩:=bc9.1 hr;exact(hi x).keep
section
variable{K:cS}{Q:bX}{S:St}
end
def vH{τ:Type}(enc:τ->List V):Option τ->V
 |none=>.con (.pointer none)
 |some x=>.iptr (enc x) 0
theorem FG{τ:Type}{enc:τ->List V}:∀o:Option τ,aw (vH enc o)
 |none=>aw.con _
 |some _=>aw.iptr _ _
section
variable{K:cS}{Q:bX}{S:St}{s:List It}
variable{ops:Array Oper}{l:List Oper}
theorem sk{τ:Type}{enc:τ->List V}{o:Option τ}{x:τ}(t:Nat)(h:o=some x)(ht:get S.env t=vH enc o):aV K S ⟨(t,.iptr (enc x) 0)::S.env,S.hp,S.nx⟩:=by
 subst h;refine aV.env (S:=S) (fun q=>?_)
 show(bif Nat.beq t q then V.iptr (enc x) 0 else get S.env q)=get S.env q
 cases hq:Nat.beq t q
 ·rfl
 ·have:=cg9 hq;subst this;exact ht.symm
theorem opC{τ:Type}{enc:τ->List V}{o:Option τ}{x:τ}(t:Nat)(h:o=some x)(ht:oY S.env t=some (vH enc o)){c:Code}(k:WG K Q (.c c::s) ⟨(t,.iptr (enc x) 0)::S.env,S.hp,S.nx⟩):WG K Q (.c c::s) S:=
 ro (.inl ⟨_,rfl⟩) (sk t h (dN ht)) k
theorem opO{τ:Type}{enc:τ->List V}{o:Option τ}{x:τ}(t:Nat)(h:o=some x)(ht:oY S.env t=some (vH enc o))(k:WG K Q (.o ops l::s) ⟨(t,.iptr (enc x) 0)::S.env,S.hp,S.nx⟩):WG K Q (.o ops l::s) S:=
 ro (.inr ⟨_,_,rfl⟩) (sk t h (dN ht)) k
end
theorem sf{E:κ×List α->Value×V}{good:Value->Prop}(h:∀p,good (E p).1){nx:Nat}{k0:κ}:∀{xs:List (κ×List α)} (q:Value×V),q∈lF E nx k0 xs->good q.1
 |[],q,hq=>by simp[lF] at hq
 |p::xs,q,hq=>by
  simp only[lF] at hq;split at hq
  ·grind
  ·rcases aq8.1 hq with rfl|hq
   ·exact h p
   ·exact sf h q hq
section
variable{K:cS}{Q:bX}{S:St}
variable{ops:Array Oper}{rest:List Oper}{ty:TypeId}{pos:String}{after:Array Edge}{g:Option (Nat×Bool)}
theorem oM{d nx:Nat}{T k e e' k' id n:Nat}{x y:Operand}{good:Value->Prop}{kv:Value}{es es':List (Value×V)}{rws:List (List V)}(idn:Nat)(hid:(Nat.blt idn nx&&Nat.ble K.pins idn)=true)(hnxx:S.nx=nx)(hres:ao S.hp idn=.res)(hT:ef K.P T k e=true)(hK:iY K.P k good)
  (hz:(K.P.info? e).bind (·.zero)=some (.slice none 0 0))
  (hw:aT ops S ⟨some d,.lookup T x y false,ty,pos,after,g⟩ true) (hx:evl K S x=.map id) (ho:ao S.hp id=.map es) (hy:eY K S y kv) (hg:good kv) (hges:∀p,p∈es->good p.1)
  (hl:oW kv idn e' k' es es' rws) (hn:rws.length=n) (hN:Nat.blt d K.N=true)
  (kk:ax K ops rest Q ⟨(d,.own idn n)::S.env,(id,.map es')::(idn,.arr e' k' rws)::S.hp,S.nx⟩):ax K ops (⟨some d,.lookup T x y false,ty,pos,after,g⟩::rest) Q S:=by
 subst hn;exact oN idn S.nx (fun _ _ _ _ r=>⟨r.free hres,fun q hq=>by have:=aw9 (cg8.1 hid).2;omega⟩) (by simp_all) (ae9 _) hT hK hz hw hx ho hy hg hges hl hN kk
def qK(ts:List Nat)(v:V)(e:bY):bY:=match ts with|[]=>e|t::ts=>(t,v)::qK ts v e
theorem pO{Yo:Hy}{v v0:V}{env:bY}(hk:∀v,ak Yo v v)(h:ak Yo v v0):∀(ts:List Nat),(∀t,t∈ts->get env t=v0)->∀t',ak Yo (get (qK ts v env) t') (get env t')
 |[],_,t'=>hk _
 |t::ts,hh,t'=>by
  rw[qK,ci];split
  ·rename_i he;subst he;rw[hh t (by simp)];exact h
  ·exact pO hk h ts (fun q hq=>hh q (bv8 _ hq)) t'
theorem cj(id:Nat)(ts:List Nat){e k n:Nat}{rows:List (List V)}(ho:ao S.hp id=.arr e k rows)(hi:∀row,row∈rows->cz row)
  (ht:∀t,t∈ts->get S.env t=.own id n) (hn:n=rows.length):aV K S ⟨qK ts (.lst k rows) S.env,(id,.dead)::S.hp,S.nx⟩:=
 fJ id _ _ ho hi (pO (fun _=>ak.keep) (ak.frzAll hn) ts ht) wg (by simp[av])
inductive Zs:List V->List Value->Prop
 |nil:Zs [] []
 |con {v:Value} {cs:List V} {vs:List Value} (h:Zs cs vs):Zs (.con v::cs) (v::vs)
 |sl {k:Nat} {cs:List V} {vs:List Value} (h:Zs cs vs):Zs (.lst k []::cs) (.slice none 0 0::vs)
theorem Zs.ok{cs:List V}{vs:List Value}(h:Zs cs vs)(m:bA):cs.length=vs.length/\∀(i:Nat) c v,cs[i]? = some c->vs[i]? = some v->bT m c v:=by
 induction h with
 |nil=>grind
 |con h ih=>
  refine⟨by simp[ih.1],fun i c v a b=>?_⟩;cases i with
  |zero=>simp at a b;subst a;subst b;exact .con _
  |succ i=>grind
 |sl h ih=>
  refine⟨by simp[ih.1],fun i c v a b=>?_⟩;cases i with
  |zero=>simp at a b;subst a;subst b;exact .nil _ _ _
  |succ i=>grind
theorem mD{cs:List V}{vs:List Value}(h:Zs cs vs):∀m:bA,bT m (.agg cs) (.agg vs.toArray):=fun m=>
 .agg (by simpa using (h.ok m).1) (fun i c v a b=>(h.ok m).2 i c v a (by grind))
theorem Fe:∀{l:List V},cz l->uy l=true
 |[],_=>rfl
 |c::l,h=>by
  have h1:=(h c (by simp)).1;simp only[uy,h1];exact Fe (fun x hx=>h x (bv8 _ hx))
theorem Fc{rows:List (List V)}(h:∀row,row∈rows->cz row):∀row,row∈rows->uy row=true:=fun row hr=>Fe (h row hr)
end
end Go.Pv
namespace Go.Pv
open Go
open Go.ChangeMaps (setBlock)
section
variable{K:cS}{Q:bX}{S:St}
variable{m:bA}{β:aZ}{w:World}{a:Act}
variable{ops:Array Oper}{rest:List Oper}{ty:TypeId}{pos:String}{after:Array Edge}{g:Option (Nat×Bool)}
theorem zy{P:Program}{w w':World}{s:Sem Value}{v:Value}(h:s.run P w=.ok v w'):(do pure (Next.value (<-s)):Sem Next).run P w=.ok (.value v) w':=by
 simp_all
theorem sO{d T k e:Nat}{x:Operand}{es:List (Value×V)}(hT:ef K.P T k e=true)
  (hw:aT ops S ⟨some d,.range T x,ty,pos,after,g⟩ true) (hx:evl K S x=.imap es) (hN:Nat.blt d K.N=true)
  (kk:ax K ops rest Q ⟨(d,.ptr S.nx 1 0 0)::S.env,(S.nx,.iter [] es)::S.hp,S.nx+1⟩):ax K ops (⟨some d,.range T x,ty,pos,after,g⟩::rest) Q S:=by
 refine cg hw (fun m β w a r=>?_) kk;have h:=r.reads x;rw[hx] at h;generalize hv:a.eval x=v at h;cases h with
 |imm h=>
 cases h with
 | @imap _ bm ents clock hm hl hk h=>
 obtain⟨E,hE,hP,hW⟩:=hm;obtain⟨β',hle,hnx,r2⟩:=r.alloc (.mapIter (some bm) clock #[] clock) (.iter [] es) ⟨0,0⟩ _ rfl (fun β' hle=>⟨bm,#[],E,clock,ents.toList,rfl,by simp,hE,hW,by simpa[leftOf,br9.2] using hP,by grind,fun i p e hi he=>⟨hk i p e hi (by grind),h i p e hi (by grind)⟩,by simp⟩);refine⟨.pointer (some ⟨w.heap.size,0,none⟩),{ w with heap:=w.heap.push (.mapIter (some bm) clock #[] clock) },m,β',.inl ?_,bQ.put r2 hN (.ptr hnx)⟩;simp only[execOp,hv];exact zy (run_range_map w T k e bm E clock (cU hT) (r.imm _ _ hE))
theorem nE{o:Oper}{S':St}(r:bQ K m β w a S)(hw:aT ops S o true)
  (h:∃v w' m' β',((execOp a.eval o).run K.P w=.ok (.value v) w')/\bQ K m' β' w' (a.put o.dst v) S') (k:ax K ops rest Q S'):wpListIn K.fc 0 K.P ops (Q.at K) (o::rest) a w:=by
 unfold wpListIn;rw[if_pos (hw.at r)];obtain⟨v,w',m',β',h1,r'⟩:=h;refine fS (.inr (kb h1 (fun d e=>by cases e))) ?_;unfold Oper.wp;rw[h1];exact k m' β' w' _ r'
theorem Ao{v L:List MapEntry}{j:Nat}{e:MapEntry}(h:v.Perm L)(hn:(L.map (·.born)).Nodup)(hj:v[j]? = some e):(v.eraseIdx j).Perm (L.filter fun x=>x.born != e.born):=by
 have h1:=fi e v j hj;have hn2:((e::v.eraseIdx j).map (·.born)).Nodup:=((h1.symm.trans h).map _).nodup_iff.2 hn
 have h3:∀x,x∈v.eraseIdx j->(x.born != e.born)=true:=by
  intro x hx;rw[bi8,aa9] at hn2;simp only[bne_iff_ne,ne_eq];intro hh;exact hn2.1 (bc9.2 ⟨x,hx,hh⟩)
 have h2:=((h1.symm.trans h).filter fun x=>x.born != e.born);rw[aa8,if_neg (by simp),br9.2 h3] at h2;exact h2
theorem Cy(E:Array MapEntry)(seen:Array Nat)(b:Nat):(leftOf E (seen.push b)).toList=(leftOf E seen).toList.filter fun x=>x.born != b:=by
 simp only[leftOf,Array.toList_filter,List.filter_filter]
 grind
theorem C1{d id:Nat}{x:Operand}{cur left:List (Value×V)}
  (hw:aT ops S ⟨some d,.next x false,ty,pos,after,g⟩ true) (hx:evl K S x=.ptr id 1 0 0) (ho:ao S.hp id=.iter cur left) (hN:Nat.blt d K.N=true)
  (k0:left=[]->ax K ops rest Q (S.put d (.tup [.con (.bool false)])))
  (k1:∀j p,left[j]? = some p->ax K ops rest Q ⟨(d,.tup [.con (.bool true),.con p.1,p.2])::S.env,(id,.iter [p] (left.eraseIdx j))::S.hp,S.nx⟩):
  ax K ops (⟨some d,.next x false,ty,pos,after,g⟩::rest) Q S:=by
 intro m β w a r;have h:=r.reads x;rw[hx] at h;generalize hv:a.eval x=v at h;cases h with
 |imm h=>cases h
 | @ptr _ _ _ _ b cap hb=>
 have hown:=r.own id;rw[hb,ho] at hown;obtain⟨bm,seen,E,clock,v,h0,h1,h2,h3,h4,h5,h6,h7⟩:=hown;have hpt:Value.pointer (some ⟨b,cap.off+(0*1+0),none⟩)=.pointer (some ⟨b,0,none⟩):=by rw[h0]
 rcases run_next_at (P:=K.P) w ty b bm clock clock seen E clock h1 (r.imm _ _ h2) h3.lt (ae9 _) with ⟨q1,q2⟩|⟨e,q1,w1,q2,q3⟩
 ·have hl:left=[]:=by
   have:v.length=0:=by rw[h4.length_eq,bh9];exact q1
   exact ax9.1 (by omega)
  refine nE r hw ⟨.tuple #[.bool false],w,m,β,?_,r.put hN ?_⟩ (k0 hl)
  ·simp_all[execOp]
  ·refine .tup Y fun i c u hi hu=>?_
   match i with
   |0=>simp at hi hu;subst hi;subst hu;exact .imm (.con _)
   |i+1=>simp at hi
 ·obtain⟨j,hj⟩:=bb9 (h4.mem_iff.2 q1);have hlt:j<left.length:=by rw[h5];exact(bb8.1 hj).1
  have hp:left[j]? = some left[j]:=ax8 hlt;obtain⟨e1,e2⟩:=h6 j _ e hp hj;have r1:bQ K m β w1 a S:=by rcases q2 with rfl|rfl;exact r;exact r.drawn _ (ak8 _)
  have hh1:w1.heap=w.heap:=by rcases q2 with rfl|rfl<;>rfl
  have hbl:b<w1.heap.size:=by rw[hh1];exact bL h1
  have r2:=r1.update (by grind) hb (setBlock w1 b (.mapIter (some bm) clock (seen.push e.born) clock)) (.iter [left[j]] (left.eraseIdx j))
   (fun b' hne=>by simp only[setBlock,bn9];grind) (by simp[setBlock]) ⟨rfl,rfl,rfl,trivial⟩
   (fun _=>⟨bm,seen.push e.born,E,clock,v.eraseIdx j,h0,by simp[setBlock,hbl],h2,h3,by
    rw[Cy];refine Ao h4 ?_ hj;have:((leftOf E seen).toList).Sublist E.toList:=by simp only[leftOf,Array.toList_filter];exact List.filter_sublist
    exact List.Nodup.sublist (this.map _) h3.born,by grind,fun i p e' hi he=>by
    grind,fun p hpc=>by
    simp at hpc;subst hpc;exact⟨e,(mem_left q1).1,by simp,e1,e2⟩⟩)
  refine nE r hw ⟨.tuple #[.bool true,e.key,e.val],_,m,β,?_,r2.put hN ?_⟩ (k1 j left[j] hp)
  ·simp_all[execOp]
  ·refine .tup Y fun i c u hi hu=>?_
   match i with
   |0=>simp at hi hu;subst hi;subst hu;exact .imm (.con _)
   |1=>simp at hi hu;subst hi;subst hu;rw[<-e1];exact .imm (.con _)
   |2=>simp at hi hu;subst hi;subst hu;exact .imm e2
   |i+3=>simp at hi
theorem sW{d id:Nat}{x:Operand}{p:Value×V}{left:List (Value×V)}
  (hw:aT ops S ⟨some d,.entry x,ty,pos,after,g⟩ true) (hx:evl K S x=.ptr id 1 0 0) (ho:ao S.hp id=.iter [p] left) (hN:Nat.blt d K.N=true)
  (kk:ax K ops rest Q (S.put d (.tup [.con p.1,p.2]))):ax K ops (⟨some d,.entry x,ty,pos,after,g⟩::rest) Q S:=by
 intro m β w a r;have h:=r.reads x;rw[hx] at h;generalize hv:a.eval x=v at h;cases h with
 |imm h=>cases h
 | @ptr _ _ _ _ b cap hb=>
 have hown:=r.own id;rw[hb,ho] at hown;obtain⟨bm,seen,E,clock,v,h0,h1,h2,h3,h4,h5,h6,h7⟩:=hown;have hpt:Value.pointer (some ⟨b,cap.off+(0*1+0),none⟩)=.pointer (some ⟨b,0,none⟩):=by rw[h0]
 obtain⟨e,q1,q2,q3,q4⟩:=h7 p (by simp);have hf:E.find? (·.born==e.born)=some e:=by rw[<-Array.find?_toList];exact find_born e E.toList h3.born q1
 refine nE r hw ⟨.tuple #[e.key,e.val],w,m,β,?_,r.put hN ?_⟩ kk
 ·simp only[execOp,hv,hpt];refine bi ?_;simp only[Instr.entry,getObj,Sem.run_bind,Sem.run,h1,r.imm _ _ h2,Result.andThen,q2,bne_self_eq_false,ch8,if_false,hf];rfl
 ·refine .tup Y fun i c u hi hu=>?_
  match i with
  |0=>simp at hi hu;subst hi;subst hu;rw[<-q3];exact .imm (.con _)
  |1=>simp at hi hu;subst hi;subst hu;exact .imm q4
  |i+2=>simp at hi
theorem tF{P:Program}{T k e:TypeId}{good:Value->Prop}{kv zv:Value}(c:Bool)(w:World)(hT:ef P T k e=true)(hK:iY P k good)(hz:(P.info? e).bind (·.zero)=some zv)(hg:good kv):
  (Instr.lookup T (.map none) kv c).run P w=.ok (if c then .tuple #[zv,.bool false] else zv) w:=by
 have hzr:(zeroValue e).run P w=.ok zv w:=by
  cases hi:P.info? e with
  |none=>grind
  |some i=>
   simp_all[zeroValue,run_typeInfo]
 have hf:(Instr.findKey k kv []).run P w=.ok none w:=by
  rcases hK.find w kv hg [] (by simp) with ⟨h,_⟩|⟨j,e',_,h,_⟩
  ·exact h
  ·simp at h
 simp only[Instr.lookup,Sem.run_bind,run_underlying (cU hT),Result.andThen_ok,pure,Sem.run,hK.check _ w kv hg]
 simp_all
theorem sR{d:Nat}{T k e:TypeId}{x y:Operand}{good:Value->Prop}{kv zv:Value}(zd:V)(hT:ef K.P T k e=true)(hK:iY K.P k good)
  (hz:(K.P.info? e).bind (·.zero)=some zv) (hzd:∀m,bT m zd zv)
  (hw:aT ops S ⟨some d,.lookup T x y false,ty,pos,after,g⟩ true) (hx:evl K S x=.con (.map none)) (hy:eY K S y kv) (hg:good kv) (hN:Nat.blt d K.N=true)
  (kk:ax K ops rest Q (S.put d zd)):ax K ops (⟨some d,.lookup T x y false,ty,pos,after,g⟩::rest) Q S:=
 aW _ hw hN (fun m β w a r=>by
  refine⟨zv,?_,.imm (hzd m)⟩;simp only[execOp,r.con hx,hy.read r];exact bi (tF false w hT hK hz hg)) kk
end
theorem ag.itr{Yo:Hy}[jx Yo]{c l:List (Value×V)}:ag Yo (.iter [] l) (.iter c l):=⟨by simp,rfl,jx.h⟩
inductive vi(Yo:Hy)(env:bY):bY->Prop
 |refl:vi Yo env env
 |put {e:bY} {t:Nat} {v v0:V} (ht:get env t=v0) (hv:ak Yo v v0) (h:vi Yo env e):vi Yo env ((t,v)::e)
theorem vi.get{Yo:Hy}{env e:bY}(hk:∀v,ak Yo v v)(h:vi Yo env e)(t:Nat):ak Yo (get e t) (get env t):=by
 induction h<;>grind [ci]
inductive Df(Yo:Hy)(hp:aD):aD->Prop
 |refl:Df Yo hp hp
 |put {e:aD} {t:Nat} {v v0:Ob} (ht:ao hp t=v0) (hv:ag Yo v v0) (h:Df Yo hp e):Df Yo hp ((t,v)::e)
theorem Df.get{Yo:Hy}{hp e:aD}(hk:∀v,ag Yo v v)(h:Df Yo hp e)(t:Nat):ag Yo (ao e t) (ao hp t):=by
 induction h<;>grind [av]
section
variable{K:cS}{S:St}
theorem pW(id:Nat){es:List (Value×V)}{env:bY}{hp:aD}(ho:ao S.hp id=.map es)(hi:∀p,p∈es->aw p.2)(he:vi (pL id es) S.env env)(hh:Df (pL id es) S.hp hp):
  aV K S ⟨env,(id,.dead)::hp,S.nx⟩:=
 m9 id env _ ho hi (he.get (fun _=>ak.keepM)) (fun i=>by
  rw[av];split
  ·trivial
  ·exact hh.get (fun _=>ag.keep (fun _=>ak.keepM) _) i) (by simp[av])
end
def Bv(a b:B8):Bool:=!(Op.bytesLess b a)
def RM{α:Type}(n:Nat)(l:List α)(P:Prop):Prop:=l.length<n/\P
theorem RM.zero{α:Type}{l:List α}{P:Prop}{X:Prop}(h:RM 0 l P):X:=absurd h.1 (Nat.not_lt_zero _)
theorem RM.start{α:Type}{l:List α}{P:Prop}(h:P):RM (l.length+1) l P:=⟨ak9 _,h⟩
theorem RM.step{α:Type}{l l':List α}{n:Nat}{P P':Prop}(h:RM (n+1) l P)(hq:l'.length<l.length)(h':P'):RM n l' P':=⟨by have:=h.1;omega,h'⟩
section
variable{K:cS}{Q:bX}{S:St}{s:List It}
variable{ops:Array Oper}{rest:List Oper}{ty:TypeId}{pos:String}{after:Array Edge}{g:Option (Nat×Bool)}
theorem nxt{α:Type}{enc:α->Value×V}{xs:List α}{d id nx:Nat}{env:bY}{hp:aD}{x:Operand}{cur:List (Value×V)}(hx:evl K ⟨env,hp,nx⟩ x=.ptr id 1 0 0)(ho:ao hp id=.iter cur (xs.map enc))(hw:aT ops ⟨env,hp,nx⟩ ⟨some d,.next x false,ty,pos,after,g⟩ true)(hN:Nat.blt d K.N=true)
  (k0:xs=[]->WG K Q (.o ops rest::s) ⟨(d,.tup [.con (.bool false)])::env,hp,nx⟩)
  (k1:∀x l',l'.length<xs.length->xs.Perm (x::l')->WG K Q (.o ops rest::s) ⟨(d,.tup [.con (.bool true),.con (enc x).1,(enc x).2])::env,(id,.iter [enc x] (l'.map enc))::hp,nx⟩):
  WG K Q (.o ops (⟨some d,.next x false,ty,pos,after,g⟩::rest)::s) ⟨env,hp,nx⟩:=by
 refine C1 hw hx ho hN (fun h=>k0 (List.map_eq_nil_iff.1 h)) (fun j p hj=>?_);rw[ay9,ad8] at hj;obtain⟨y,h1,rfl⟩:=hj;rw[<-ChangeMaps.map_eraseIdx enc xs j];have hlt:=(bb8.1 h1).1;exact k1 y (xs.eraseIdx j) (by grind) (fi y xs j h1)
end
end Go.Pv
namespace Go.Pv
open Go Go.RowKit
open Go.Sort in
theorem vN{gl:Gl}{P:Program}{f:FuncId}{k id:Nat}{hp:aD}{e:TypeId}{α:Type}[Inhabited α](enc:α->Value)(h1c:∀x,(enc x).oneCell'=true)(l l' zs:List α)(hid:ao hp id=.arr e 1 (l.map fun x=>[V.con (enc x)]))(hl:(l'++zs).length=l.length)
  (h:∀(w:World) (blk off cap:Nat),Holds enc w blk off l.toArray->blk<w.heap.size->l.length<=cap->Calls P f #[.slice (some ⟨blk,off,none⟩) l.length cap] w fun e w'=>
   e=.returned (.slice (some ⟨blk,off,none⟩) l'.length cap)/\∃n os,w'=grow (putRow enc (Sort.ahead w n) blk off (l'++zs).toArray) os)
  (hn:∀(w:World) (a:Option Addr),l=[]->Calls P f #[.slice a 0 0] w fun e w'=>e=.returned (.slice a 0 0)/\Below w.heap.size w w'/\True):
  g9 gl P f [.own id l.length] k hp (.own id l'.length) k ((id,.arr e 1 (l'.map fun x=>[V.con (enc x)]))::hp):=by
 intro m β w vs himm _ hargs hown hpriv hinj hhid hnx
 obtain⟨v,rfl⟩:∃v,vs=#[v]:=by
  have:=hargs.len;simp at this
  exact⟨vs[0],by
   grind⟩
 have hv:=hargs.at' 0 _ _ rfl rfl;have hob:=hown id;rw[hid] at hob;have hg:∀q,ao ((id,Ob.arr e 1 (l'.map fun x=>[V.con (enc x)]))::hp) q=if id=q then Ob.arr e 1 (l'.map fun x=>[V.con (enc x)]) else ao hp q:=fun q=>av _ _ _ _
 have hlive:∀q,ao ((id,Ob.arr e 1 (l'.map fun x=>[V.con (enc x)]))::hp) q≠.dead->ao hp q≠.dead:=fun q hq=>by
  grind
 have hhids:∀(w':World),w.heap.size<=w'.heap.size->∀q x,ao ((id,Ob.arr e 1 (l'.map fun x=>[V.con (enc x)]))::hp) q≠.dead->β.hid q x->x<w'.heap.size/\m x=none/\(x<w.heap.size->¬di hp β x)/\
   (∀i b c,ao ((id,Ob.arr e 1 (l'.map fun x=>[V.con (enc x)]))::hp) i≠.dead->β i=some (some (b,c))->x≠b)/\∀i,ao ((id,Ob.arr e 1 (l'.map fun x=>[V.con (enc x)]))::hp) i≠.dead->β.hid i x->i=q:=by
  intro w' hs q x hq hx;obtain⟨q1,q2,q3,q4⟩:=hhid q x (hlive q hq) hx;exact⟨by omega,q2,fun _ hF=>(hF q (hlive q hq)).2 hx,fun i b c hi=>q3 i b c (hlive i hi),fun i hi=>q4 i (hlive i hi)⟩
 generalize hnl:l.length=n at hv h;cases hv with
 |imm h'=>cases h'
 | @ownNil _ ad hb=>
  have hl0:l=[]:=ax9.1 hnl;subst hl0
  have hl':l'=[]:=by
   have:(l'++zs).length=0:=by simpa using hl
   simp at this;exact this.1
  subst hl';refine(hn w ad Y).mono ?_
  rintro ex w' ⟨rfl,hB,hdr⟩
  have hheap:∀b,b<w.heap.size->w'.heap[b]? = w.heap[b]?:=hB.block;refine⟨_,m,β,Y,.ownNil hb,bA.le_refl _,fun b o hb=>by grind,fun b hb _=>⟨Y,hheap b hb⟩,hB.size,⟨hB.os,hB.tape,hB.output,hdr⟩,fun q=>?_,fun q b cap hq hbq=>?_,fun q q' b cap cap' hq hq'=>hinj q q' b cap cap' (hlive q hq) (hlive q' hq'),hhids w' hB.size,hnx,fun q hq=>⟨hq,Y⟩⟩
  ·grind [bo.dead',bo.congr,gu]
  ·have hq:=hlive q hq;exact⟨hpriv q b cap hq hbq,fun _ hF=>(hF q hq).1 cap hbq⟩
 | @own _ _ b cap hb=>
  rw[hb] at hob;obtain⟨arr,bl,o1,o2,o3,o4,o5,oB,o6⟩:=hob;have hbs:b<w.heap.size:=bL o1
  have hcell:∀j (hj:j<l.length),arr[cap.off+j]? = some (enc l[j]):=fun j hj=>by
   obtain⟨v,v1,v2,_⟩:=o6 j 0 [V.con (enc l[j])] (V.con (enc l[j])) (by grind) rfl;have:=(v2.v rfl).of_con
   grind
  refine(h w b cap.off cap.n (fun j hj=>?_) hbs (by grind)).mono ?_
  ·grind [b9,World.frozen?]
  rintro ex w' ⟨rfl,nd,os,rfl⟩
  have hheap:=pV enc w nd b cap.off (l'++zs).toArray os;have hother:∀b',b'<w.heap.size->b'≠b->(grow (putRow enc (Sort.ahead w nd) b cap.off (l'++zs).toArray) os).heap[b']? = w.heap[b']?:=fun b' h1 h2=>by grind
  have hlid:ao hp id≠.dead:=by rw[hid];simp
  have hsz:w.heap.size<=(grow (putRow enc (Sort.ahead w nd) b cap.off (l'++zs).toArray) os).heap.size:=by simp[grow,putRow,mapBlock,Sort.ahead]
  refine⟨_,m,β,Y,.own hb,bA.le_refl _,fun b' o hb'=>?_,fun b' hb' hF=>⟨Y,hother b' hb' (fun e=>?_)⟩,hsz,⟨Y,Y,Y,trivial⟩,fun q=>?_,fun q b' cap' hq hbq=>?_,fun q q' b1 cap1 cap2 hq hq'=>hinj q q' b1 cap1 cap2 (hlive q hq) (hlive q' hq'),hhids _ hsz,hnx,fun q hq=>⟨hq,Y⟩⟩
  ·grind
  ·subst e;exact(hF id hlid).1 cap hb
  ·rw[hg];split
   ·rename_i hh;subst hh;rw[hb];refine⟨putCells enc cap.off (l'++zs).toArray arr,bl,by rw[hheap b hbs,if_pos rfl,o1];rfl,by simp[putCells,o2],by grind,o4,?_,oB,fun i j row c hr hc=>?_⟩
    ·grind
    ·rw[ay9] at hr;cases hli:l'[i]? with
     |none=>grind
     |some x=>
      rw[hli] at hr;simp at hr;subst hr;have hi:i<l'.length:=(bb8.1 hli).1;have hx:l'[i]=x:=(bb8.1 hli).2
      have hj:j=0:=by
       have:=(bb8.1 hc).1;simp at this;exact this
      subst hj;simp at hc;subst hc;have ha:cap.off+i<arr.size:=by simp at hl o3;omega
      refine⟨enc x,?_,.inl (.imm (.con _)),h1c x⟩;rw[Nat.mul_one,bd9];unfold putCells
      grind
   grind [bo.dead',bo.congr,gu]
  ·have hq:=hlive q hq;exact⟨hpriv q b' cap' hq hbq,fun _ hF=>(hF q hq).1 cap' hbq⟩
def dT(l:List B8):List B8:=l.mergeSort fun x y=>decide (x<=y)
def BI{α:Type}[Inhabited α][DecidableEq α](l:List α):List α:=Lib.compact l
theorem qp{α:Type}[Inhabited α][DecidableEq α](d:Array α)(m:Nat):(Lib.compactUpTo d m).length<=m:=by
 grind [Lib.compactUpTo]
theorem wr{α:Type}[Inhabited α][DecidableEq α](l:List α):(BI l).length<=l.length:=qp _ _
theorem FL(w:World):w=Go.Sort.grow w #[]:=by simp_all
theorem HI{α:Type}(l c:List α)(h:c.length<=l.length)(z:α):(c++List.replicate (l.length - c.length) z).length=l.length:=by simp;omega
open Go.Sort in
theorem xQ{gl:Gl}{P:Program}{f:FuncId}{k id:Nat}{hp:aD}{e:TypeId}(l:List B8)(hid:ao hp id=.arr e 1 (l.map fun x=>[V.con (str x)]))
  (h:∀(blk off cap:Nat) (zs:List B8) (w:World),Holds str w blk off zs.toArray->blk<w.heap.size->zs.length<4611686018427387904->Calls P f #[.slice (some ⟨blk,off,none⟩) zs.length cap] w fun e w'=>
   e=.returned (.tuple #[])/\∃n os,w'=grow (putRow str (Sort.ahead w n) blk off (zs.mergeSort fun x y=>decide (x<=y)).toArray) os)
  (hn:∀(p:Option Addr) (w:World),Calls P f #[.slice p 0 0] w fun e w'=>e=.returned (.tuple #[])/\w'=w) (hc:l.length<4611686018427387904):
  g9 gl P f [.own id l.length] k hp (.tup []) k ((id,.arr e 1 ((dT l).map fun x=>[V.con (str x)]))::hp):=
 uz str (fun _=>rfl) l (dT l) hid (List.length_mergeSort _) (fun w blk off cap hH hb=>h blk off cap l w hH hb hc) (fun w a _=>(hn a w).mono (by simp_all[Below.refl]))
open Go.Sort in
theorem om{gl:Gl}{P:Program}{f:FuncId}{k id:Nat}{hp:aD}{e:TypeId}{α:Type}[Inhabited α][DecidableEq α](enc:α->Value)(h1c:∀x,(enc x).oneCell'=true)(z:α)(l:List α)(hid:ao hp id=.arr e 1 (l.map fun x=>[V.con (enc x)]))
  (h:∀(blk off cap:Nat) (zs:List α) (w:World),Holds enc w blk off zs.toArray->zs.length<=9223372036854775807->zs.length<=cap->Calls P f #[.slice (some ⟨blk,off,none⟩) zs.length cap] w fun e w'=>
   e=.returned (.slice (some ⟨blk,off,none⟩) (Lib.compact zs).length cap)/\∃q,w'=putRow enc (Sort.ahead w q) blk off (Lib.compact zs++List.replicate (zs.length - (Lib.compact zs).length) z).toArray)
  (hn:∀(p:Option Addr) (w:World),Calls P f #[.slice p 0 0] w fun e w'=>e=.returned (.slice p 0 0)/\w'=w) (hc:l.length<=140737488355328):
  g9 gl P f [.own id l.length] k hp (.own id (BI l).length) k ((id,.arr e 1 ((BI l).map fun x=>[V.con (enc x)]))::hp):=
 vN enc h1c l (BI l) (List.replicate (l.length - (BI l).length) z) hid (HI _ _ (wr l) z) (fun w blk off cap hH _ hcap=>(h blk off cap l w hH (by omega) hcap).mono (by rintro e w' ⟨rfl,q,rfl⟩;exact⟨rfl,q,#[],FL _⟩)) (fun w a _=>(hn a w).mono (by simp_all[Below.refl]))
end Go.Pv
namespace Go.Pv
open Go
section
variable{K:cS}{Q:bX}{S:St}
variable{ops:Array Oper}{rest:List Oper}{ty:TypeId}{pos:String}{after:Array Edge}{g:Option (Nat×Bool)}
theorem set_set{α:Type}(l:List α)(i:Nat)(a b:α):(l.set i a).set i b=l.set i b:=by
 induction l generalizing i with
 |nil=>rfl
 |cons x l ih=>cases i with
  |zero=>rfl
  |succ i=>simp[ih]
theorem CK{env:bY}{hp:aD}(hp':aD){nx:Nat}(h:∀q,ao hp' q=ao hp q):aV K ⟨env,hp,nx⟩ ⟨env,hp',nx⟩:=fun m β w a r=>⟨m,β,r.congr (fun _=>rfl) h rfl⟩
theorem mE{i:Nat}{b:Ob}{hp:aD}:ao ((i,b)::hp) i=b:=by simp_all[av]
end
theorem nt{gl:Gl}{P:Program}{f:FuncId}{args args':List V}{d:V}{k:Nat}(i:Nat)(h1:args'[i]? = some (.con (.slice none 0 0)))(h2:args=args'.set i (.lst k []))(h:dX gl P f args d):dX gl P f args' d:=fun m w vs hm hg ha=>by
 subst h2;refine h m w vs hm hg ⟨by simpa using ha.1,fun j c v hc hv=>?_⟩;rw[bh8] at hc;by_cases e:i=j
 ·subst e;have hi:=(bb8.1 h1).1;rw[if_pos rfl,if_pos hi] at hc;cases hc;have:=ha.2 i _ v h1 hv;cases this;exact .nil _ _ _
 ·rw[if_neg e] at hc;exact ha.2 j c v hc hv
section
variable{K:cS}{Q:bX}{S:St}
variable{ops:Array Oper}{rest:List Oper}{ty:TypeId}{pos:String}{after:Array Edge}{g:Option (Nat×Bool)}
def C6(a b:List V):Prop:=a.length=b.length/\∀(j:Nat) (c c':V),a[j]? = some c->b[j]? = some c'->tV c c'/\dE c
def NF{α:Type}(D E:α->List V):Prop:=∀x,C6 (D x) (E x)
theorem C6.nil:C6 [] []:=⟨rfl,fun j c c' h=>by simp at h⟩
theorem C6.cons{c c':V}{l l':List V}(h:tV c c'/\dE c)(r:C6 l l'):C6 (c::l) (c'::l'):=⟨by simp[r.1],fun j x x' h1 h2=>by
 cases j with
 |zero=>grind
 |succ j=>exact r.2 j x x' (by grind) (by grind)⟩
theorem qG(v:Value):tV (.con v) (.con v)/\dE (.con v):=⟨.imm rfl,(aw.con v).2⟩
theorem vj{α:Type}(e k:Nat){enc:α->List V}(hi:∀x,cz (enc x))(l:List α):tV (.dsl e k (l.map enc)) (.lst k (l.map enc))/\dE (.dsl e k (l.map enc)):=⟨xu hi l,dE.dsl _ _ _⟩
end
def Gb(f:V->Option Value):List V->Option (List Value)
 |[]=>some []
 |x::l=>match f x with|some v=>(match Gb f l with|some r=>some (v::r)|none=>none)|none=>none
def yw:Nat->V->Option Value
 |0,_=>none
 |n+1,v=>match v with
  | .con v=>some v
  | .agg cs=>(match Gb (yw n) cs with|some l=>some (.agg l.toArray)|none=>none)
  |_=>none
theorem BK{f:V->Option Value}:∀{cs:List V} {l:List Value},Gb f cs=some l->l.length=cs.length/\∀(i:Nat) c v,cs[i]? = some c->l[i]? = some v->f c=some v
 |[],l,h=>by simp_all[Gb]
 |x::cs,l,h=>by
  simp only[Gb] at h;split at h
  ·rename_i y hy;split at h
   ·rename_i q hq;simp at h;subst h;obtain⟨h1,h2⟩:=BK hq;refine⟨by simp[h1],fun i c v a b=>?_⟩;cases i with
    |zero=>simp at a b;subst a;subst b;exact hy
    |succ i=>exact h2 i c v (by simpa using a) (by simpa using b)
   ·simp at h
  ·simp at h
theorem BJ{m:bA}{β:aZ}:∀{n:Nat} {v:V} {x y:Value},yw n v=some x->bn m β v y->y=x
 |0,v,x,y,h=>by simp[yw] at h
 |n+1,v,x,y,h=>by
  intro hv;cases v with
  |con c=>simp[yw] at h;subst h;exact hv.of_con
  |agg cs=>
   simp only[yw] at h;split at h
   ·rename_i l hl;simp at h;subst h;obtain⟨vs,rfl,h2,h3⟩:=q8 hv;obtain⟨a1,a2⟩:=BK hl
    congr 1
    apply Array.ext
    ·grind
    ·intro i hi hj;have hic:i<cs.length:=by rw[h2];exact hi
     have hil:i<l.length:=by rw[a1];exact hic
     have:=BJ (a2 i _ _ (ax8 hic) (ax8 hil)) (h3 i _ _ (ax8 hic) (ba9 hi))
     grind
   grind
  |_=>simp[yw] at h
theorem FD{m:bA}(l:List Value):bT m (.agg (l.map .con)) (.agg l.toArray):=.agg (by simp) fun i c v a b=>by
 simp only[ay9,be9] at a b;rw[b] at a;simp at a;subst a;exact .con _
def Oo:Value->V
 | .agg vs=>.agg (vs.toList.map .con)
 |v=>.con v
theorem Dz{m:bA}{β:aZ}(v:Value):bn m β (Oo v) v:=by
 cases v with
 |agg vs=>
  refine .imm (.agg (by simp) fun i c u a b=>?_);simp only[ay9,ae8,b,az9,av8] at a;subst a;exact .con _
 |_=>exact .imm (.con _)
section
variable{K:cS}{Q:bX}{S S':St}{ops:Array Oper}{rest:List Oper}{t:TT}{ty:TypeId}{pos:String}{after:Array Edge}{g:Option (Nat×Bool)}
theorem wG{d n:Nat}{T:TypeId}{x:Operand}{v:V}{c:Value}(hT:K.P.concrete T=true)(hw:aT ops S ⟨some d,.makeInterface T x,ty,pos,after,g⟩ true)(hx:evl K S x=v)(hc:yw n v=some c)(hN:Nat.blt d K.N=true)
  (k:ax K ops rest Q (S.put d (.con (.iface T c)))):ax K ops (⟨some d,.makeInterface T x,ty,pos,after,g⟩::rest) Q S:=
 aW _ hw hN (fun m β w a r=>by
  have:=r.reads x;rw[hx] at this;have:=BJ hc this;exact⟨.iface T c,by simp_all[execOp,Go.run_makeInterface],.imm (.con _)⟩) k
def OS(t:TT)(e:bY):Op->Option (Nat×List V)
 | .call c=>(match c.callee with
  | .invoke x name=>(match eu e x with
   |some (.con (.iface T v))=>(match dq t T (TF.qM name) with
    |some f=>(match H9 e c.args.toList with
     |some vs=>(match CM (Oo v::vs) with|some r=>some (f,r)|none=>none)
     |none=>none)
    |none=>none)
   |_=>none)
  | .value x=>(match eu e x with
   |some (.con (.func (.method name) first caps))=>(match first.toList,caps.toList with
    |[.iface T v],[]=>(match dq t T (TF.qM name) with
     |some f=>(match H9 e c.args.toList with
      |some vs=>(match CM (Oo v::vs) with|some r=>some (f,r)|none=>none)
      |none=>none)
     |none=>none)
    |_,_=>none)
   |_=>none)
  |_=>none)
 |_=>none
theorem FX{e:bY}(ha:Ag e S):∀{l:List Operand} {vs:List V},H9 e l=some vs->vs=l.map (evl K S):=fun h=>(sD ha h).symm
theorem Gc(ht:cK K.P t){e:bY}(ha:Ag e S){o:Oper}{f:Nat}{avs:List V}(h:OS t e o.op=some (f,avs)):
  ∀m β w a,bQ K m β w a S->∃vs:Array Value,(execOp a.eval o).run K.P w=.ok (.enter f vs) w/\kR m β avs vs:=by
 obtain⟨dst,op,ty',pos,after,g⟩:=o;cases op<;>simp_all[OS];rename_i c;obtain⟨callee,args,at'⟩:=c;simp only at h;split at h
 ·rename_i x name;split at h
  ·rename_i T v hx;split at h
   ·rename_i f' hm;split at h
    ·rename_i vs hv;split at h
     ·rename_i q hq;simp only[av8,Prod.mk.injEq] at h;obtain⟨rfl,rfl⟩:=h;have hq:=jo hq;have hv:=FX (K:=K) ha hv;have hmm:=(Ln ht hm).1;subst hq;intro m β w a r;have hr:=r.con (aU (K:=K) ha hx);refine⟨#[v]++args.map a.eval,?_,?_⟩
      ·have:(execOp a.eval ⟨dst,.call ⟨.invoke x name,args,at'⟩,ty',pos,after,g⟩)=callMethod (.iface T v) name (args.map a.eval):=by
        simp only[execOp,resolve,hr,pure_bind]
        show invoke (.fn (.method name) #[]) (#[Value.iface T v]++args.map a.eval)=_
        simp only[invoke];rw[show(#[Value.iface T v]++args.map a.eval)[0]? = some (Value.iface T v) by grind];simp only
        congr 1
        apply ar9;simp;exact List.take_of_length_le (by simp)
       grind
      ·refine⟨by grind,fun i c u h1 h2=>?_⟩;cases i with
       |zero=>
        grind [Dz]
       |succ i=>
        simp only[bp8,hv,ay9,ae8] at h1;rw[av9 (by simp)] at h2;simp only[bk9,bu8,bo8,cb8,bs8,bz9] at h2;cases ho:args[i]? with
        |none=>grind
        |some y=>
         rw[ho] at h1 h2;simp at h1 h2;subst h1;subst h2;exact r.reads y
     grind
    grind
   grind
  grind
 ·rename_i x;split at h
  ·rename_i name first caps hx
   split at h
   ·rename_i T v hf1 hc1;have hf1:=fe hf1;have hc1:=iu hc1;subst hf1 hc1;split at h
    ·rename_i f' hm;split at h
     ·rename_i vs hv;split at h
      ·rename_i q hq;simp only[av8,Prod.mk.injEq] at h;obtain⟨rfl,rfl⟩:=h;have hq:=jo hq;have hv:=FX (K:=K) ha hv;have hmm:=(Ln ht hm).1;subst hq;intro m β w a r;have hr:=r.con (aU (K:=K) ha hx);refine⟨#[v]++args.map a.eval,?_,?_⟩
       ·have:(execOp a.eval ⟨dst,.call ⟨.value x,args,at'⟩,ty',pos,after,g⟩)=callMethod (.iface T v) name (args.map a.eval):=by
         simp only[execOp,resolve,hr,Deferred.ofValue,pure_bind]
         show invoke (.fn (.method name) #[]) (#[Value.iface T v]++args.map a.eval)=_
         simp only[invoke];rw[show(#[Value.iface T v]++args.map a.eval)[0]? = some (Value.iface T v) by grind];simp only
         congr 1
         apply ar9;simp;exact List.take_of_length_le (by simp)
        grind
       ·refine⟨by grind,fun i c u h1 h2=>?_⟩;cases i with
        |zero=>
         grind [Dz]
        |succ i=>
         simp only[bp8,hv,ay9,ae8] at h1;rw[av9 (by simp)] at h2;simp only[bk9,bu8,bo8,cb8,bs8,bz9] at h2;cases ho:args[i]? with
         |none=>grind
         |some y=>
          rw[ho] at h1 h2;simp at h1 h2;subst h1;subst h2;exact r.reads y
      grind
     grind
    grind
   grind
  grind
 grind
theorem yC{d:Nat}{name:String}{x:Operand}{iv:Value}(hw:aT ops S ⟨some d,.makeFunc (.method name) #[x] #[],ty,pos,after,g⟩ true)(hx:evl K S x=.con iv)(hN:Nat.blt d K.N=true)
  (k:ax K ops rest Q (S.put d (.con (.func (.method name) #[iv] #[])))):ax K ops (⟨some d,.makeFunc (.method name) #[x] #[],ty,pos,after,g⟩::rest) Q S:=
 aW _ hw hN (fun m β w a r=>⟨.func (.method name) #[iv] #[],by simp only[execOp];exact bi (by simp[Instr.makeFunc,pure,r.con hx]),.imm (.con _)⟩) k
theorem wF{d:Nat}{name:String}{x:Operand}{T:TypeId}{v:Value}(hT:∀(v:Value) (w:World),(nilAhead (K.P.types.size+Made.depth) T v name).run K.P w=.ok (some false) w)(hw:aT ops S ⟨some d,.nilCheck x,ty,pos,after,g⟩ true)(hx:evl K S x=.con (.func (.method name) #[.iface T v] #[]))(hN:Nat.blt d K.N=true)
  (k:ax K ops rest Q (S.put d (.con (.func (.method name) #[.iface T v] #[])))):ax K ops (⟨some d,.nilCheck x,ty,pos,after,g⟩::rest) Q S:=
 aW _ hw hN (fun m β w a r=>⟨.func (.method name) #[.iface T v] #[],by
  simp only[execOp,r.con hx]
  simp_all,.imm (.con _)⟩) k
theorem rE{P:Program}{w:World}{T:TypeId}{x y:Operand}(neg:Bool)(hT:xy P T=true)(b:Option Nat):
      (do eqGuard (if neg then .neq else .eql) T x y (.map b) (.map none);binOp (if neg then .neq else .eql) T (.map b) (.map none):Sem Value).run P w=.ok (.bool (if neg then !b.isNone else b.isNone)) w:=by
  obtain⟨k,e,hu⟩:∃k e,P.underlying T=some (.map k e):=by
    grind [xy]
  have hd:(10000:Nat)=9999+1:=rfl
  have hg:∀op:BinOp,(eqGuard op T x y (.map b) (.map none)).run P w=.ok () w:=by
    intro op;unfold eqGuard;simp_all
  have hq:(Op.equal T (.map b) (.map none)).run P w=.ok b.isNone w:=by
    rw[Op.equal,Op.maxDepth,hd,Op.equalIn];simp only[Sem.run_bind,run_underlying hu,Result.andThen_ok];cases b<;>rfl
  rw[Sem.run_bind,hg,Result.andThen_ok];cases neg<;>simp_all[binOp]
def zQ:V->Option Bool
 | .con (.map none)=>some true
 | .map _=>some false
 |_=>none
theorem qa{d:Nat}{x y:Operand}{T T':TypeId}{v:V}{b:Bool}(neg:Bool)(hT:xy K.P T=true)(hw:aT ops S ⟨some d,.binOp (if neg then .neq else .eql) T x y T',ty,pos,after,g⟩ true)
  (hx:evl K S x=v) (hv:zQ v=some b) (hy:evl K S y=.con (.map none)) (hN:Nat.blt d K.N=true)
  (k:ax K ops rest Q (S.put d (.con (.bool (if neg then !b else b))))):ax K ops (⟨some d,.binOp (if neg then .neq else .eql) T x y T',ty,pos,after,g⟩::rest) Q S:=
 aW _ hw hN (fun m β w a r=>by
  have h:=r.reads x;rw[hx] at h
  have key:∃o,a.eval x=.map o/\o.isNone=b:=by
   generalize a.eval x=u at h;unfold zQ at hv;split at hv
   ·simp at hv;subst hv;exact⟨none,h.of_con,Y⟩
   ·simp at hv;subst hv;cases h with
    |imm h=>cases h
    |map hb=>grind
   ·simp at hv
  obtain⟨o,ho,hb⟩:=key;have hr:=rE (P:=K.P) (w:=w) (x:=x) (y:=y) neg hT o;refine⟨.bool (if neg then !b else b),?_,.imm (.con _)⟩;simp only[execOp,ho,r.con hy]
  grind [bi]) k
end
structure aM where
 row:List V
 imm:cz row
 one:row.all dC=true
structure KV where
 t:Nat
 d:V
def KV.enc(x:KV):List V:=[.ifc x.t x.d]
theorem aM.ext'{a b:aM}(h:a.row=b.row):a=b:=by cases a<;>simp_all
theorem KV.enc_imm(x:KV):cz x.enc:=fun c hc=>by
 simp_all[KV.enc,aw.ifc]
theorem KV.enc_one(x:KV):x.enc.all dC=true:=rfl
section
variable{τ R:Type}
open Classical in
noncomputable def dD(enc:τ->List V)(x:aM):Option τ:=if h:∃y,enc y=x.row then some h.choose else none
theorem uK{enc:τ->List V}{x:aM}{y:τ}(h:dD enc x=some y):x.row=enc y:=by
 unfold dD at h;split at h<;>grind
theorem Bx{enc:τ->List V}(inj:∀a b,enc a=enc b->a=b){x:aM}{y:τ}(h:x.row=enc y):dD enc x=some y:=by
 unfold dD;have hx:∃y,enc y=x.row:=⟨y,h.symm⟩
 grind
open Classical in
noncomputable def gH(enc:τ->List V)(T:Nat)(x:KV):Option τ:=if h:∃y,x.t=T/\x.d=.agg (enc y) then some h.choose else none
theorem t6{enc:τ->List V}{T:Nat}{x:KV}{y:τ}(h:gH enc T x=some y):x.t=T/\x.d=.agg (enc y):=by
 unfold gH at h;split at h<;>grind
theorem Hj{enc:τ->List V}(inj:∀a b,enc a=enc b->a=b){T:Nat}{x:KV}{y:τ}(h:x.t=T)(h':x.d=.agg (enc y)):gH enc T x=some y:=by
 unfold gH;have hx:∃y,x.t=T/\x.d=.agg (enc y):=⟨y,h,h'⟩;rw[dif_pos hx]
 grind
theorem Hi{enc:τ->List V}{T:Nat}{x:KV}(h:x.t≠T):gH enc T x=none:=by
 simp_all[gH]
def uA(T:Nat)(enc:τ->List V)(y:τ):KV:=⟨T,.agg (enc y)⟩
def HK(o:Option τ)(f:τ->Option R)(g:Option R):Option R:=match o with|some y=>f y|none=>g
theorem Ju{o:Option τ}{f:τ->Option R}{g:Option R}{r:R}{P:Prop}(h:HK o f g=some r)(k1:∀y,o=some y->f y=some r->P)(k2:g=some r->P):P:=by
 cases o with
 |none=>exact k2 h
 |some y=>exact k1 y rfl h
end
section
variable{K:cS}{Q:bX}{S:St}{s:List It}
variable{ops:Array Oper}{l rest:List Oper}{ty:TypeId}{pos:String}{after:Array Edge}{g:Option (Nat×Bool)}
theorem CJ(t:Nat){v v':V}(ht:get S.env t=v)(h:v=v'):aV K S ⟨(t,v')::S.env,S.hp,S.nx⟩:=by
 grind [aV.env,get,Nat.eq_of_beq_eq_true]
theorem fg{τ:Type}{enc:τ->List V}{x:aM}{y:τ}(t:Nat)(h:dD enc x=some y)(ht:oY S.env t=some (.iptr x.row 0))(k:WG K Q (.o ops l::s) ⟨(t,.iptr (enc y) 0)::S.env,S.hp,S.nx⟩):WG K Q (.o ops l::s) S:=
 ro (.inr ⟨_,_,rfl⟩) (CJ t (dN ht) (by rw[uK h])) k
theorem ew{d:Nat}{T:TypeId}{x:Operand}{v:V}(hT:K.P.concrete T=true)(hw:aT ops S ⟨some d,.makeInterface T x,ty,pos,after,g⟩ true)(hx:evl K S x=v)(hi:aw v)(hN:Nat.blt d K.N=true)
  (k:ax K ops rest Q (S.put d (.ifc T v))):ax K ops (⟨some d,.makeInterface T x,ty,pos,after,g⟩::rest) Q S:=
 aW _ hw hN (fun m β w a r=>by
  have:=r.reads x;rw[hx] at this;exact⟨.iface T (a.eval x),by simp_all[execOp,Go.run_makeInterface],.imm (.ifc (hi.2 _ _ _ this))⟩) k
theorem yE{d f:Nat}{T:TypeId}{x:Operand}{name:String}{args:Array Operand}{at':Array TypeId}{dv dr:V}{avs:List V}(hm:∀(v:Value) (args:Array Value) (w:World),(callMethod (.iface T v) name args).run K.P w=.ok (.enter f (#[v]++args)) w)
  (hw:aT ops S ⟨some d,.call ⟨.invoke x name,args,at'⟩,ty,pos,after,g⟩ true) (hx:evl K S x=.ifc T dv) (ha:args.toList.map (evl K S)=avs) (hi:cz avs) (hc:dX K.gl K.P f (dv::avs) dr) (hN:Nat.blt d K.N=true)
  (kk:ax K ops rest Q (S.put d dr)):ax K ops (⟨some d,.call ⟨.invoke x name,args,at'⟩,ty,pos,after,g⟩::rest) Q S:=by
 refine iN hw Y hN (fun m β w a r=>?_) hc kk;have hr:=r.reads x;rw[hx] at hr
 obtain⟨v,hv,hd⟩:∃v,a.eval x=.iface T v/\bT m dv v:=by
  generalize a.eval x=u at hr;cases hr with
  |imm h=>cases h with|ifc h=>grind
 refine⟨#[v]++args.map a.eval,?_,?_⟩
 ·have:(execOp a.eval ⟨some d,.call ⟨.invoke x name,args,at'⟩,ty,pos,after,g⟩)=callMethod (.iface T v) name (args.map a.eval):=by
   simp only[execOp,resolve,hv,pure_bind]
   show invoke (.fn (.method name) #[]) (#[Value.iface T v]++args.map a.eval)=_
   simp only[invoke];rw[show(#[Value.iface T v]++args.map a.eval)[0]? = some (Value.iface T v) by grind];simp only
   congr 1
   apply ar9;simp;exact List.take_of_length_le (by simp)
  grind
 ·refine⟨by grind,fun i c u h1 h2=>?_⟩;cases i with
  |zero=>
   grind
  |succ i=>
   rw[bp8] at h1;have h1':=h1;rw[<-ha,ay9,ae8] at h1;rw[av9 (by simp)] at h2;simp only[bk9,bu8,bo8,cb8,bs8,bz9] at h2;cases ho:args[i]? with
   |none=>grind
   |some y=>
    rw[ho] at h1 h2;simp at h1 h2;subst h2;exact(hi.get h1').2 m β _ (h1 ▸ r.reads y)
end
theorem ya{τ:Type}{enc:τ->List V}{xs:List aM}{n:Int}{x:aM}{y:τ}(h:cn xs n=some x)(hy:dD enc x=some y):(xs.map aM.row)[n.toNat]? = some (enc y):=by
 rw[<-uK hy];exact gW aM.row h
instance:EI aM.row:=⟨aM.imm,aM.one⟩
instance:EI KV.enc:=⟨KV.enc_imm,KV.enc_one⟩
def qf(gl:Gl)(P:Program)(name:String)(k:KV)(avs:List V)(dr:V):Prop:=
 ∃f:FuncId,(∀(v:Value) (args:Array Value) (w:World),(callMethod (.iface k.t v) name args).run P w=.ok (.enter f (#[v]++args)) w)/\dX gl P f (k.d::avs) dr
theorem i9{gl:Gl}{P:Program}{name:String}{k:KV}{avs:List V}{dr:V}{τ:Type}{enc:τ->List V}{T f:Nat}{y:τ}(hm:∀(v:Value) (args:Array Value) (w:World),(callMethod (.iface T v) name args).run P w=.ok (.enter f (#[v]++args)) w)
  (hy:gH enc T k=some y) (hc:dX gl P f (V.agg (enc y)::avs) dr):qf gl P name k avs dr:=by
 obtain⟨h1,h2⟩:=t6 hy;exact⟨f,by grind,by grind⟩
section
variable{K:cS}{Q:bX}{S:St}
variable{ops:Array Oper}{l rest:List Oper}{ty:TypeId}{pos:String}{after:Array Edge}{g:Option (Nat×Bool)}
theorem eG{d:Nat}{k:KV}{x:Operand}{name:String}{args:Array Operand}{at':Array TypeId}(dr:V)(avs:List V)
  (hw:aT ops S ⟨some d,.call ⟨.invoke x name,args,at'⟩,ty,pos,after,g⟩ true) (hx:evl K S x=.ifc k.t k.d) (ha:args.toList.map (evl K S)=avs) (hi:cz avs) (hc:qf K.gl K.P name k avs dr) (hN:Nat.blt d K.N=true)
  (kk:ax K ops rest Q (S.put d dr)):ax K ops (⟨some d,.call ⟨.invoke x name,args,at'⟩,ty,pos,after,g⟩::rest) Q S:=by
 obtain⟨f,hm,hc⟩:=hc<;>grind [yE]
end
inductive qE(x:Value):List (Value×V)->List (Value×V)->Prop
 |nil:qE x [] []
 |here {v:V} {es:List (Value×V)}:qE x ((x,v)::es) es
 |there {k:Value} {v:V} {es es':List (Value×V)} (h:k≠x) (h':qE x es es'):qE x ((k,v)::es) ((k,v)::es')
theorem qE.none_of{x:Value}{es es':List (Value×V)}(h:qE x es es')(hn:∀p,p∈es->p.1≠x):es'=es:=by
 induction h<;>simp_all
theorem qE.some_of{x:Value}{es es':List (Value×V)}(h:qE x es es'):∀(j:Nat) (v':V),es[j]? = some (x,v')->(∀i p,i<j->es[i]? = some p->p.1≠x)->es'=es.eraseIdx j:=by
 induction h with
 |nil=>grind
 |here=>
  intro j v' hj hi;cases j with
  |zero=>rfl
  |succ j=>exact absurd rfl (hi 0 _ (by omega) rfl)
 |there h _ ih=>
  intro j v' hj hi;cases j<;>grind
def dj{α β:Type}[DecidableEq α]:List (α×β)->α->List (α×β)
 |[],_=>[]
 |p::r,k=>if p.1=k then r else p::dj r k
theorem yu{α β:Type}[DecidableEq α]{kv:α->Value}{ev:β->V}(hinj:∀a b,kv a=kv b->a=b)(xs:List (α×β))(k:α):qE (kv k) (xs.map fun p=>(kv p.1,ev p.2)) ((dj xs k).map fun p=>(kv p.1,ev p.2)):=by
 induction xs with
 |nil=>exact .nil
 |cons p xs ih=>
  rw[dj];by_cases h:p.1=k
  ·rw[if_pos h,bi8,h];exact .here
  ·rw[if_neg h,bi8,bi8];exact .there (fun e=>h (hinj _ _ e)) ih
theorem An{α:Type}{e:α}{l L:List α}{j k:Nat}(h:l.Perm L)(h1:l[j]? = some e)(h2:L[k]? = some e):(l.eraseIdx j).Perm (L.eraseIdx k):=
 ((fi e l j h1).symm.trans (h.trans (fi e L k h2))).cons_inv
theorem AD.erase{E:Array MapEntry}{clock j:Nat}(q:AD E clock):AD (E.eraseIdxIfInBounds j) clock:=by
 have e:(E.eraseIdxIfInBounds j).toList=E.toList.eraseIdx j:=by simp
 refine⟨?_,fun x hx=>?_,?_⟩
 ·rw[e];exact((List.eraseIdx_sublist ..).map _).nodup q.born
 ·rw[e] at hx;exact q.lt x ((List.eraseIdx_sublist ..).mem hx)
 ·rw[e];exact((List.eraseIdx_sublist ..).map _).nodup q.key
section
variable{K:cS}{Q:bX}{S:St}
variable{ops:Array Oper}{rest:List Oper}{ty:TypeId}{pos:String}{after:Array Edge}{g:Option (Nat×Bool)}
theorem iK{T k e Tk:TypeId}{x y:Operand}{good:Value->Prop}{kv:Value}{id:Nat}{es:List (Value×V)}(es':List (Value×V))(hT:ef K.P T k e=true)(hK:iY K.P k good)
  (hw:aT ops S ⟨none,.call ⟨.builtin .delete,#[x,y],#[T,Tk]⟩,ty,pos,after,g⟩ true) (hx:evl K S x=.map id) (ho:ao S.hp id=.map es) (hy:eY K S y kv) (hg:good kv) (hges:∀p,p∈es->good p.1)
  (hp:qE kv es es') (kk:ax K ops rest Q ⟨S.env,(id,.map es')::S.hp,S.nx⟩):ax K ops (⟨none,.call ⟨.builtin .delete,#[x,y],#[T,Tk]⟩,ty,pos,after,g⟩::rest) Q S:=by
 refine cg hw (fun m β w a r=>?_) kk;have h:=r.reads x;rw[hx] at h;generalize hv:a.eval x=v at h;cases h with
 |imm h=>cases h
 | @map _ b cap hb=>
 have h0:=r.own id;rw[hb,ho] at h0;obtain⟨ents,clock,bl,⟨E,e2,eP,eW⟩,e3,eB,e4⟩:=h0;have hobj:(getObj b).run K.P w=.ok (.map E clock) w:=by simp[getObj,Sem.run,e2]
 have hset:∀o,(setObj b o).run K.P w=.ok () { w with heap:=w.heap.setIfInBounds b o }:=by intro o;simp[setObj,Sem.run,e2]
 have hbl:=bL e2
 have heap':∀o b',b'≠b->({ w with heap:=w.heap.setIfInBounds b o }:World).heap[b']? = w.heap[b']?:=by
  intro o b' hne;simp only[bn9];grind
 have self':∀o,({ w with heap:=w.heap.setIfInBounds b o }:World).heap[b]? = some o:=by
  intro o;simp[hbl]
 rcases su hK hg e3 (fun i p e a b=>(e4 i p e a b).1) hges eP eW (w:=w) with ⟨a1,a2,aK⟩|⟨j,p,en,jE,a1,a2,a3,a4,a5,aE⟩
 ·have hes:=hp.none_of a2
  refine⟨.tuple #[],{ w with heap:=w.heap.setIfInBounds b (.map E clock) },m,β,.inl ?_,
   r.update (by grind) hb _ (.map es') (heap' _) (by simp) ⟨rfl,rfl,rfl,trivial⟩ (fun hkeep=>⟨ents,_,bl,⟨_,self' _,eP,eW⟩,by grind,eB,fun i p e hi he=>?_⟩)⟩
  ·refine dI Y ?_
   have hd:(Builtin.delete_ #[T,Tk] ty #[a.eval x,a.eval y]).run K.P w=.ok (.tuple #[]) { w with heap:=w.heap.setIfInBounds b (.map E clock) }:=by
    rw[hv,hy.read r];simp only[Builtin.delete_,be9,bk8,bp8,Sem.run_bind,run_underlying (cU hT),Result.andThen_ok,hobj,hK.check _ w kv hg,a1,hset];rfl
   simp_all[builtin]
  ·rw[hes] at hi;exact⟨(e4 i p e hi he).1,(e4 i p e hi he).2.mono (bA.le_refl _) (aZ.le_refl _) (fun _ h=>h) (fun x hx=>hkeep x (eB.1 _ x hx))⟩
 ·have hpp:p=(kv,p.2):=by rw[<-a4]
  rw[hpp] at a3;have hes:=hp.some_of j p.2 a3 a5;have ej:(ents.eraseIdxIfInBounds j).toList=ents.toList.eraseIdx j:=by simp
  have eE:(E.eraseIdxIfInBounds jE).toList=E.toList.eraseIdx jE:=by simp
  refine⟨.tuple #[],{ w with heap:=w.heap.setIfInBounds b (.map (E.eraseIdxIfInBounds jE) clock) },m,β,.inl ?_,
   r.update (by grind) hb _ (.map es') (heap' _) (by simp) ⟨rfl,rfl,rfl,trivial⟩ (fun hkeep=>⟨ents.eraseIdxIfInBounds j,_,fun q=>bl (if q<j then q else q+1),⟨_,self' _,by grind [An],eW.erase⟩,?_,⟨fun q y hy=>eB.1 _ y hy,fun q q' y h1 h2=>?_⟩,fun i p e hi he=>?_⟩)⟩
  ·refine dI Y ?_
   have hd:(Builtin.delete_ #[T,Tk] ty #[a.eval x,a.eval y]).run K.P w=.ok (.tuple #[]) { w with heap:=w.heap.setIfInBounds b (.map (E.eraseIdxIfInBounds jE) clock) }:=by
    rw[hv,hy.read r];simp only[Builtin.delete_,be9,bk8,bp8,Sem.run_bind,run_underlying (cU hT),Result.andThen_ok,hobj,hK.check _ w kv hg,a1,hset];rfl
   simp only[builtin,bi9,bi8,ao8,Sem.run_bind];rw[hd];rfl
  ·grind
  ·have:=eB.2 _ _ y h1 h2
   grind
  ·rw[hes,List.getElem?_eraseIdx] at hi;have h2:(ents.eraseIdxIfInBounds j).toList[i]? = some e:=by rw[ae8];exact he
   rw[ej,List.getElem?_eraseIdx] at h2
   have he':ents[if i<j then i else i+1]? = some e:=by
    by_cases hij:i<j
    ·grind
    ·grind
   have hi':es[if i<j then i else i+1]? = some p:=by
    by_cases hij:i<j
    ·grind
    ·grind
   exact⟨(e4 _ p e hi' he').1,(e4 _ p e hi' he').2.mono (bA.le_refl _) (aZ.le_refl _) (fun _ h=>h) (fun x hx=>hkeep x (eB.1 _ x hx))⟩
end
end Go.Pv
namespace Go.Pv
open Go
section
variable{K:cS}{Q:bX}{S:St}
variable{ops:Array Oper}{rest:List Oper}
theorem Gs{E:Array MapEntry}{j:Nat}(f g h:MapEntry->MapEntry)(hh:∀e,g (f e)=h e):(E.modify j f).modify j g=E.modify j h:=by
 apply Array.ext_getElem?;intro i;simp only[bl8];split
 ·rw[Option.map_map];congr 1;funext e;exact hh e
 ·rfl
theorem wD{E:Array MapEntry}{x:MapEntry}(f:MapEntry->MapEntry):(E.push x).modify E.size f=E.push (f x):=by
 apply Array.ext_getElem?;intro i;simp only[bl8,bm9];by_cases h:E.size=i
 ·subst h;simp
 ·rw[if_neg h,if_neg (Ne.symm h),if_neg (Ne.symm h)]
theorem zK{E:Array MapEntry}{clock i j:Nat}{e e':MapEntry}(q:AD E clock)(hi:E[i]? = some e)(hj:E[j]? = some e')(h:e.born=e'.born):i=j:=by
 have e1:(E.toList.map (·.born))[i]? = some e.born:=by simp[hi]
 have e2:(E.toList.map (·.born))[j]? = some e.born:=by simp[hj,h]
 exact(bm8 (bb8.1 e1).1 q.born).1 (e1.trans e2.symm)
end
section
variable{κ γ α:Type}[DecidableEq κ]
section
variable{K:cS}{Q:bX}{S:St}
end
end
end Go.Pv
namespace Go.Pv
open Go
theorem bp{α:Type}{enc:α->Value×V}[i:Mq enc]{l:List α}:∀p,p∈l.map enc->dE p.2:=by
 intro p hp;obtain⟨x,_,rfl⟩:=bc9.1 hp;exact i.h x
end Go.Pv
namespace Go.Pv
open Go
theorem B7{FF:Fence}{P:Program}{l:List Oper}{Q:Exit->Act->World->Prop}(I:(Nat->Bool)->Act->World->Prop)(hpre:∀(i:Nat) (o:Oper),l[i]? = some o->∀j,j∈eT o->j<i)
  (hstep:∀(s:Nat->Bool) (i:Nat) (o:Oper) (a:Act) (w:World) (K':Act->World->Prop),l[i]? = some o->s i=false->(∀j,j∈eT o->s j=true)->I s a w->(∀a w,I (fun j=>if j=i then true else s j) a w->K' a w)->wpOpIn FF 0 P l.toArray Q i K' a w)
  (hend:∀(s:Nat->Bool) (a:Act) (w:World),(∀i,i<l.length->s i=true)->I s a w->Q .normal a w):
  ∀(fuel:Nat) (listed:Array Bool) (a:Act) (w:World),listed.size=l.length->fuel+(listed.toList.filter id).length=l.length->I (fun i=>listed.getD i false) a w->wpAnyIn FF 0 P .any l.toArray Q fuel listed a w:=by
 have hready:∀(listed:Array Bool) i,i∈Region.ready .any l.toArray listed<->i<l.length/\listed.getD i true=false/\∃o,l[i]? = some o/\∀j,j∈eT o->listed.getD j false=true:=by
  intro listed i;simp only[Region.ready,bw8,cj8,bk9,be9,ap9,Bool.not_eq_true'];constructor
  ·rintro⟨h1,h2,h3⟩
   refine⟨h1,h2,l[i],ax8 h1,fun j hj=>?_⟩;rw[ax8 h1] at h3;simp only[az9,bv9,bd8] at h3;simp only[eT,bc9,bw8] at hj;obtain⟨e,⟨he,hb⟩,rfl⟩:=hj;obtain⟨k,hk,rfl⟩:=bg9 he;have:=h3 k (by simpa using hk);simp only[Array.getElem_toList] at hb ⊢
   simpa[hb] using this
  ·rintro⟨h1,h2,o,ho,h3⟩
   refine⟨h1,h2,?_⟩;rw[ho];simp only[az9,bv9,bd8];intro k hk;by_cases hb:Region.binds .any o.after[k]=true
   ·have:=h3 o.after[k].on (by
     simp only[eT,bc9,bw8];exact⟨o.after[k],⟨by simp,hb⟩,Y⟩)
    simp[hb,this]
   ·simp[Bool.eq_false_iff.2 hb]
 have none_ready:∀(listed:Array Bool),listed.size=l.length->Region.ready .any l.toArray listed=[]->∀i,i<l.length->listed.getD i false=true:=by
  intro listed hsz hr i
  induction i using Nat.strongRecOn with
  |_ i ih=>
   intro hi;cases hli:listed.getD i false with
   |true=>rfl
   |false=>
    exfalso
    have:i∈Region.ready .any l.toArray listed:=by
     rw[hready];refine⟨hi,?_,l[i],ax8 hi,fun j hj=>?_⟩
     ·have hi':i<listed.size:=by omega
      simp only[bj9,ba9 hi',bv9] at hli ⊢;exact hli
     ·have:=hpre i _ (ax8 hi) j hj;exact ih j this (by omega)
    rw[hr] at this;simp at this
 intro fuel
 induction fuel with
 |zero=>
  intro listed a w hsz hcount hI
  have hfull:∀i,i<l.length->listed.getD i false=true:=by
   intro i hi;have h1:(listed.toList.filter id).length=listed.toList.length:=by simp only[bh9];omega
   have h2:=List.length_filter_eq_length_iff.1 h1;have hi':i<listed.size:=by omega
   have:=h2 listed[i] (by simp);simp only[bj9,ba9 hi',bv9];exact this
  refine⟨?_,hend _ a w hfull hI⟩;cases hrd:Region.ready .any l.toArray listed with
  |nil=>rfl
  |cons i is=>
   have:i∈Region.ready .any l.toArray listed:=by rw[hrd];simp
   rw[hready] at this;have h1:=hfull i this.1;have hi':i<listed.size:=by omega
   have h2:=this.2.1;simp only[bj9,ba9 hi',bv9] at h1 h2;rw[h1] at h2;simp at h2
 |succ fuel ih=>
  intro listed a w hsz hcount hI;refine⟨fun h0=>hend _ a w (none_ready listed hsz h0) hI,fun i hi=>?_⟩;obtain⟨h1,h2,o,ho,hpr⟩:=(hready listed i).1 hi;have hi':i<listed.size:=by omega
  have hfalse:listed[i]=false:=by
   simp only[bj9,ba9 hi',bv9] at h2;exact h2
  refine hstep (fun i=>listed.getD i false) i o a w _ ho (by simp[bj9,ba9 hi',hfalse]) hpr hI (fun a w hI'=>?_);refine ih _ a w (by simp[hsz]) ?_ ?_
  ·have:((listed.setIfInBounds i true).toList.filter id).length=(listed.toList.filter id).length+1:=by
    rw[Array.toList_setIfInBounds]
    have gen:∀(L:List Bool) (i:Nat) (h:i<L.length),L[i]=false->((L.set i true).filter id).length=(L.filter id).length+1:=by
     intro L
     induction L with
     |nil=>intro i h;simp at h
     |cons b L ihL=>
      intro i h hb;cases i with
      |zero=>simp at hb;subst hb;simp
      |succ i=>
       simp only[List.set_cons_succ,aa8];have:=ihL i (by simpa using h) (by simpa using hb);split<;>simp[this]
    exact gen listed.toList i (by simpa using hi') (by simpa using hfalse)
   omega
  ·have:(fun j=>(listed.setIfInBounds i true).getD j false)=fun j=>if j=i then true else listed.getD j false:=by
    funext j
    simp only[bj9,bn9];by_cases hji:i=j
    ·subst hji;simp[hi']
    ·simp[hji,Ne.symm hji]
   rw[this];exact hI'
section
variable{K:cS}{Q:bX}{s:List It}
end
end Go.Pv
