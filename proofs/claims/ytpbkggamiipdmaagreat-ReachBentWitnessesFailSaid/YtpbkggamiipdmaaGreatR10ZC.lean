/- Part of the proof: DO, DR, ZC. -/
import Derived.Test.YtpbkggamiipdmaaGreatR10DN
import Derived.Test.YtpbkggamiipdmaaGreatR10WA
import Derived.Test.YtpbkggamiipdmaaGreatR10ZA
import Derived.Maps.RangeRun
import Derived.Lib.SlicesCompact
namespace Go.Pv
open Go
section
variable{K:Ctx}{Q:q0r}{S:St}
variable{m:Mem}{β:q0l}{w:World}{a:Act}
variable{ops:Array Oper}{rest:List Oper}{ty:TypeId}{pos:String}{after:Array Edge}{g:Option (Nat×Bool)}
theorem j9k(id:Nat){es:List (Value×V)}(es':List (Value×V))(env:Env)(hp:q2l)(ho:q5d S.hp id=.map es)(hl:es.length=es'.length)
  (hk:∀(i:Nat) (p p':Value×V),es[i]? = some p->es'[i]? = some p'->p.1=p'.1/\Und p.2 p'.2/\z7h p.2)
  (henv:∀t,Sub (v1v id es') (get env t) (get S.env t)) (hhp:∀i,q4b (v1v id es') (q5d hp i) (q5d S.hp i)) (hd:q5d hp id=.dead):q8h K S ⟨env,hp,S.nx⟩:=by
 intro m β w a r
 have hlid:q5d S.hp id≠.dead:=by rw[ho];simp
 obtain⟨b,cap,hb⟩:=j7c r ho
 have hown:=r.own id
 rw[ho,hb] at hown
 obtain⟨ents,clock,bl,h1,h2,hBl,h6⟩:=hown
 have hp':=r.priv id b cap hlid hb
 have key:∃m',(∀b o,m' b=some o->w.heap[b]? = some o)/\v1v id es' m β m' β/\(∀b',m' b'=m b'\/(∃cap,β id=some (some (b',cap)))\/β.hid id b'):=by
  classical
  let m':Mem:=fun b'=>if b'=b\/β.hid id b' then w.heap[b']? else m b'
  have hmb:∀x,(x=b\/β.hid id x)->m' x=w.heap[x]?:=fun x h=>by simp only[m'];rw[if_pos h]
  have hmo:∀x,¬(x=b\/β.hid id x)->m' x=m x:=fun x h=>by simp only[m'];rw[if_neg h]
  have hle:m.le m':=by
   intro b' o h
   rw[hmo]
   ·exact h
   ·rintro(e'|e')
    ·subst e';rw[hp'.1] at h;simp at h
    ·rw[(r.hid id b' hlid e').m] at h;simp at h
  refine⟨m',?_,⟨hle,rfl,?_⟩,?_⟩
  ·intro b' o h
   by_cases hbb:b'=b\/β.hid id b'
   ·rw[hmb b' hbb] at h;exact h
   ·rw[hmo b' hbb] at h;exact r.imm _ _ h
  ·intro x hx
   cases hx with
   |imm h=>cases h
   | @map _ b2 cap2 h=>
    rw[hb] at h
    simp only[Option.some.injEq,Prod.mk.injEq] at h
    obtain⟨rfl,rfl⟩:=h
    refine .imap (by rw[hmb b (.inl rfl)];exact h1) (by omega) (fun i p e hi he=>?_) (fun i p e hi he=>?_)
    ·have hlt:i<es.length:=by rw[hl];exact(List.getElem?_eq_some_iff.1 hi).1
     rw[(h6 i _ e (List.getElem?_eq_getElem hlt) he).1]
     exact(hk i _ p (List.getElem?_eq_getElem hlt) hi).1
    ·have hlt:i<es.length:=by rw[hl];exact(List.getElem?_eq_some_iff.1 hi).1
     obtain⟨u1,u2,u3⟩:=hk i _ p (List.getElem?_eq_getElem hlt) hi
     have hd:j2m m w (bl i) es[i].2 e.val:=(h6 i _ e (List.getElem?_eq_getElem hlt) he).2.elim (fun h=>.imm (u3 _ _ _ h)) (fun h=>h)
     exact hd.und hle p.2 u2 (fun x hx=>hmb x (.inr (hBl.1 _ x hx)))
  ·intro b'
   by_cases hbb:b'=b\/β.hid id b'
   ·rcases hbb with h|h
    ·exact .inr (.inl ⟨cap,by rw[h];exact hb⟩)
    ·exact .inr (.inr h)
   ·exact .inl (hmo b' hbb)
 obtain⟨m',k1,hy,k2⟩:=key
 have hlive:∀i,q5d hp i≠.dead->q5d S.hp i≠.dead/\i≠id:=by
  intro i h
  have h2:=hhp i
  refine⟨fun hdd=>?_,fun he=>h (by rw[he];exact hd)⟩
  rw[hdd] at h2
  cases ho':q5d hp i with
  |dead=>exact h ho'
  |arr=>rw[ho'] at h2;simp[q4b] at h2
  |res=>rw[ho'] at h2;simp[q4b] at h2
  |map=>rw[ho'] at h2;simp[q4b] at h2
  |iter=>rw[ho'] at h2;simp[q4b] at h2
 refine⟨m',β,?_⟩
 constructor
 ·exact k1
 ·exact Mem.le_trans r.ext hy.1
 ·intro b hb' hold
  rcases k2 b with h|⟨cap2,h⟩|h
  ·rw[h];exact r.mold b hb' hold
  ·exact absurd hold ((r.priv id b _ hlid h).2 hb')
  ·exact absurd hold ((r.hid id b hlid h).old hb')
 ·exact r.frame
 ·exact r.size
 ·exact r.same
 ·exact r.tn
 ·exact r.df
 ·exact fun t=>henv t _ _ _ _ _ hy (r.env t)
 ·intro i
  exact(hhp i).ok hy (r.own i)
 ·intro i b cap hl hb'
  obtain⟨h1,h2⟩:=hlive i hl
  have hp':=r.priv i b cap h1 hb'
  refine⟨?_,hp'.2⟩
  rcases k2 b with h|⟨cap',h⟩|h
  ·rw[h];exact hp'.1
  ·exact absurd (r.inj i id b cap cap' h1 hlid hb' h) h2
  ·exact absurd rfl ((r.hid id b hlid h).ne i b cap h1 hb')
 ·intro i i' b cap cap' hl hl'
  exact r.inj i i' b cap cap' (hlive i hl).1 (hlive i' hl').1
 ·intro i x hl hx
  obtain⟨h1,h2⟩:=hlive i hl
  have h:=r.hid i x h1 hx
  refine⟨h.lt,?_,h.old,fun i' b c hi'=>h.ne i' b c (hlive i' hi').1,fun i' hi'=>h.un i' (hlive i' hi').1⟩
  rcases k2 x with h'|⟨cap',h'⟩|h'
  ·rw[h'];exact h.m
  ·exact absurd rfl (h.ne id x cap' hlid h')
  ·exact absurd (h.un id hlid h') (Ne.symm h2)
 ·exact r.nx
 ·exact r.pin
theorem z3u(id0 nx':Nat)(hfr:∀m β w a,Rel K m β w a S->β id0=none/\∀q,q<K.pins->q≠id0)(hlt0:id0<nx')(hle0:S.nx<=nx'){d:Nat}{T k e e' k' id:Nat}{x y:Operand}{good:Value->Prop}{kv:Value}{es es':List (Value×V)}{rws:List (List V)}(hT:q5t K.P T k e=true)(hK:j6x K.P k good)
  (hz:(K.P.info? e).bind (·.zero)=some (.slice none 0 0))
  (hw:q4g ops S ⟨some d,.lookup T x y false,ty,pos,after,g⟩ true) (hx:evl K S x=.map id) (ho:q5d S.hp id=.map es) (hy:z0o K S y kv) (hg:good kv) (hges:∀p,p∈es->good p.1)
  (hl:j2x kv id0 e' k' es es' rws) (hN:Nat.blt d K.N=true)
  (kk:q3g K ops rest Q ⟨(d,.own id0 rws.length)::S.env,(id,.map es')::(id0,.arr e' k' rws)::S.hp,nx'⟩):q3g K ops (⟨some d,.lookup T x y false,ty,pos,after,g⟩::rest) Q S:=by
 refine q9j hw (fun m β w a r=>?_) kk
 have h:=r.reads x
 rw[hx] at h
 obtain⟨b,ents,clock,e1,⟨E,e2,eP,eW⟩,e3,e4⟩:=(j1g.own ho).read r h
 have hobj:(getObj b).run K.P w=.ok (.map E clock) w:=by simp[getObj,Sem.run,e2]
 have hzr:(zeroValue e).run K.P w=.ok (.slice none 0 0) w:=by
  cases hi:K.P.info? e with
  |none=>simp[hi] at hz
  |some i=>
   simp[hi] at hz
   simp only[zeroValue,Sem.run_bind,run_typeInfo w hi,Result.andThen_ok,hz];rfl
 have hbloc:=j7c r ho
 have hidn:id≠id0:=fun h=>by obtain⟨b,cap,hb⟩:=hbloc;rw[h,(hfr m β w a r).1] at hb;simp at hb
 have hswap:∀(m':Mem) (β':q0l) (o1 o2:Ob) (n:Nat),Rel K m' β' w a ⟨S.env,(id0,o2)::(id,o1)::S.hp,n⟩->Rel K m' β' w a ⟨S.env,(id,o1)::(id0,o2)::S.hp,n⟩:=by
  intro m' β' o1 o2 n rr
  refine rr.congr (fun _=>rfl) (fun t=>?_) rfl
  show q5d ((id,o1)::(id0,o2)::S.hp) t=q5d ((id0,o2)::(id,o1)::S.hp) t
  rw[q1d,q1d,q1d,q1d]
  by_cases h1:id=t<;>by_cases h2:id0=t
  ·exact absurd (h1.trans h2.symm) hidn
  ·rw[if_pos h1,if_neg h2,if_pos h1]
  ·rw[if_neg h1,if_pos h2,if_pos h2]
  ·rw[if_neg h1,if_neg h2,if_neg h2,if_neg h1]
 rcases hl.cases with ⟨h1,h2,h3⟩|⟨i,h1,h2,h3⟩
 ·subst h1 h2
  rcases v7t hK hg e3 (fun i p e a b=>(e4 i p e a b).1) hges eP eW (w:=w) with ⟨a1,a2,_⟩|⟨j,p,en,jE,a1,a2,a3,a4,a5,aE⟩
  ·obtain⟨β',hle,hβ,r3⟩:=r.adopt id0 nx' (hfr m β w a r).1 (hfr m β w a r).2 hlt0 hle0 none (.arr e' k' []) (fun b c hb=>by simp at hb) (fun _ _=>rfl)
   have r4:Rel K m β' w a ⟨S.env,(id,.map es')::(id0,.arr e' k' [])::S.hp,nx'⟩:=by
    refine r3.congr (fun _=>rfl) (fun t=>?_) rfl
    show q5d ((id,.map es')::(id0,.arr e' k' [])::S.hp) t=q5d ((id0,.arr e' k' [])::S.hp) t
    rw[q1d]
    split
    ·rename_i h;subst h;rw[q1d,if_neg (Ne.symm hidn),ho]
    ·rfl
   refine⟨_,w,m,β',.inl ?_,r4.put hN (.ownNil (ad:=none) hβ)⟩
   simp only[execOp,e1,hy.read r]
   refine q5f ?_
   simp only[Instr.lookup,Sem.run_bind,run_underlying (q5o hT),Result.andThen_ok,hobj,pure,Sem.run,hK.check _ w kv hg,a1,hzr]
   rfl
  ·exact absurd a4 (h3 p (List.mem_of_getElem? a3))
 ·obtain⟨m',β',r2⟩:=r.takeM id i id0 nx' (hfr m β w a r).1 (hfr m β w a r).2 hlt0 hle0 ho h1 (show ovl (.dsl e' k' rws) id0=_ from rfl)
  rw[<-h2] at r2
  have hx2:q3m m' β' (.map id) (a.eval x):=by
   have:=(r2.reads x)
   exact(show evl K ⟨S.env,(id,.map es')::(id0,.arr e' k' rws)::S.hp,nx'⟩ x=.map id by cases x<;>exact hx) ▸ this
  obtain⟨b2,ents2,clock2,f1,⟨E2,f2,fP,fW⟩,f3,f4⟩:=(j1g.own (S:=⟨S.env,(id,.map es')::(id0,.arr e' k' rws)::S.hp,nx'⟩) (id:=id) (es:=es') (by simp[q1d])).read r2 hx2
  have hges':∀p,p∈es'->good p.1:=by
   intro p hp
   rw[h2] at hp
   rcases List.mem_or_eq_of_mem_set hp with h|h
   ·exact hges p h
   ·rw[h];exact hg
  have hobj2:(getObj b2).run K.P w=.ok (.map E2 clock2) w:=by simp[getObj,Sem.run,f2]
  rcases v7t hK hg f3 (fun i p e a b=>(f4 i p e a b).1) hges' fP fW (w:=w) with ⟨a1,a2,_⟩|⟨j,p,en,jE,a1,a2,a3,a4,a5,aE⟩
  ·have:=h3.none_of a2;simp at this
  ·have hp:p=(kv,p.2):=by rw[<-a4]
   rw[hp] at a3
   have hr:=h3.some_of j p.2 a3 a5
   simp only[Option.some.injEq] at hr
   refine⟨en.val,w,m',β',.inl ?_,r2.put hN ?_⟩
   ·simp only[execOp,f1,hy.read r]
    refine q5f ?_
    simp only[Instr.lookup,Sem.run_bind,run_underlying (q5o hT),Result.andThen_ok,hobj2,pure,Sem.run,hK.check _ w kv hg,a1]
    rfl
   ·rw[hr];exact(f4 j _ en a3 a2).2 (by rw[<-hr];rfl)
inductive v1g(x:Value)(d o:V):List (Value×V)->List (Value×V)->Prop
 |here {es:List (Value×V)}:v1g x d o ((x,d)::es) ((x,o)::es)
 |there {q:Value} {v:V} {es es':List (Value×V)} (h:q≠x) (h':v1g x d o es es'):v1g x d o ((q,v)::es) ((q,v)::es')
theorem v1g.at{x:Value}{d o:V}{es es':List (Value×V)}(h:v1g x d o es es'):∃i,es[i]? = some (x,d)/\es'=es.set i (x,o)/\j7j x es' (some o):=by
 induction h with
 |here=>exact⟨0,rfl,rfl,.here⟩
 | @there q v es es' h h' ih=>
  obtain⟨i,h1,h2,h3⟩:=ih
  exact⟨i+1,by simpa using h1,by rw[h2];rfl,.there h h3⟩
theorem z2u(id0 nx':Nat)(hfr:∀m β w a,Rel K m β w a S->β id0=none/\∀q,q<K.pins->q≠id0)(hlt0:id0<nx')(hle0:S.nx<=nx'){d:Nat}{T k e id:Nat}{x y:Operand}{good:Value->Prop}{kv:Value}{es es':List (Value×V)}{dv o:V}{ob:Ob}(hT:q5t K.P T k e=true)(hK:j6x K.P k good)
  (hw:q4g ops S ⟨some d,.lookup T x y false,ty,pos,after,g⟩ true) (hx:evl K S x=.map id) (ho:q5d S.hp id=.map es) (hy:z0o K S y kv) (hg:good kv) (hges:∀p,p∈es->good p.1)
  (hov:ovl dv id0=some (o,ob)) (hl:v1g kv dv o es es') (hN:Nat.blt d K.N=true)
  (kk:q3g K ops rest Q ⟨(d,o)::S.env,(id,.map es')::(id0,ob)::S.hp,nx'⟩):q3g K ops (⟨some d,.lookup T x y false,ty,pos,after,g⟩::rest) Q S:=by
 refine q9j hw (fun m β w a r=>?_) kk
 obtain⟨i,h1,h2,h3⟩:=hl.at
 obtain⟨m',β',r2⟩:=r.takeM id i id0 nx' (hfr m β w a r).1 (hfr m β w a r).2 hlt0 hle0 ho h1 hov
 rw[<-h2] at r2
 have hx2:q3m m' β' (.map id) (a.eval x):=by
  have:=(r2.reads x)
  exact(show evl K ⟨S.env,(id,.map es')::(id0,ob)::S.hp,nx'⟩ x=.map id by cases x<;>exact hx) ▸ this
 obtain⟨b2,ents2,clock2,f1,⟨E2,f2,fP,fW⟩,f3,f4⟩:=(j1g.own (S:=⟨S.env,(id,.map es')::(id0,ob)::S.hp,nx'⟩) (id:=id) (es:=es') (by simp[q1d])).read r2 hx2
 have hges':∀p,p∈es'->good p.1:=by
  intro p hp
  rw[h2] at hp
  rcases List.mem_or_eq_of_mem_set hp with h|h
  ·exact hges p h
  ·rw[h];exact hg
 have hobj2:(getObj b2).run K.P w=.ok (.map E2 clock2) w:=by simp[getObj,Sem.run,f2]
 rcases v7t hK hg f3 (fun i p e a b=>(f4 i p e a b).1) hges' fP fW (w:=w) with ⟨a1,a2,_⟩|⟨j,p,en,jE,a1,a2,a3,a4,a5,aE⟩
 ·have:=h3.none_of a2;simp at this
 ·have hp:p=(kv,p.2):=by rw[<-a4]
  rw[hp] at a3
  have hr:=h3.some_of j p.2 a3 a5
  simp only[Option.some.injEq] at hr
  refine⟨en.val,w,m',β',.inl ?_,r2.put hN ?_⟩
  ·simp only[execOp,f1,hy.read r]
   refine q5f ?_
   simp only[Instr.lookup,Sem.run_bind,run_underlying (q5o hT),Result.andThen_ok,hobj2,pure,Sem.run,hK.check _ w kv hg,a1]
   rfl
  ·rw[hr];exact(f4 j _ en a3 a2).2 (by rw[<-hr];exact(z7o hov).2.1)
theorem q2p{T k e id2:Nat}{x y z:Operand}{good:Value->Prop}{kv:Value}{id:Nat}{es:List (Value×V)}{dv o:V}{ob:Ob}(es3:List (Value×V))(hT:q5t K.P T k e=true)(hK:j6x K.P k good)
  (hw:q4g ops S ⟨none,.mapUpdate T x y z,ty,pos,after,g⟩ true) (hx:evl K S x=.map id) (ho:q5d S.hp id=.map es) (hy:z0o K S y kv) (hg:good kv) (hges:∀p,p∈es->good p.1) (hz:evl K S z=o)
  (hov:ovl dv id2=some (o,ob)) (ho2:q5d S.hp id2=ob) (hne:Nat.beq id id2=false) (hkp:w0h ob)
  (hp:z8y kv dv es es3) (kk:q3g K ops rest Q ⟨S.env,(id,.map es3)::(id2,.dead)::S.hp,S.nx⟩):q3g K ops (⟨none,.mapUpdate T x y z,ty,pos,after,g⟩::rest) Q S:=by
 obtain⟨es2,i,h1,h2,h3⟩:=hp.other o
 have hne:id≠id2:=fun h=>by rw[h,Nat.beq_refl] at hne;simp at hne
 refine q3f es2 hT hK hw hx ho hy hg hges hz h1 (q8f (S':=⟨S.env,(id,.map (es2.set i (kv,dv)))::(id2,.dead)::(id,.map es2)::S.hp,S.nx⟩) (z5k id i id2 (S:=⟨S.env,(id,.map es2)::S.hp,S.nx⟩) (by simp[q1d]) h2 hov (by rw[q1d,if_neg hne];exact ho2) hne hkp) ?_)
 rw[<-h3]
 refine q8f (v5j (S':=⟨S.env,(id,.map es3)::(id2,.dead)::S.hp,S.nx⟩) (fun _=>rfl) (fun t=>?_) rfl) kk
 simp only[q1d]
 split
 ·rfl
 ·split
  ·rfl
  ·rfl
theorem z9d(id id2:Nat){es:List (Value×V)}(es':List (Value×V))(ob:Ob)(ho:q5d S.hp id=.map es)(hl:es.length=es'.length)
  (hk:∀(i:Nat) (p p':Value×V),es[i]? = some p->es'[i]? = some p'->p.1=p'.1/\Und p.2 p'.2/\z7h p.2) (hob:q4b (v1v id es') ob (q5d S.hp id2)):
  q8h K S ⟨S.env,(id,.dead)::(id2,ob)::S.hp,S.nx⟩:=
 j9k id es' _ _ ho hl hk (fun _=>Sub.keepM) (fun i=>by
  rw[q1d]
  split
  ·trivial
  ·rw[q1d]
   split
   ·rename_i h;subst h;exact hob
   ·exact q4b.keep (fun _=>Sub.keepM) _) (by simp[q1d])
end
variable{κ α β γ:Type}[DecidableEq κ]
theorem j0t{e k:Nat}{enc:α->List V}(hi:∀x,q7p (enc x))(l:List α):Und (.dsl e k (l.map enc)) (.lst k (l.map enc)):=
 .sl rfl (fun i r r' h h'=>by rw[h] at h';simp at h';rw[h']) (fun i j r r' c c' h h' hj hj'=>by
  rw[h] at h';simp at h';subst h'
  rw[hj] at hj';simp at hj';subst hj'
  rw[List.getElem?_map,Option.map_eq_some_iff] at h
  obtain⟨x,_,rfl⟩:=h
  exact .imm (hi x c (List.mem_of_getElem? hj)).1)
theorem w5j{E:γ×α->Value×V}(hi:∀p,Imm (E p).2)(l:List (γ×α)):Und (.dmp (l.map E)) (.imap (l.map E)):=
 .mp rfl (fun i r r' h h'=>by rw[h] at h';simp at h';rw[h']) (fun i r r' h h'=>by
  rw[h] at h';simp at h';subst h'
  rw[List.getElem?_map,Option.map_eq_some_iff] at h
  obtain⟨x,_,rfl⟩:=h
  exact .imm (hi x).1)
theorem v9g{τ:Type}{D E:τ->Value×V}(h:∀x,(D x).1=(E x).1/\Und (D x).2 (E x).2/\z7h (D x).2)(l:List τ)(i:Nat)(p p':Value×V)(hp:(l.map D)[i]? = some p)(hp':(l.map E)[i]? = some p'):p.1=p'.1/\Und p.2 p'.2/\z7h p.2:=by
 rw[List.getElem?_map,Option.map_eq_some_iff] at hp hp'
 obtain⟨x,h1,rfl⟩:=hp
 obtain⟨y,h2,rfl⟩:=hp'
 rw[h1] at h2;simp at h2;subst h2
 exact h x
theorem j8n{e k:Nat}{enc:α->List V}(hi:∀x,q7p (enc x))(l:List α):w0h (.arr e k (l.map enc)):=fun r hr=>by
 obtain⟨x,_,rfl⟩:=List.mem_map.1 hr;exact(hi x).keep
theorem j9n{τ:Type}{E:τ->Value×V}(hi:∀p,Imm (E p).2)(l:List τ):w0h (.map (l.map E)):=fun r hr=>by
 obtain⟨x,_,rfl⟩:=List.mem_map.1 hr;exact(hi x).2
def v2j(E:κ×β->Value×V)(nx:Nat)(k0:κ):List (κ×β)->List (Value×V)
 |[]=>[]
 |p::xs=>if p.1=k0 then ((E p).1,.map nx)::xs.map E else E p::v2j E nx k0 xs
theorem v1a(E:κ×List (γ×α)->Value×V)(kf:κ->Value)(enc:γ×α->Value×V)(nx:Nat)(hE:∀p,E p=(kf p.1,.dmp (p.2.map enc)))(hk:∀a b,kf a=kf b->a=b)(k0:κ):
  ∀xs:List (κ×List (γ×α)),(q6b xs k0).isSome=true->v1g (kf k0) (.dmp (((q6b xs k0).getD []).map enc)) (.map nx) (xs.map E) (v2j E nx k0 xs)
 |[],h=>by simp[q6b] at h
 |p::xs,h=>by
  obtain⟨q,l⟩:=p
  simp only[q6b] at h
  simp only[List.map_cons,v2j,q6b,hE]
  by_cases hq:q=k0
  ·subst hq
   simp only[if_pos,Option.getD_some]
   exact .here
  ·rw[if_neg hq] at h
   rw[if_neg hq,if_neg hq]
   exact .there (fun e=>hq (hk _ _ e)) (v1a E kf enc nx hE hk k0 xs h)
theorem v9p(E:κ×List (γ×α)->Value×V)(kf:κ->Value)(enc:γ×α->Value×V)(nx:Nat)(hE:∀p,E p=(kf p.1,.dmp (p.2.map enc)))(k0:κ)(l':List (γ×α)):
  ∀xs:List (κ×List (γ×α)),(q6b xs k0).isSome=true->∃i,(v2j E nx k0 xs)[i]? = some (kf k0,.map nx)/\(q0g xs k0 l').map E=(v2j E nx k0 xs).set i (kf k0,.dmp (l'.map enc))
 |[],h=>by simp[q6b] at h
 |p::xs,h=>by
  obtain⟨q,l⟩:=p
  simp only[q6b] at h
  simp only[v2j,q0g]
  by_cases hq:q=k0
  ·subst hq
   refine⟨0,?_,?_⟩<;>simp[hE]
  ·rw[if_neg hq] at h
   rw[if_neg hq,if_neg hq]
   obtain⟨i,h1,h2⟩:=v9p E kf enc nx hE k0 l' xs h
   exact⟨i+1,by simpa using h1,by rw[List.map_cons,h2];rfl⟩
theorem v1n(E:κ×List (γ×α)->Value×V)(kf:κ->Value)(enc:γ×α->Value×V)(hE:∀p,E p=(kf p.1,.dmp (p.2.map enc)))(hk:∀a b,kf a=kf b->a=b)(k0:κ)(l':List (γ×α)):
  ∀xs:List (κ×List (γ×α)),z8y (kf k0) (.dmp (l'.map enc)) (xs.map E) ((q0g xs k0 l').map E)
 |[]=>by simp only[q0g,List.map_cons,List.map_nil,hE];exact .nil
 |p::xs=>by
  obtain⟨q,l⟩:=p
  simp only[q0g]
  by_cases h:q=k0
  ·subst h
   simp only[if_pos,hE,List.map_cons];exact .here
  ·rw[if_neg h]
   simp only[hE,List.map_cons]
   exact .there (fun e=>h (hk _ _ e)) (by have:=v1n E kf enc hE hk k0 l' xs;simpa only[hE] using this)
section
variable{K:Ctx}{Q:q0r}{S:St}
theorem v6t(id id2:Nat){xs:List (κ×List (γ×α))}{l':List (γ×α)}{k0:κ}(E:κ×List (γ×α)->Value×V)(kf:κ->Value)(enc:γ×α->Value×V)(hE:∀p,E p=(kf p.1,.dmp (p.2.map enc)))
  (hs:(q6b xs k0).isSome=true) (ho:q5d S.hp id=.map (v2j E id2 k0 xs)) (ho2:q5d S.hp id2=.map (l'.map enc)) (hne:Nat.beq id id2=false) (hi:∀p,Imm (enc p).2):
  q8h K S ⟨S.env,(id,.map ((q0g xs k0 l').map E))::(id2,.dead)::S.hp,S.nx⟩:=by
 obtain⟨i,h1,h2⟩:=v9p E kf enc id2 hE k0 l' xs hs
 rw[h2]
 exact z5k id i id2 ho h1 (show ovl (.dmp (l'.map enc)) id2=_ from rfl) ho2 (fun h=>by rw[h,Nat.beq_refl] at hne;simp at hne) (j9n hi l')
end
def v7n{τ:Type}(enc:τ->List V):Option τ->V
 |none=>.con (.pointer none)
 |some x=>.iptr (enc x) 0
theorem w5n{τ:Type}{enc:τ->List V}:∀o:Option τ,Imm (v7n enc o)
 |none=>Imm.con _
 |some _=>Imm.iptr _ _
theorem w7l{τ:Type}{enc:τ->List V}:∀o:Option τ,q1z (v7n enc o)=true
 |none=>rfl
 |some _=>rfl
section
variable{K:Ctx}{Q:q0r}{S:St}{s:List It}
variable{ops:Array Oper}{l:List Oper}
theorem j9o{τ:Type}{enc:τ->List V}{o:Option τ}{x:τ}(t:Nat)(h:o=some x)(ht:get S.env t=v7n enc o):q8h K S ⟨(t,.iptr (enc x) 0)::S.env,S.hp,S.nx⟩:=by
 subst h
 refine q8h.env (S:=S) (fun q=>?_)
 show(bif Nat.beq t q then V.iptr (enc x) 0 else get S.env q)=get S.env q
 cases hq:Nat.beq t q
 ·rfl
 ·have:=Nat.eq_of_beq_eq_true hq
  subst this
  exact ht.symm
theorem opC{τ:Type}{enc:τ->List V}{o:Option τ}{x:τ}(t:Nat)(h:o=some x)(ht:gtC S.env t=some (v7n enc o)){c:Code}(k:WG K Q (.c c::s) ⟨(t,.iptr (enc x) 0)::S.env,S.hp,S.nx⟩):WG K Q (.c c::s) S:=
 v1w (.inl ⟨_,rfl⟩) (j9o t h (q3z ht)) k
theorem opO{τ:Type}{enc:τ->List V}{o:Option τ}{x:τ}(t:Nat)(h:o=some x)(ht:gtC S.env t=some (v7n enc o))(k:WG K Q (.o ops l::s) ⟨(t,.iptr (enc x) 0)::S.env,S.hp,S.nx⟩):WG K Q (.o ops l::s) S:=
 v1w (.inr ⟨_,_,rfl⟩) (j9o t h (q3z ht)) k
theorem w4d{τ:Type}{f:τ->V}{o:Option τ}{z:V}{y:τ}(h:o.isSome=true):(o.map f).getD z=f (o.getD y):=by cases o<;>simp at h ⊢
theorem w5d{τ:Type}{f:τ->V}{o:Option τ}{z:V}(h:o.isSome=false):(o.map f).getD z=z:=by cases o<;>simp at h ⊢
theorem w2c{τ:Type}{f:τ->V}{o:Option τ}{b:Bool}(h:o.isSome=b):(o.map f).isSome=b:=by cases o<;>simpa using h
end
theorem z8s{E:κ×List α->Value×V}{good:Value->Prop}(h:∀p,good (E p).1){nx:Nat}{k0:κ}:∀{xs:List (κ×List α)} (q:Value×V),q∈z7s E nx k0 xs->good q.1
 |[],q,hq=>by simp[z7s] at hq
 |p::xs,q,hq=>by
  simp only[z7s] at hq
  split at hq
  ·rcases List.mem_cons.1 hq with rfl|hq
   ·exact h p
   ·obtain⟨x,_,rfl⟩:=List.mem_map.1 hq;exact h x
  ·rcases List.mem_cons.1 hq with rfl|hq
   ·exact h p
   ·exact z8s h q hq
section
variable{K:Ctx}{Q:q0r}{S:St}
variable{ops:Array Oper}{rest:List Oper}{ty:TypeId}{pos:String}{after:Array Edge}{g:Option (Nat×Bool)}
theorem y2b:∀m β w a,Rel K m β w a S->β S.nx=none/\∀q,q<K.pins->q≠S.nx:=fun _ _ _ _ r=>⟨r.nx _ (Nat.le_refl _),fun q hq=>Nat.ne_of_lt (r.pin q hq).1⟩
theorem q6z{d nx:Nat}{T k e e' k' id n:Nat}{x y:Operand}{good:Value->Prop}{kv:Value}{es es':List (Value×V)}{rws:List (List V)}(idn:Nat)(hid:(Nat.blt idn nx&&Nat.ble K.pins idn)=true)(hnxx:S.nx=nx)(hres:q5d S.hp idn=.res)(hT:q5t K.P T k e=true)(hK:j6x K.P k good)
  (hz:(K.P.info? e).bind (·.zero)=some (.slice none 0 0))
  (hw:q4g ops S ⟨some d,.lookup T x y false,ty,pos,after,g⟩ true) (hx:evl K S x=.map id) (ho:q5d S.hp id=.map es) (hy:z0o K S y kv) (hg:good kv) (hges:∀p,p∈es->good p.1)
  (hl:j2x kv idn e' k' es es' rws) (hn:rws.length=n) (hN:Nat.blt d K.N=true)
  (kk:q3g K ops rest Q ⟨(d,.own idn n)::S.env,(id,.map es')::(idn,.arr e' k' rws)::S.hp,S.nx⟩):q3g K ops (⟨some d,.lookup T x y false,ty,pos,after,g⟩::rest) Q S:=by
 subst hn
 exact z3u idn S.nx (fun _ _ _ _ r=>⟨r.free hres,fun q hq=>by have:=Nat.le_of_ble_eq_true (Bool.and_eq_true_iff.1 hid).2;omega⟩) (by rw[hnxx];exact Nat.le_of_ble_eq_true (Bool.and_eq_true_iff.1 hid).1) (Nat.le_refl _) hT hK hz hw hx ho hy hg hges hl hN kk
theorem j3f{d:Nat}{T k e id:Nat}{x y:Operand}{good:Value->Prop}{kv:Value}{es es':List (Value×V)}{dv o:V}{ob:Ob}(hT:q5t K.P T k e=true)(hK:j6x K.P k good)
  (hw:q4g ops S ⟨some d,.lookup T x y false,ty,pos,after,g⟩ true) (hx:evl K S x=.map id) (ho:q5d S.hp id=.map es) (hy:z0o K S y kv) (hg:good kv) (hges:∀p,p∈es->good p.1)
  (hl:v1g kv dv o es es') (hov:ovl dv S.nx=some (o,ob)) (hN:Nat.blt d K.N=true)
  (kk:q3g K ops rest Q ⟨(d,o)::S.env,(id,.map es')::(S.nx,ob)::S.hp,S.nx+1⟩):q3g K ops (⟨some d,.lookup T x y false,ty,pos,after,g⟩::rest) Q S:=
 z2u S.nx (S.nx+1) y2b (Nat.lt_succ_self _) (Nat.le_succ _) hT hK hw hx ho hy hg hges hov hl hN kk
theorem q6i.consE{Y:Hy}{n:Nat}{σ:Nat->Nat}{hp e:q2l}{id:Nat}{ob ob':Ob}(hn:Nat.blt id n=true)(hh:q5d hp (σ id)=ob')(h:q4b Y ob ob')(h':q6i Y n σ hp e):q6i Y n σ hp ((id,ob)::e):=.cons hn (by rw[hh];exact h) h'
theorem q4s{d nx:Nat}{f:FuncId}{args:Array Operand}{at':Array TypeId}{avs':List V}{k k':Nat}{hp hp':q2l}{dc:V}(res:List Nat)(hnx:S.nx=nx)(hres:∀i,i∈res->q5d S.hp i=.res)
  (dv:V) (avs:List V) (σ τ:Nat->Nat) (u:q2l) (hf:q2m K.P f=true)
  (hw:q4g ops S ⟨some d,.call ⟨.value (.func f),args,at'⟩,ty,pos,after,g⟩ true) (hN:Nat.blt d K.N=true) (ha:args.toList.map (evl K S)=avs)
  (hsub:j5x (Ren k σ) avs' avs) (hhp:q6i (Ren k σ) k σ S.hp hp) (hc:v7k K.gl K.P f avs' k hp dc k' hp')
  (hto:toB k k' nx nx σ τ (fun i=>res.any fun j=>Nat.beq i j)=true) (hτ:injB k' τ=true) (hkk:Nat.ble k k'=true) (hpins:(res.all fun i=>Nat.ble K.pins i)=true)
  (hdv:Sub (To k' τ) dv dc) (hu:w2i (To k' τ) τ hp' k' 0 u)
  (kk:q3g K ops rest Q ⟨(d,dv)::S.env,u++S.hp,S.nx⟩):q3g K ops (⟨some d,.call ⟨.value (.func f),args,at'⟩,ty,pos,after,g⟩::rest) Q S:=by
 subst hnx
 have hfree:∀i,(res.any fun j=>Nat.beq i j)=true->i∈res:=by
  intro i hi
  obtain⟨j,hj,e⟩:=List.any_eq_true.1 hi
  rw[Nat.eq_of_beq_eq_true e];exact hj
 exact j9e σ τ S.nx u (fun i=>res.any fun j=>Nat.beq i j) hw rfl hN (j9z hf ha) hsub (q6i.get hhp) hc
  (fun i hi=>hres i (hfree i hi)) hto hτ (Nat.ble_eq_true_of_le (by omega)) hkk
  (fun i hi=>Nat.le_of_ble_eq_true (List.all_eq_true.1 hpins i (hfree i hi))) hdv hu kk
def j1u(ts:List Nat)(v:V)(e:Env):Env:=match ts with|[]=>e|t::ts=>(t,v)::j1u ts v e
theorem j9a{Y:Hy}{v v0:V}{env:Env}(hk:∀v,Sub Y v v)(h:Sub Y v v0):∀(ts:List Nat),(∀t,t∈ts->get env t=v0)->∀t',Sub Y (get (j1u ts v env) t') (get env t')
 |[],_,t'=>hk _
 |t::ts,hh,t'=>by
  rw[j1u,z0e]
  split
  ·rename_i he;subst he;rw[hh t (by simp)];exact h
  ·exact j9a hk h ts (fun q hq=>hh q (List.mem_cons_of_mem _ hq)) t'
theorem q8l(id:Nat)(ts:List Nat){e k n:Nat}{rows:List (List V)}(ho:q5d S.hp id=.arr e k rows)(hi:∀row,row∈rows->q7p row)
  (ht:∀t,t∈ts->get S.env t=.own id n) (hn:n=rows.length):q8h K S ⟨j1u ts (.lst k rows) S.env,(id,.dead)::S.hp,S.nx⟩:=
 q0t id _ _ ho hi (j9a (fun _=>Sub.keep) (Sub.frzAll hn) ts ht) v8a (by simp[q1d])
inductive Zs:List V->List Value->Prop
 |nil:Zs [] []
 |con {v:Value} {cs:List V} {vs:List Value} (h:Zs cs vs):Zs (.con v::cs) (v::vs)
 |sl {k:Nat} {cs:List V} {vs:List Value} (h:Zs cs vs):Zs (.lst k []::cs) (.slice none 0 0::vs)
theorem Zs.ok{cs:List V}{vs:List Value}(h:Zs cs vs)(m:Mem):cs.length=vs.length/\∀(i:Nat) c v,cs[i]? = some c->vs[i]? = some v->q3o m c v:=by
 induction h with
 |nil=>exact⟨rfl,by simp⟩
 |con h ih=>
  refine⟨by simp[ih.1],fun i c v a b=>?_⟩
  cases i with
  |zero=>simp at a b;subst a;subst b;exact .con _
  |succ i=>exact ih.2 i c v (by simpa using a) (by simpa using b)
 |sl h ih=>
  refine⟨by simp[ih.1],fun i c v a b=>?_⟩
  cases i with
  |zero=>simp at a b;subst a;subst b;exact .nil _ _ _
  |succ i=>exact ih.2 i c v (by simpa using a) (by simpa using b)
theorem z3p{cs:List V}{vs:List Value}(h:Zs cs vs):∀m:Mem,q3o m (.agg cs) (.agg vs.toArray):=fun m=>
 .agg (by simpa using (h.ok m).1) (fun i c v a b=>(h.ok m).2 i c v a (by simpa using b))
theorem w1s:∀{l:List V},q7p l->ndB l=true
 |[],_=>rfl
 |c::l,h=>by
  have h1:=(h c (by simp)).1
  simp only[ndB,h1]
  exact w1s (fun x hx=>h x (List.mem_cons_of_mem _ hx))
theorem v7o{rows:List (List V)}(h:∀row,row∈rows->q7p row):∀row,row∈rows->ndB row=true:=fun row hr=>w1s (h row hr)
end
end Go.Pv
namespace Go.Pv
open Go
set_option linter.unusedVariables false
set_option linter.unusedSimpArgs false
open Go.ChangeMaps (setBlock)
section
variable{K:Ctx}{Q:q0r}{S:St}
variable{m:Mem}{β:q0l}{w:World}{a:Act}
variable{ops:Array Oper}{rest:List Oper}{ty:TypeId}{pos:String}{after:Array Edge}{g:Option (Nat×Bool)}
theorem j2n{P:Program}{w w':World}{s:Sem Value}{v:Value}(h:s.run P w=.ok v w'):(do pure (Next.value (<-s)):Sem Next).run P w=.ok (.value v) w':=by
 rw[Sem.run_bind,h];rfl
theorem z9i{d T k e:Nat}{x:Operand}{es:List (Value×V)}(hT:q5t K.P T k e=true)
  (hw:q4g ops S ⟨some d,.range T x,ty,pos,after,g⟩ true) (hx:evl K S x=.imap es) (hN:Nat.blt d K.N=true)
  (kk:q3g K ops rest Q ⟨(d,.ptr S.nx 1 0 0)::S.env,(S.nx,.iter [] es)::S.hp,S.nx+1⟩):q3g K ops (⟨some d,.range T x,ty,pos,after,g⟩::rest) Q S:=by
 refine q9j hw (fun m β w a r=>?_) kk
 have h:=r.reads x
 rw[hx] at h
 generalize hv:a.eval x=v at h
 cases h with
 |imm h=>
 cases h with
 | @imap _ bm ents clock hm hl hk h=>
 obtain⟨E,hE,hP,hW⟩:=hm
 obtain⟨β',hle,hnx,r2⟩:=r.alloc (.mapIter (some bm) clock #[] clock) (.iter [] es) ⟨0,0⟩ _ rfl (fun β' hle=>⟨bm,#[],E,clock,ents.toList,rfl,by simp,hE,hW,by simpa[leftOf,List.filter_eq_self.2] using hP,by simpa using hl,fun i p e hi he=>⟨hk i p e hi (by simpa using he),h i p e hi (by simpa using he)⟩,by simp⟩)
 refine⟨.pointer (some ⟨w.heap.size,0,none⟩),{ w with heap:=w.heap.push (.mapIter (some bm) clock #[] clock) },m,β',.inl ?_,Rel.put r2 hN (.ptr hnx)⟩
 simp only[execOp,hv]
 exact j2n (run_range_map w T k e bm E clock (q5o hT) (r.imm _ _ hE))
theorem z0u{o:Oper}{S':St}(r:Rel K m β w a S)(hw:q4g ops S o true)
  (h:∃v w' m' β',((execOp a.eval o).run K.P w=.ok (.value v) w')/\Rel K m' β' w' (a.put o.dst v) S') (k:q3g K ops rest Q S'):wpList K.P ops (Q.at K) (o::rest) a w:=by
 unfold wpList
 rw[if_pos (hw.at r)]
 left
 obtain⟨v,w',m',β',h1,r'⟩:=h
 unfold Oper.wp
 rw[h1];exact k m' β' w' _ r'
theorem v9t{v L:List MapEntry}{j:Nat}{e:MapEntry}(h:v.Perm L)(hn:(L.map (·.born)).Nodup)(hj:v[j]? = some e):(v.eraseIdx j).Perm (L.filter fun x=>x.born != e.born):=by
 have h1:=q4z e v j hj
 have hn2:((e::v.eraseIdx j).map (·.born)).Nodup:=((h1.symm.trans h).map _).nodup_iff.2 hn
 have h3:∀x,x∈v.eraseIdx j->(x.born != e.born)=true:=by
  intro x hx
  rw[List.map_cons,List.nodup_cons] at hn2
  simp only[bne_iff_ne,ne_eq]
  intro hh
  exact hn2.1 (List.mem_map.2 ⟨x,hx,hh⟩)
 have h2:=((h1.symm.trans h).filter fun x=>x.born != e.born)
 rw[List.filter_cons,if_neg (by simp),List.filter_eq_self.2 h3] at h2
 exact h2
theorem w0c(E:Array MapEntry)(seen:Array Nat)(b:Nat):(leftOf E (seen.push b)).toList=(leftOf E seen).toList.filter fun x=>x.born != b:=by
 simp only[leftOf,Array.toList_filter,List.filter_filter]
 congr 1
 funext x
 rw[contains_push]
 cases hc:seen.contains x.born<;>by_cases hb:x.born=b<;>simp[hb,bne]
theorem w1g{d id:Nat}{x:Operand}{cur left:List (Value×V)}
  (hw:q4g ops S ⟨some d,.next x false,ty,pos,after,g⟩ true) (hx:evl K S x=.ptr id 1 0 0) (ho:q5d S.hp id=.iter cur left) (hN:Nat.blt d K.N=true)
  (k0:left=[]->q3g K ops rest Q (S.put d (.tup [.con (.bool false)])))
  (k1:∀j p,left[j]? = some p->q3g K ops rest Q ⟨(d,.tup [.con (.bool true),.con p.1,p.2])::S.env,(id,.iter [p] (left.eraseIdx j))::S.hp,S.nx⟩):
  q3g K ops (⟨some d,.next x false,ty,pos,after,g⟩::rest) Q S:=by
 intro m β w a r
 have h:=r.reads x
 rw[hx] at h
 generalize hv:a.eval x=v at h
 cases h with
 |imm h=>cases h
 | @ptr _ _ _ _ b cap hb=>
 have hown:=r.own id
 rw[hb,ho] at hown
 obtain⟨bm,seen,E,clock,v,h0,h1,h2,h3,h4,h5,h6,h7⟩:=hown
 have hpt:Value.pointer (some ⟨b,cap.off+(0*1+0),none⟩)=.pointer (some ⟨b,0,none⟩):=by rw[h0]
 rcases run_next_at (P:=K.P) w ty b bm clock clock seen E clock h1 (r.imm _ _ h2) h3.lt (Nat.le_refl _) with ⟨q1,q2⟩|⟨e,q1,w1,q2,q3⟩
 ·have hl:left=[]:=by
   have:v.length=0:=by rw[h4.length_eq,Array.length_toList];exact q1
   exact List.length_eq_zero_iff.1 (by omega)
  refine z0u r hw ⟨.tuple #[.bool false],w,m,β,?_,r.put hN ?_⟩ (k0 hl)
  ·simp only[execOp,hv,hpt];exact q5f q2
  ·refine .tup rfl fun i c u hi hu=>?_
   match i with
   |0=>simp at hi hu;subst hi;subst hu;exact .imm (.con _)
   |i+1=>simp at hi
 ·obtain⟨j,hj⟩:=List.getElem?_of_mem (h4.mem_iff.2 q1)
  have hlt:j<left.length:=by rw[h5];exact(List.getElem?_eq_some_iff.1 hj).1
  have hp:left[j]? = some left[j]:=List.getElem?_eq_getElem hlt
  obtain⟨e1,e2⟩:=h6 j _ e hp hj
  have r1:Rel K m β w1 a S:=by rcases q2 with rfl|rfl;exact r;exact r.drawn _ (Nat.le_succ _)
  have hh1:w1.heap=w.heap:=by rcases q2 with rfl|rfl<;>rfl
  have hbl:b<w1.heap.size:=by rw[hh1];exact q0i h1
  have r2:=r1.update (by rw[ho];simp) hb (setBlock w1 b (.mapIter (some bm) clock (seen.push e.born) clock)) (.iter [left[j]] (left.eraseIdx j))
   (fun b' hne=>by simp only[setBlock,Array.getElem?_setIfInBounds];rw[if_neg (Ne.symm hne)]) (by simp[setBlock]) ⟨rfl,rfl,rfl,Nat.le_refl _⟩
   (fun _=>⟨bm,seen.push e.born,E,clock,v.eraseIdx j,h0,by simp[setBlock,hbl],h2,h3,by
    rw[w0c]
    refine v9t h4 ?_ hj
    have:((leftOf E seen).toList).Sublist E.toList:=by simp only[leftOf,Array.toList_filter];exact List.filter_sublist
    exact List.Nodup.sublist (this.map _) h3.born,by rw[List.length_eraseIdx,List.length_eraseIdx,h5],fun i p e' hi he=>by
    rw[List.getElem?_eraseIdx] at hi he
    split at hi
    ·rename_i hlt;rw[if_pos hlt] at he;exact h6 i p e' hi he
    ·rename_i hlt;rw[if_neg hlt] at he;exact h6 _ p e' hi he,fun p hpc=>by
    simp at hpc;subst hpc
    exact⟨e,(mem_left q1).1,by simp,e1,e2⟩⟩)
  refine z0u r hw ⟨.tuple #[.bool true,e.key,e.val],_,m,β,?_,r2.put hN ?_⟩ (k1 j left[j] hp)
  ·simp only[execOp,hv,hpt];exact j2n q3
  ·refine .tup rfl fun i c u hi hu=>?_
   match i with
   |0=>simp at hi hu;subst hi;subst hu;exact .imm (.con _)
   |1=>simp at hi hu;subst hi;subst hu;rw[<-e1];exact .imm (.con _)
   |2=>simp at hi hu;subst hi;subst hu;exact .imm e2
   |i+3=>simp at hi
theorem z0j{d id:Nat}{x:Operand}{p:Value×V}{left:List (Value×V)}
  (hw:q4g ops S ⟨some d,.entry x,ty,pos,after,g⟩ true) (hx:evl K S x=.ptr id 1 0 0) (ho:q5d S.hp id=.iter [p] left) (hN:Nat.blt d K.N=true)
  (kk:q3g K ops rest Q (S.put d (.tup [.con p.1,p.2]))):q3g K ops (⟨some d,.entry x,ty,pos,after,g⟩::rest) Q S:=by
 intro m β w a r
 have h:=r.reads x
 rw[hx] at h
 generalize hv:a.eval x=v at h
 cases h with
 |imm h=>cases h
 | @ptr _ _ _ _ b cap hb=>
 have hown:=r.own id
 rw[hb,ho] at hown
 obtain⟨bm,seen,E,clock,v,h0,h1,h2,h3,h4,h5,h6,h7⟩:=hown
 have hpt:Value.pointer (some ⟨b,cap.off+(0*1+0),none⟩)=.pointer (some ⟨b,0,none⟩):=by rw[h0]
 obtain⟨e,q1,q2,q3,q4⟩:=h7 p (by simp)
 have hf:E.find? (·.born==e.born)=some e:=by rw[<-Array.find?_toList];exact find_born e E.toList h3.born q1
 refine z0u r hw ⟨.tuple #[e.key,e.val],w,m,β,?_,r.put hN ?_⟩ kk
 ·simp only[execOp,hv,hpt]
  refine q5f ?_
  simp only[Instr.entry,getObj,Sem.run_bind,Sem.run,h1,r.imm _ _ h2,Result.andThen,q2,bne_self_eq_false,Bool.false_eq_true,if_false,hf]
  rfl
 ·refine .tup rfl fun i c u hi hu=>?_
  match i with
  |0=>simp at hi hu;subst hi;subst hu;rw[<-q3];exact .imm (.con _)
  |1=>simp at hi hu;subst hi;subst hu;exact .imm q4
  |i+2=>simp at hi
theorem z8q{d n:Nat}{x:Operand}{T k e:TypeId}{mv:V}{es:List (Value×V)}(hT:q5t K.P T k e=true)
  (hw:q4g ops S ⟨some d,.call ⟨.builtin .len,#[x],#[T]⟩,ty,pos,after,g⟩ true) (hx:evl K S x=mv) (hm:j1g S mv es) (hn:es.length=n) (hN:Nat.blt d K.N=true)
  (kk:q3g K ops rest Q (S.put d (.con (.int .i64 n)))):
  q3g K ops (⟨some d,.call ⟨.builtin .len,#[x],#[T]⟩,ty,pos,after,g⟩::rest) Q S:=
 q4h _ hw hN (fun m β w a r=>by
  have h:=r.reads x
  rw[hx] at h
  obtain⟨b,ents,clock,e1,⟨E,e2,eP,eW⟩,e3,e4⟩:=hm.read r h
  have hsz:E.size=n:=by
   have:=eP.length_eq
   simp at this
   omega
  refine⟨.int .i64 n,q4r rfl ?_,.imm (.con _)⟩
  simp only[builtin]
  refine q5f ?_
  have hobj:(getObj b).run K.P w=.ok (.map E clock) w:=by simp[getObj,Sem.run,e2]
  simp only[Builtin.len_,List.map_toArray,List.map_cons,List.map_nil,e1]
  simp[run_underlying (q5o hT),goInt,pure,Sem.run,hobj,hsz]) kk
theorem v3w{γ δ:Type}(R:γ->δ->Prop):∀{l l':List γ},l.Perm l'->∀(v:List δ),l.length=v.length->(∀(i:Nat) p e,l[i]? = some p->v[i]? = some e->R p e)->
  ∃v',v.Perm v'/\l'.length=v'.length/\∀(i:Nat) p e,l'[i]? = some p->v'[i]? = some e->R p e:=by
 intro l l' h
 induction h with
 |nil=>exact fun v hl hr=>⟨v,.refl _,hl,hr⟩
 | @cons x l1 l2 h ih=>
  intro v hl hr
  cases v with
  |nil=>simp at hl
  |cons y v=>
   obtain⟨v',a1,a2,a3⟩:=ih v (by simpa using hl) (fun i p e hi he=>hr (i+1) p e (by simpa using hi) (by simpa using he))
   refine⟨y::v',a1.cons _,by simp[a2],fun i p e hi he=>?_⟩
   cases i with
   |zero=>exact hr 0 p e (by simpa using hi) (by simpa using he)
   |succ i=>exact a3 i p e (by simpa using hi) (by simpa using he)
 | @swap x y l=>
  intro v hl hr
  match v,hl with
  |z::t::v,hl=>
   refine⟨t::z::v,.swap _ _ _,by simpa using hl,fun i p e hi he=>?_⟩
   match i with
   |0=>exact hr 1 p e (by simpa using hi) (by simpa using he)
   |1=>exact hr 0 p e (by simpa using hi) (by simpa using he)
   |i+2=>exact hr (i+2) p e (by simpa using hi) (by simpa using he)
 |trans _ _ ih1 ih2=>
  intro v hl hr
  obtain⟨v1,a1,a2,a3⟩:=ih1 v hl hr
  obtain⟨v2,b1,b2,b3⟩:=ih2 v1 a2 a3
  exact⟨v2,a1.trans b1,b2,b3⟩
theorem q8p(id:Nat){es es':List (Value×V)}(ho:q5d S.hp id=.map es)(hp:es.Perm es'):q8h K S ⟨S.env,(id,.map es')::S.hp,S.nx⟩:=by
 intro m β w a r
 have hl0:q5d S.hp id≠.dead:=by rw[ho];simp
 have key:q2k m β w (β.hid id) (β id) (.map es'):=by
  have hown:=r.own id
  rw[ho] at hown
  obtain⟨b,cap,hb⟩:=j7c r ho
  rw[hb] at hown ⊢
  obtain⟨ents,clock,bl,⟨E,q1,qP,qW⟩,q2,q6,q7⟩:=hown
  -- entries with their numbers
  have hz:es.length=(ents.toList.zipIdx).length:=by simpa using q2
  obtain⟨v',a1,a2,a3⟩:=v3w (fun(p:Value×V) (e:MapEntry×Nat)=>e.1.key=p.1/\j6a m β w (bl e.2) p.2 e.1.val) hp ents.toList.zipIdx hz (fun i p e hi he=>by
   rw[List.getElem?_zipIdx] at he
   simp only[Option.map_eq_some_iff] at he
   obtain⟨e0,he0,rfl⟩:=he
   have:=q7 i p e0 hi (by simpa using he0)
   simpa using this)
  have hnd:(v'.map (·.2)).Nodup:=by
   refine(a1.map _).nodup_iff.1 ?_
   rw[List.zipIdx_map_snd]
   exact List.nodup_range'
  refine⟨(v'.map (·.1)).toArray,clock,fun i x=>∃e,v'[i]? = some e/\bl e.2 x,⟨E,q1,?_,qW⟩,by simpa using a2,⟨fun p x ⟨e,_,hx⟩=>q6.1 _ x hx,fun p p' x ⟨e,he,hx⟩ ⟨e',he',hx'⟩=>?_⟩,fun i p e hi he=>?_⟩
  ·have:=(a1.map (·.1)).symm
   rw[List.zipIdx_map_fst] at this
   simpa using this.trans qP
  ·have h1:=q6.2 _ _ x hx hx'
   have e1:(v'.map (·.2))[p]? = some e.2:=by simp[he]
   have e2:(v'.map (·.2))[p']? = some e.2:=by simp[he',h1]
   exact(List.getElem?_inj (List.getElem?_eq_some_iff.1 e1).1 hnd).1 (e1.trans e2.symm)
  ·simp at he
   obtain⟨n,hn⟩:=he
   obtain⟨b1,b2⟩:=a3 i p _ hi hn
   exact⟨b1,b2.mono (Mem.le_refl _) (q0l.le_refl _) (fun x hx=>⟨_,hn,hx⟩) (fun _ _=>rfl)⟩
 have hg:∀i,q5d ((id,.map es')::S.hp) i≠.dead->q5d S.hp i≠.dead:=by
  intro i hi
  rw[q1d] at hi
  split at hi
  ·rename_i h;subst h;exact hl0
  ·exact hi
 exact⟨m,β,r.imm,r.ext,r.mold,r.frame,r.size,r.same,r.tn,r.df,r.env,fun i=>by
  rw[q1d]
  split
  ·rename_i h;subst h;exact key
  ·exact r.own i,fun i b c h=>r.priv i b c (hg i h),fun i i' b c c' h h'=>r.inj i i' b c c' (hg i h) (hg i' h'),fun i x h hx=>(r.hid i x (hg i h) hx).weak hg,r.nx,r.pin⟩
end
theorem q4b.itr{Y:Hy}[j7x Y]{c l:List (Value×V)}:q4b Y (.iter [] l) (.iter c l):=⟨by simp,rfl,j7x.h⟩
inductive v2v(Y:Hy)(env:Env):Env->Prop
 |refl:v2v Y env env
 |put {e:Env} {t:Nat} {v v0:V} (ht:get env t=v0) (hv:Sub Y v v0) (h:v2v Y env e):v2v Y env ((t,v)::e)
theorem v2v.get{Y:Hy}{env e:Env}(hk:∀v,Sub Y v v)(h:v2v Y env e)(t:Nat):Sub Y (get e t) (get env t):=by
 induction h with
 |refl=>exact hk _
 |put ht hv _ ih=>
  rw[z0e]
  split
  ·rename_i he;subst he;rw[ht];exact hv
  ·exact ih
inductive HpFz(Y:Hy)(hp:q2l):q2l->Prop
 |refl:HpFz Y hp hp
 |put {e:q2l} {t:Nat} {v v0:Ob} (ht:q5d hp t=v0) (hv:q4b Y v v0) (h:HpFz Y hp e):HpFz Y hp ((t,v)::e)
theorem HpFz.get{Y:Hy}{hp e:q2l}(hk:∀v,q4b Y v v)(h:HpFz Y hp e)(t:Nat):q4b Y (q5d e t) (q5d hp t):=by
 induction h with
 |refl=>exact hk _
 |put ht hv _ ih=>
  rw[q1d]
  split
  ·rename_i he;subst he;rw[ht];exact hv
  ·exact ih
section
variable{K:Ctx}{S:St}
theorem q0w(id:Nat){es:List (Value×V)}{env:Env}{hp:q2l}(ho:q5d S.hp id=.map es)(hi:∀p,p∈es->Imm p.2)(he:v2v (v1v id es) S.env env)(hh:HpFz (v1v id es) S.hp hp):
  q8h K S ⟨env,(id,.dead)::hp,S.nx⟩:=
 z6p id env _ ho hi (he.get (fun _=>Sub.keepM)) (fun i=>by
  rw[q1d]
  split
  ·trivial
  ·exact hh.get (fun _=>q4b.keep (fun _=>Sub.keepM) _) i) (by simp[q1d])
end
def leT(a b:B8):Bool:=!(Op.bytesLess b a)
def q4m{α:Type}(l:List (B8×α)):List (B8×α):=l.mergeSort fun a b=>leT a.1 b.1
theorem q2w{α:Type}(l:List (B8×α)):(q4m l).Perm l:=List.mergeSort_perm _ _
theorem q8r{α β:Type}(f:B8×α->β)(l:List (B8×α)):(l.map f).Perm ((q4m l).map f):=((q2w l).map f).symm
def RM{α:Type}(n:Nat)(l:List α)(P:Prop):Prop:=l.length<n/\P
theorem RM.zero{α:Type}{l:List α}{P:Prop}{X:Prop}(h:RM 0 l P):X:=absurd h.1 (Nat.not_lt_zero _)
theorem RM.start{α:Type}{l:List α}{P:Prop}(h:P):RM (l.length+1) l P:=⟨Nat.lt_succ_self _,h⟩
theorem RM.step{α:Type}{l l':List α}{n:Nat}{P P':Prop}(h:RM (n+1) l P)(hq:l'.length<l.length)(h':P'):RM n l' P':=⟨by have:=h.1;omega,h'⟩
section
variable{K:Ctx}{Q:q0r}{S:St}{s:List It}
variable{ops:Array Oper}{rest:List Oper}{ty:TypeId}{pos:String}{after:Array Edge}{g:Option (Nat×Bool)}
theorem nxt{α:Type}{enc:α->Value×V}{xs:List α}{d id nx:Nat}{env:Env}{hp:q2l}{x:Operand}{cur:List (Value×V)}(hx:evl K ⟨env,hp,nx⟩ x=.ptr id 1 0 0)(ho:q5d hp id=.iter cur (xs.map enc))(hw:q4g ops ⟨env,hp,nx⟩ ⟨some d,.next x false,ty,pos,after,g⟩ true)(hN:Nat.blt d K.N=true)
  (k0:xs=[]->WG K Q (.o ops rest::s) ⟨(d,.tup [.con (.bool false)])::env,hp,nx⟩)
  (k1:∀x l',l'.length<xs.length->xs.Perm (x::l')->WG K Q (.o ops rest::s) ⟨(d,.tup [.con (.bool true),.con (enc x).1,(enc x).2])::env,(id,.iter [enc x] (l'.map enc))::hp,nx⟩):
  WG K Q (.o ops (⟨some d,.next x false,ty,pos,after,g⟩::rest)::s) ⟨env,hp,nx⟩:=by
 refine w1g hw hx ho hN (fun h=>k0 (List.map_eq_nil_iff.1 h)) (fun j p hj=>?_)
 rw[List.getElem?_map,Option.map_eq_some_iff] at hj
 obtain⟨y,h1,rfl⟩:=hj
 rw[<-ChangeMaps.map_eraseIdx enc xs j]
 have hlt:=(List.getElem?_eq_some_iff.1 h1).1
 exact k1 y (xs.eraseIdx j) (by rw[List.length_eraseIdx,if_pos hlt];omega) (q4z y xs j h1)
end
end Go.Pv
namespace Go.Pv
open Go Go.RowKit
set_option linter.unusedVariables false
set_option linter.unusedSimpArgs false
open Go.Sort in
theorem j8z{gl:Gl}{P:Program}{f:FuncId}{k id:Nat}{hp:q2l}{e:TypeId}{α:Type}[Inhabited α](enc:α->Value)(h1c:∀x,(enc x).oneCell'=true)(l l' zs:List α)(hid:q5d hp id=.arr e 1 (l.map fun x=>[V.con (enc x)]))(hl:(l'++zs).length=l.length)
  (h:∀(w:World) (blk off cap:Nat),Holds enc w blk off l.toArray->blk<w.heap.size->l.length<=cap->Calls P f #[.slice (some ⟨blk,off,none⟩) l.length cap] w fun e w'=>
   e=.returned (.slice (some ⟨blk,off,none⟩) l'.length cap)/\∃n os,w'=grow (putRow enc (Sort.ahead w n) blk off (l'++zs).toArray) os)
  (hn:∀(w:World) (a:Option Addr),l=[]->Calls P f #[.slice a 0 0] w fun e w'=>e=.returned (.slice a 0 0)/\Below w.heap.size w w'/\w.drawn<=w'.drawn):
  v7k gl P f [.own id l.length] k hp (.own id l'.length) k ((id,.arr e 1 (l'.map fun x=>[V.con (enc x)]))::hp):=by
 intro m β w vs himm _ hargs hown hpriv hinj hhid hnx
 obtain⟨v,rfl⟩:∃v,vs=#[v]:=by
  have:=hargs.len
  simp at this
  exact⟨vs[0],by
   apply Array.ext
   ·simp[<-this]
   ·intro i h1 h2
    have:i=0:=by simp at h2;omega
    subst this;simp⟩
 have hv:=hargs.at' 0 _ _ rfl rfl
 have hob:=hown id
 rw[hid] at hob
 have hg:∀q,q5d ((id,Ob.arr e 1 (l'.map fun x=>[V.con (enc x)]))::hp) q=if id=q then Ob.arr e 1 (l'.map fun x=>[V.con (enc x)]) else q5d hp q:=fun q=>q1d _ _ _ _
 have hlive:∀q,q5d ((id,Ob.arr e 1 (l'.map fun x=>[V.con (enc x)]))::hp) q≠.dead->q5d hp q≠.dead:=fun q hq=>by
  rw[hg] at hq
  split at hq
  ·rename_i hh;subst hh;rw[hid];simp
  ·exact hq
 have hhids:∀(w':World),w.heap.size<=w'.heap.size->∀q x,q5d ((id,Ob.arr e 1 (l'.map fun x=>[V.con (enc x)]))::hp) q≠.dead->β.hid q x->x<w'.heap.size/\m x=none/\(x<w.heap.size->¬q1u hp β x)/\
   (∀i b c,q5d ((id,Ob.arr e 1 (l'.map fun x=>[V.con (enc x)]))::hp) i≠.dead->β i=some (some (b,c))->x≠b)/\∀i,q5d ((id,Ob.arr e 1 (l'.map fun x=>[V.con (enc x)]))::hp) i≠.dead->β.hid i x->i=q:=by
  intro w' hs q x hq hx
  obtain⟨q1,q2,q3,q4⟩:=hhid q x (hlive q hq) hx
  exact⟨by omega,q2,fun _ hF=>(hF q (hlive q hq)).2 hx,fun i b c hi=>q3 i b c (hlive i hi),fun i hi=>q4 i (hlive i hi)⟩
 generalize hnl:l.length=n at hv h
 cases hv with
 |imm h'=>cases h'
 | @ownNil _ ad hb=>
  have hl0:l=[]:=List.length_eq_zero_iff.1 hnl
  subst hl0
  have hl':l'=[]:=by
   have:(l'++zs).length=0:=by simpa using hl
   simp at this;exact this.1
  subst hl'
  refine(hn w ad rfl).mono ?_
  rintro ex w' ⟨rfl,hB,hdr⟩
  have hheap:∀b,b<w.heap.size->w'.heap[b]? = w.heap[b]?:=hB.block
  refine⟨_,m,β,rfl,.ownNil hb,Mem.le_refl _,fun b o hb=>by rw[hheap b (q0i (himm b o hb))];exact himm b o hb,fun b hb _=>⟨rfl,hheap b hb⟩,hB.size,⟨hB.os,hB.tape,hB.output,hdr⟩,fun q=>?_,fun q b cap hq hbq=>?_,fun q q' b cap cap' hq hq'=>hinj q q' b cap cap' (hlive q hq) (hlive q' hq'),hhids w' hB.size,hnx,fun q hq=>⟨hq,rfl⟩⟩
  ·rw[hg]
   split
   ·rename_i hh;subst hh;rw[hb];simp[q2k]
   ·by_cases hd:q5d hp q=.dead
    ·rw[hd];exact q2k.dead' _
    ·exact q2k.congr (fun b cap hbb=>hheap b (q7v hd hbb (hown q))) (fun x hx=>hheap x (hhid q x hd hx).1) (hown q)
  ·have hq:=hlive q hq
   exact⟨hpriv q b cap hq hbq,fun _ hF=>(hF q hq).1 cap hbq⟩
 | @own _ _ b cap hb=>
  rw[hb] at hob
  obtain⟨arr,bl,o1,o2,o3,o4,o5,oB,o6⟩:=hob
  have hbs:b<w.heap.size:=q0i o1
  have hcell:∀j (hj:j<l.length),arr[cap.off+j]? = some (enc l[j]):=fun j hj=>by
   obtain⟨v,v1,v2,_⟩:=o6 j 0 [V.con (enc l[j])] (V.con (enc l[j])) (by simp[List.getElem?_eq_getElem hj]) rfl
   have:=(v2.v rfl).of_con
   subst this
   simpa using v1
  refine(h w b cap.off cap.n (fun j hj=>?_) hbs (by simpa[hnl] using o3)).mono ?_
  ·have hj':j<l.length:=by simpa using hj
   have hz:(l.toArray)[j]! = l[j]:=by rw[getElem!_pos _ j hj];simp
   rw[hz]
   exact⟨(q0j o1).trans (hcell j hj'),by simp[World.frozen?,o1]⟩
  rintro ex w' ⟨rfl,nd,os,rfl⟩
  have hheap:=z9a enc w nd b cap.off (l'++zs).toArray os
  have hother:∀b',b'<w.heap.size->b'≠b->(grow (putRow enc (Sort.ahead w nd) b cap.off (l'++zs).toArray) os).heap[b']? = w.heap[b']?:=fun b' h1 h2=>by rw[hheap b' h1,if_neg (Ne.symm h2)]
  have hlid:q5d hp id≠.dead:=by rw[hid];simp
  have hsz:w.heap.size<=(grow (putRow enc (Sort.ahead w nd) b cap.off (l'++zs).toArray) os).heap.size:=by simp[grow,putRow,mapBlock,Sort.ahead]
  refine⟨_,m,β,rfl,.own hb,Mem.le_refl _,fun b' o hb'=>?_,fun b' hb' hF=>⟨rfl,hother b' hb' (fun e=>?_)⟩,hsz,⟨rfl,rfl,rfl,Nat.le_add_right _ _⟩,fun q=>?_,fun q b' cap' hq hbq=>?_,fun q q' b1 cap1 cap2 hq hq'=>hinj q q' b1 cap1 cap2 (hlive q hq) (hlive q' hq'),hhids _ hsz,hnx,fun q hq=>⟨hq,rfl⟩⟩
  ·have hne:b'≠b:=fun e=>by
    subst e
    rw[hpriv id b' cap hlid hb] at hb'
    simp at hb'
   rw[hother b' (q0i (himm b' o hb')) hne]
   exact himm b' o hb'
  ·subst e;exact(hF id hlid).1 cap hb
  ·rw[hg]
   split
   ·rename_i hh
    subst hh
    rw[hb]
    refine⟨putCells enc cap.off (l'++zs).toArray arr,bl,by rw[hheap b hbs,if_pos rfl,o1];rfl,by simp[putCells,o2],by simp at hl o3 ⊢;omega,o4,?_,oB,fun i j row c hr hc=>?_⟩
    ·intro row hr
     obtain⟨x,_,rfl⟩:=List.mem_map.1 hr
     rfl
    ·rw[List.getElem?_map] at hr
     cases hli:l'[i]? with
     |none=>rw[hli] at hr;simp at hr
     |some x=>
      rw[hli] at hr
      simp at hr
      subst hr
      have hi:i<l'.length:=(List.getElem?_eq_some_iff.1 hli).1
      have hx:l'[i]=x:=(List.getElem?_eq_some_iff.1 hli).2
      have hj:j=0:=by
       have:=(List.getElem?_eq_some_iff.1 hc).1
       simp at this;exact this
      subst hj
      simp at hc
      subst hc
      have ha:cap.off+i<arr.size:=by simp at hl o3;omega
      refine⟨enc x,?_,.inl (.imm (.con _)),h1c x⟩
      rw[Nat.mul_one,Nat.add_zero]
      unfold putCells
      rw[Array.getElem?_mapIdx,Array.getElem?_eq_getElem ha,Option.map_some,if_pos ⟨Nat.le_add_right _ _,by simp;omega⟩,Nat.add_sub_cancel_left,getElem!_pos _ i (by simp;omega)]
      simp[List.getElem_append_left hi,hx]
   ·by_cases hd:q5d hp q=.dead
    ·rw[hd];exact q2k.dead' _
    ·refine q2k.congr (fun b' cap' hbb=>hother b' (q7v hd hbb (hown q)) (fun e=>?_)) (fun x hx=>hother x (hhid q x hd hx).1 ((hhid q x hd hx).2.2.1 id b cap hlid hb)) (hown q)
     subst e
     rename_i hne
     exact hne (hinj id q b' cap cap' hlid hd hb hbb)
  ·have hq:=hlive q hq
   exact⟨hpriv q b' cap' hq hbq,fun _ hF=>(hF q hq).1 cap' hbq⟩
def cpt{α:Type}[Inhabited α][DecidableEq α](l:List α):List α:=Lib.compact l
theorem j5e{α:Type}[Inhabited α][DecidableEq α](d:Array α)(m:Nat):(Lib.compactUpTo d m).length<=m:=by
 simp only[Lib.compactUpTo,List.length_map]
 exact Nat.le_trans (List.length_filter_le _ _) (by simp)
theorem w9e{α:Type}[Inhabited α][DecidableEq α](l:List α):(cpt l).length<=l.length:=j5e _ _
theorem v0q(w:World):w=Go.Sort.grow w #[]:=by cases w;simp[Go.Sort.grow]
theorem y1a{α:Type}(l c:List α)(h:c.length<=l.length)(z:α):(c++List.replicate (l.length - c.length) z).length=l.length:=by simp;omega
open Go.Sort in
theorem j7z{gl:Gl}{P:Program}{f:FuncId}{k id:Nat}{hp:q2l}{e:TypeId}{α:Type}[Inhabited α][DecidableEq α](enc:α->Value)(h1c:∀x,(enc x).oneCell'=true)(z:α)(l:List α)(hid:q5d hp id=.arr e 1 (l.map fun x=>[V.con (enc x)]))
  (h:∀(blk off cap:Nat) (zs:List α) (w:World),Holds enc w blk off zs.toArray->zs.length<=9223372036854775807->zs.length<=cap->Calls P f #[.slice (some ⟨blk,off,none⟩) zs.length cap] w fun e w'=>
   e=.returned (.slice (some ⟨blk,off,none⟩) (Lib.compact zs).length cap)/\∃q,w'=putRow enc (Sort.ahead w q) blk off (Lib.compact zs++List.replicate (zs.length - (Lib.compact zs).length) z).toArray)
  (hn:∀(p:Option Addr) (w:World),Calls P f #[.slice p 0 0] w fun e w'=>e=.returned (.slice p 0 0)/\w'=w) (hc:l.length<=140737488355328):
  v7k gl P f [.own id l.length] k hp (.own id (cpt l).length) k ((id,.arr e 1 ((cpt l).map fun x=>[V.con (enc x)]))::hp):=
 j8z enc h1c l (cpt l) (List.replicate (l.length - (cpt l).length) z) hid (y1a _ _ (w9e l) z) (fun w blk off cap hH _ hcap=>(h blk off cap l w hH (by omega) hcap).mono (by rintro e w' ⟨rfl,q,rfl⟩;exact⟨rfl,q,#[],v0q _⟩)) (fun w a _=>(hn a w).mono (by rintro e w' ⟨rfl,rfl⟩;exact⟨rfl,Below.refl _ _,Nat.le_refl _⟩))
end Go.Pv
