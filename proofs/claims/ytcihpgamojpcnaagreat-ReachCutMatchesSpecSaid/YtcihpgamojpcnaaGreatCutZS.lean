/- Part of the proof: DO, DR, ZC, ZS. -/
import Derived.Test.YtcihpgamojpcnaaGreatCutDN
import Derived.Test.YtcihpgamojpcnaaGreatCutWA
import Derived.Test.YtcihpgamojpcnaaGreatCutZA
import Derived.Maps.RangeRun
import Derived.Lib.SlicesCompact
import Derived.Shelf.SlSortCmp.NoneTotal
set_option linter.unusedSimpArgs false
set_option linter.unusedVariables false
namespace Go.Pv
open Go
section
variable{K:Ctx}{Q:q5q}{S:St}
variable{m:Mem}{β:q4m}{w:World}{a:Act}
variable{ops:Array Oper}{rest:List Oper}{ty:TypeId}{pos:String}{after:Array Edge}{g:Option (Nat×Bool)}
theorem j8l(id:Nat){es:List (Value×V)}(es':List (Value×V))(env:Env)(hp:q0m)(ho:q1e S.hp id=.map es)(hl:es.length=es'.length)
  (hk:∀(i:Nat) (p p':Value×V),es[i]? = some p->es'[i]? = some p'->p.1=p'.1/\Und p.2 p'.2/\q9y p.2)
  (henv:∀t,Sub (v1w id es') (get env t) (get S.env t)) (hhp:∀i,q4b (v1w id es') (q1e hp i) (q1e S.hp i)) (hd:q1e hp id=.dead):q6h K S ⟨env,hp,S.nx⟩:=by
 intro m β w a r;have hlid:q1e S.hp id≠.dead:=by rw[ho];simp
 obtain⟨b,cap,hb⟩:=j7s r ho;have hown:=r.own id;rw[ho,hb] at hown;obtain⟨ents,clock,bl,h1,h2,hBl,h6⟩:=hown;have hp':=r.priv id b cap hlid hb
 have key:∃m',(∀b o,m' b=some o->w.heap[b]? = some o)/\v1w id es' m β m' β/\(∀b',m' b'=m b'\/(∃cap,β id=some (some (b',cap)))\/β.hid id b'):=by
  classical
  let m':Mem:=fun b'=>if b'=b\/β.hid id b' then w.heap[b']? else m b'
  have hmb:∀x,(x=b\/β.hid id x)->m' x=w.heap[x]?:=fun x h=>by simp only[m'];rw[if_pos h]
  have hmo:∀x,¬(x=b\/β.hid id x)->m' x=m x:=fun x h=>by simp only[m'];rw[if_neg h]
  have hle:m.le m':=by
   intro b' o h;rw[hmo]
   ·exact h
   ·rintro(e'|e')
    ·subst e';rw[hp'.1] at h;simp at h
    ·rw[(r.hid id b' hlid e').m] at h;simp at h
  refine⟨m',?_,⟨hle,rfl,?_⟩,?_⟩
  ·intro b' o h;by_cases hbb:b'=b\/β.hid id b'
   ·rw[hmb b' hbb] at h;exact h
   ·rw[hmo b' hbb] at h;exact r.imm _ _ h
  ·intro x hx;cases hx with
   |imm h=>cases h
   | @map _ b2 cap2 h=>
    rw[hb] at h;simp only[bc8,Prod.mk.injEq] at h;obtain⟨rfl,rfl⟩:=h;refine .imap (by rw[hmb b (.inl rfl)];exact h1) (by omega) (fun i p e hi he=>?_) (fun i p e hi he=>?_)
    ·have hlt:i<es.length:=by rw[hl];exact(bi8.1 hi).1
     rw[(h6 i _ e (be8 hlt) he).1];exact(hk i _ p (be8 hlt) hi).1
    ·have hlt:i<es.length:=by rw[hl];exact(bi8.1 hi).1
     obtain⟨u1,u2,u3⟩:=hk i _ p (be8 hlt) hi;have hd:z9m m w (bl i) es[i].2 e.val:=(h6 i _ e (be8 hlt) he).2.elim (fun h=>.imm (u3 _ _ _ h)) (fun h=>h);exact hd.und hle p.2 u2 (fun x hx=>hmb x (.inr (hBl.1 _ x hx)))
  ·intro b';by_cases hbb:b'=b\/β.hid id b'
   ·rcases hbb with h|h
    ·exact .inr (.inl ⟨cap,by rw[h];exact hb⟩)
    ·exact .inr (.inr h)
   ·exact .inl (hmo b' hbb)
 obtain⟨m',k1,hy,k2⟩:=key
 have hlive:∀i,q1e hp i≠.dead->q1e S.hp i≠.dead/\i≠id:=by
  intro i h;have h2:=hhp i;refine⟨fun hdd=>?_,fun he=>h (by rw[he];exact hd)⟩;rw[hdd] at h2;cases ho':q1e hp i with
  |dead=>exact h ho'
  |arr=>rw[ho'] at h2;simp[q4b] at h2
  |res=>rw[ho'] at h2;simp[q4b] at h2
  |map=>rw[ho'] at h2;simp[q4b] at h2
  |iter=>rw[ho'] at h2;simp[q4b] at h2
  |bld=>rw[ho'] at h2;simp[q4b] at h2
 refine⟨m',β,?_⟩;constructor
 ·exact k1
 ·exact Mem.le_trans r.ext hy.1
 ·intro b hb' hold;rcases k2 b with h|⟨cap2,h⟩|h
  ·rw[h];exact r.mold b hb' hold
  ·exact absurd hold ((r.priv id b _ hlid h).2 hb')
  ·exact absurd hold ((r.hid id b hlid h).old hb')
 ·exact r.frame
 ·exact r.size
 ·exact r.same
 ·exact r.tn
 ·exact r.df
 ·exact fun t=>henv t _ _ _ _ _ hy (r.env t)
 ·intro i;exact(hhp i).ok hy (r.own i)
 ·intro i b cap hl hb';obtain⟨h1,h2⟩:=hlive i hl;have hp':=r.priv i b cap h1 hb';refine⟨?_,hp'.2⟩;rcases k2 b with h|⟨cap',h⟩|h
  ·rw[h];exact hp'.1
  ·exact absurd (r.inj i id b cap cap' h1 hlid hb' h) h2
  ·exact absurd rfl ((r.hid id b hlid h).ne i b cap h1 hb')
 ·intro i i' b cap cap' hl hl';exact r.inj i i' b cap cap' (hlive i hl).1 (hlive i' hl').1
 ·intro i x hl hx;obtain⟨h1,h2⟩:=hlive i hl;have h:=r.hid i x h1 hx;refine⟨h.lt,?_,h.old,fun i' b c hi'=>h.ne i' b c (hlive i' hi').1,fun i' hi'=>h.un i' (hlive i' hi').1⟩;rcases k2 x with h'|⟨cap',h'⟩|h'
  ·rw[h'];exact h.m
  ·exact absurd rfl (h.ne id x cap' hlid h')
  ·exact absurd (h.un id hlid h') (Ne.symm h2)
 ·exact r.nx
 ·exact r.pin
theorem z7t(id0 nx':Nat)(hfr:∀m β w a,Rel K m β w a S->β id0=none/\∀q,q<K.pins->q≠id0)(hlt0:id0<nx')(hle0:S.nx<=nx'){d:Nat}{T k e e' k' id:Nat}{x y:Operand}{good:Value->Prop}{kv:Value}{es es':List (Value×V)}{rws:List (List V)}(hT:q0s K.P T k e=true)(hK:j6b K.P k good)
  (hz:(K.P.info? e).bind (·.zero)=some (.slice none 0 0))
  (hw:q1h ops S ⟨some d,.lookup T x y false,ty,pos,after,g⟩ true) (hx:evl K S x=.map id) (ho:q1e S.hp id=.map es) (hy:z1f K S y kv) (hg:good kv) (hges:∀p,p∈es->good p.1)
  (hl:j1v kv id0 e' k' es es' rws) (hN:Nat.blt d K.N=true)
  (kk:q7g K ops rest Q ⟨(d,.own id0 rws.length)::S.env,(id,.map es')::(id0,.arr e' k' rws)::S.hp,nx'⟩):q7g K ops (⟨some d,.lookup T x y false,ty,pos,after,g⟩::rest) Q S:=by
 refine q3k hw (fun m β w a r=>?_) kk;have h:=r.reads x;rw[hx] at h;obtain⟨b,ents,clock,e1,⟨E,e2,eP,eW⟩,e3,e4⟩:=(j3n.own ho).read r h;have hobj:(getObj b).run K.P w=.ok (.map E clock) w:=by simp[getObj,Sem.run,e2]
 have hzr:(zeroValue e).run K.P w=.ok (.slice none 0 0) w:=by
  cases hi:K.P.info? e with
  |none=>simp[hi] at hz
  |some i=>
   simp[hi] at hz;simp only[zeroValue,Sem.run_bind,run_typeInfo w hi,Result.andThen_ok,hz];rfl
 have hbloc:=j7s r ho;have hidn:id≠id0:=fun h=>by obtain⟨b,cap,hb⟩:=hbloc;rw[h,(hfr m β w a r).1] at hb;simp at hb
 have hswap:∀(m':Mem) (β':q4m) (o1 o2:Ob) (n:Nat),Rel K m' β' w a ⟨S.env,(id0,o2)::(id,o1)::S.hp,n⟩->Rel K m' β' w a ⟨S.env,(id,o1)::(id0,o2)::S.hp,n⟩:=by
  intro m' β' o1 o2 n rr;refine rr.congr (fun _=>rfl) (fun t=>?_) rfl
  show q1e ((id,o1)::(id0,o2)::S.hp) t=q1e ((id0,o2)::(id,o1)::S.hp) t
  rw[q5d,q5d,q5d,q5d];by_cases h1:id=t<;>by_cases h2:id0=t
  ·exact absurd (h1.trans h2.symm) hidn
  ·rw[if_pos h1,if_neg h2,if_pos h1]
  ·rw[if_neg h1,if_pos h2,if_pos h2]
  ·rw[if_neg h1,if_neg h2,if_neg h2,if_neg h1]
 rcases hl.cases with ⟨h1,h2,h3⟩|⟨i,h1,h2,h3⟩
 ·subst h1 h2;rcases v4a hK hg e3 (fun i p e a b=>(e4 i p e a b).1) hges eP eW (w:=w) with ⟨a1,a2,_⟩|⟨j,p,en,jE,a1,a2,a3,a4,a5,aE⟩
  ·obtain⟨β',hle,hβ,r3⟩:=r.adopt id0 nx' (hfr m β w a r).1 (hfr m β w a r).2 hlt0 hle0 none (.arr e' k' []) (fun b c hb=>by simp at hb) (fun _ _=>rfl)
   have r4:Rel K m β' w a ⟨S.env,(id,.map es')::(id0,.arr e' k' [])::S.hp,nx'⟩:=by
    refine r3.congr (fun _=>rfl) (fun t=>?_) rfl
    show q1e ((id,.map es')::(id0,.arr e' k' [])::S.hp) t=q1e ((id0,.arr e' k' [])::S.hp) t
    rw[q5d];split
    ·rename_i h;subst h;rw[q5d,if_neg (Ne.symm hidn),ho]
    ·rfl
   refine⟨_,w,m,β',.inl ?_,r4.put hN (.ownNil (ad:=none) hβ)⟩;simp only[execOp,e1,hy.read r];refine q1f ?_;simp only[Instr.lookup,Sem.run_bind,run_underlying (q1o hT),Result.andThen_ok,hobj,pure,Sem.run,hK.check _ w kv hg,a1,hzr];rfl
  ·exact absurd a4 (h3 p (bd8 a3))
 ·obtain⟨m',β',r2⟩:=r.takeM id i id0 nx' (hfr m β w a r).1 (hfr m β w a r).2 hlt0 hle0 ho h1 (show ovl (.dsl e' k' rws) id0=_ from rfl);rw[<-h2] at r2
  have hx2:q8n m' β' (.map id) (a.eval x):=by
   have:=(r2.reads x);exact(show evl K ⟨S.env,(id,.map es')::(id0,.arr e' k' rws)::S.hp,nx'⟩ x=.map id by cases x<;>exact hx) ▸ this
  obtain⟨b2,ents2,clock2,f1,⟨E2,f2,fP,fW⟩,f3,f4⟩:=(j3n.own (S:=⟨S.env,(id,.map es')::(id0,.arr e' k' rws)::S.hp,nx'⟩) (id:=id) (es:=es') (by simp[q5d])).read r2 hx2
  have hges':∀p,p∈es'->good p.1:=by
   intro p hp;rw[h2] at hp;rcases aq8 hp with h|h
   ·exact hges p h
   ·rw[h];exact hg
  have hobj2:(getObj b2).run K.P w=.ok (.map E2 clock2) w:=by simp[getObj,Sem.run,f2]
  rcases v4a hK hg f3 (fun i p e a b=>(f4 i p e a b).1) hges' fP fW (w:=w) with ⟨a1,a2,_⟩|⟨j,p,en,jE,a1,a2,a3,a4,a5,aE⟩
  ·have:=h3.none_of a2;simp at this
  ·have hp:p=(kv,p.2):=by rw[<-a4]
   rw[hp] at a3;have hr:=h3.some_of j p.2 a3 a5;simp only[bc8] at hr;refine⟨en.val,w,m',β',.inl ?_,r2.put hN ?_⟩
   ·simp only[execOp,f1,hy.read r];refine q1f ?_;simp only[Instr.lookup,Sem.run_bind,run_underlying (q1o hT),Result.andThen_ok,hobj2,pure,Sem.run,hK.check _ w kv hg,a1];rfl
   ·rw[hr];exact(f4 j _ en a3 a2).2 (by rw[<-hr];rfl)
inductive v1i(x:Value)(d o:V):List (Value×V)->List (Value×V)->Prop
 |here {es:List (Value×V)}:v1i x d o ((x,d)::es) ((x,o)::es)
 |there {q:Value} {v:V} {es es':List (Value×V)} (h:q≠x) (h':v1i x d o es es'):v1i x d o ((q,v)::es) ((q,v)::es')
theorem v1i.at{x:Value}{d o:V}{es es':List (Value×V)}(h:v1i x d o es es'):∃i,es[i]? = some (x,d)/\es'=es.set i (x,o)/\z8m x es' (some o):=by
 induction h with
 |here=>exact⟨0,rfl,rfl,.here⟩
 | @there q v es es' h h' ih=>
  obtain⟨i,h1,h2,h3⟩:=ih;exact⟨i+1,by simpa using h1,by rw[h2];rfl,.there h h3⟩
theorem z6t(id0 nx':Nat)(hfr:∀m β w a,Rel K m β w a S->β id0=none/\∀q,q<K.pins->q≠id0)(hlt0:id0<nx')(hle0:S.nx<=nx'){d:Nat}{T k e id:Nat}{x y:Operand}{good:Value->Prop}{kv:Value}{es es':List (Value×V)}{dv o:V}{ob:Ob}(hT:q0s K.P T k e=true)(hK:j6b K.P k good)
  (hw:q1h ops S ⟨some d,.lookup T x y false,ty,pos,after,g⟩ true) (hx:evl K S x=.map id) (ho:q1e S.hp id=.map es) (hy:z1f K S y kv) (hg:good kv) (hges:∀p,p∈es->good p.1)
  (hov:ovl dv id0=some (o,ob)) (hl:v1i kv dv o es es') (hN:Nat.blt d K.N=true)
  (kk:q7g K ops rest Q ⟨(d,o)::S.env,(id,.map es')::(id0,ob)::S.hp,nx'⟩):q7g K ops (⟨some d,.lookup T x y false,ty,pos,after,g⟩::rest) Q S:=by
 refine q3k hw (fun m β w a r=>?_) kk;obtain⟨i,h1,h2,h3⟩:=hl.at;obtain⟨m',β',r2⟩:=r.takeM id i id0 nx' (hfr m β w a r).1 (hfr m β w a r).2 hlt0 hle0 ho h1 hov;rw[<-h2] at r2
 have hx2:q8n m' β' (.map id) (a.eval x):=by
  have:=(r2.reads x);exact(show evl K ⟨S.env,(id,.map es')::(id0,ob)::S.hp,nx'⟩ x=.map id by cases x<;>exact hx) ▸ this
 obtain⟨b2,ents2,clock2,f1,⟨E2,f2,fP,fW⟩,f3,f4⟩:=(j3n.own (S:=⟨S.env,(id,.map es')::(id0,ob)::S.hp,nx'⟩) (id:=id) (es:=es') (by simp[q5d])).read r2 hx2
 have hges':∀p,p∈es'->good p.1:=by
  intro p hp;rw[h2] at hp;rcases aq8 hp with h|h
  ·exact hges p h
  ·rw[h];exact hg
 have hobj2:(getObj b2).run K.P w=.ok (.map E2 clock2) w:=by simp[getObj,Sem.run,f2]
 rcases v4a hK hg f3 (fun i p e a b=>(f4 i p e a b).1) hges' fP fW (w:=w) with ⟨a1,a2,_⟩|⟨j,p,en,jE,a1,a2,a3,a4,a5,aE⟩
 ·have:=h3.none_of a2;simp at this
 ·have hp:p=(kv,p.2):=by rw[<-a4]
  rw[hp] at a3;have hr:=h3.some_of j p.2 a3 a5;simp only[bc8] at hr;refine⟨en.val,w,m',β',.inl ?_,r2.put hN ?_⟩
  ·simp only[execOp,f1,hy.read r];refine q1f ?_;simp only[Instr.lookup,Sem.run_bind,run_underlying (q1o hT),Result.andThen_ok,hobj2,pure,Sem.run,hK.check _ w kv hg,a1];rfl
  ·rw[hr];exact(f4 j _ en a3 a2).2 (by rw[<-hr];exact(z8n hov).2.1)
theorem q8l{T k e id2:Nat}{x y z:Operand}{good:Value->Prop}{kv:Value}{id:Nat}{es:List (Value×V)}{dv o:V}{ob:Ob}(es3:List (Value×V))(hT:q0s K.P T k e=true)(hK:j6b K.P k good)
  (hw:q1h ops S ⟨none,.mapUpdate T x y z,ty,pos,after,g⟩ true) (hx:evl K S x=.map id) (ho:q1e S.hp id=.map es) (hy:z1f K S y kv) (hg:good kv) (hges:∀p,p∈es->good p.1) (hz:evl K S z=o)
  (hov:ovl dv id2=some (o,ob)) (ho2:q1e S.hp id2=ob) (hne:Nat.beq id id2=false) (hkp:w1h ob)
  (hp:z5q kv dv es es3) (kk:q7g K ops rest Q ⟨S.env,(id,.map es3)::(id2,.dead)::S.hp,S.nx⟩):q7g K ops (⟨none,.mapUpdate T x y z,ty,pos,after,g⟩::rest) Q S:=by
 obtain⟨es2,i,h1,h2,h3⟩:=hp.other o;have hne:id≠id2:=fun h=>by rw[h,am8] at hne;simp at hne
 refine q0h es2 hT hK hw hx ho hy hg hges hz h1 (q2h (S':=⟨S.env,(id,.map (es2.set i (kv,dv)))::(id2,.dead)::(id,.map es2)::S.hp,S.nx⟩) (z4k id i id2 (S:=⟨S.env,(id,.map es2)::S.hp,S.nx⟩) (by simp[q5d]) h2 hov (by rw[q5d,if_neg hne];exact ho2) hne hkp) ?_);rw[<-h3];refine q2h (v8k (S':=⟨S.env,(id,.map es3)::(id2,.dead)::S.hp,S.nx⟩) (fun _=>rfl) (fun t=>?_) rfl) kk;simp only[q5d];split
 ·rfl
 ·split
  ·rfl
  ·rfl
theorem q4t(id id2:Nat){es:List (Value×V)}(es':List (Value×V))(ob:Ob)(ho:q1e S.hp id=.map es)(hl:es.length=es'.length)
  (hk:∀(i:Nat) (p p':Value×V),es[i]? = some p->es'[i]? = some p'->p.1=p'.1/\Und p.2 p'.2/\q9y p.2) (hob:q4b (v1w id es') ob (q1e S.hp id2)):
  q6h K S ⟨S.env,(id,.dead)::(id2,ob)::S.hp,S.nx⟩:=
 j8l id es' _ _ ho hl hk (fun _=>Sub.keepM) (fun i=>by
  rw[q5d];split
  ·trivial
  ·rw[q5d];split
   ·rename_i h;subst h;exact hob
   ·exact q4b.keep (fun _=>Sub.keepM) _) (by simp[q5d])
end
variable{κ α β γ:Type}[DecidableEq κ]
theorem j8q{e k:Nat}{enc:α->List V}(hi:∀x,q1t (enc x))(l:List α):Und (.dsl e k (l.map enc)) (.lst k (l.map enc)):=
 .sl rfl (fun i r r' h h'=>by rw[h] at h';simp at h';rw[h']) (fun i j r r' c c' h h' hj hj'=>by
  rw[h] at h';simp at h';subst h';rw[hj] at hj';simp at hj';subst hj';rw[bf9,ad8] at h;obtain⟨x,_,rfl⟩:=h;exact .imm (hi x c (bd8 hj)).1)
theorem v1n{E:γ×α->Value×V}(hi:∀p,Imm (E p).2)(l:List (γ×α)):Und (.dmp (l.map E)) (.imap (l.map E)):=
 .mp rfl (fun i r r' h h'=>by rw[h] at h';simp at h';rw[h']) (fun i r r' h h'=>by
  rw[h] at h';simp at h';subst h';rw[bf9,ad8] at h;obtain⟨x,_,rfl⟩:=h;exact .imm (hi x).1)
theorem z0s{τ:Type}{D E:τ->Value×V}(h:∀x,(D x).1=(E x).1/\Und (D x).2 (E x).2/\q9y (D x).2)(l:List τ)(i:Nat)(p p':Value×V)(hp:(l.map D)[i]? = some p)(hp':(l.map E)[i]? = some p'):p.1=p'.1/\Und p.2 p'.2/\q9y p.2:=by
 rw[bf9,ad8] at hp hp';obtain⟨x,h1,rfl⟩:=hp;obtain⟨y,h2,rfl⟩:=hp';rw[h1] at h2;simp at h2;subst h2;exact h x
theorem z4s{e k:Nat}{enc:α->List V}(hi:∀x,q1t (enc x))(l:List α):w1h (.arr e k (l.map enc)):=fun r hr=>by
 obtain⟨x,_,rfl⟩:=bk9.1 hr;exact(hi x).keep
theorem z7i{τ:Type}{E:τ->Value×V}(hi:∀p,Imm (E p).2)(l:List τ):w1h (.map (l.map E)):=fun r hr=>by
 obtain⟨x,_,rfl⟩:=bk9.1 hr;exact(hi x).2
def q9z(E:κ×β->Value×V)(nx:Nat)(k0:κ):List (κ×β)->List (Value×V)
 |[]=>[]
 |p::xs=>if p.1=k0 then ((E p).1,.map nx)::xs.map E else E p::q9z E nx k0 xs
theorem j8y(E:κ×List (γ×α)->Value×V)(kf:κ->Value)(enc:γ×α->Value×V)(nx:Nat)(hE:∀p,E p=(kf p.1,.dmp (p.2.map enc)))(hk:∀a b,kf a=kf b->a=b)(k0:κ):
  ∀xs:List (κ×List (γ×α)),(q3b xs k0).isSome=true->v1i (kf k0) (.dmp (((q3b xs k0).getD []).map enc)) (.map nx) (xs.map E) (q9z E nx k0 xs)
 |[],h=>by simp[q3b] at h
 |p::xs,h=>by
  obtain⟨q,l⟩:=p;simp only[q3b] at h;simp only[bw9,q9z,q3b,hE];by_cases hq:q=k0
  ·subst hq;simp only[if_pos,ck9];exact .here
  ·rw[if_neg hq] at h;rw[if_neg hq,if_neg hq];exact .there (fun e=>hq (hk _ _ e)) (j8y E kf enc nx hE hk k0 xs h)
theorem v9p(E:κ×List (γ×α)->Value×V)(kf:κ->Value)(enc:γ×α->Value×V)(nx:Nat)(hE:∀p,E p=(kf p.1,.dmp (p.2.map enc)))(k0:κ)(l':List (γ×α)):
  ∀xs:List (κ×List (γ×α)),(q3b xs k0).isSome=true->∃i,(q9z E nx k0 xs)[i]? = some (kf k0,.map nx)/\(q0d xs k0 l').map E=(q9z E nx k0 xs).set i (kf k0,.dmp (l'.map enc))
 |[],h=>by simp[q3b] at h
 |p::xs,h=>by
  obtain⟨q,l⟩:=p;simp only[q3b] at h;simp only[q9z,q0d];by_cases hq:q=k0
  ·subst hq;refine⟨0,?_,?_⟩<;>simp[hE]
  ·rw[if_neg hq] at h;rw[if_neg hq,if_neg hq];obtain⟨i,h1,h2⟩:=v9p E kf enc nx hE k0 l' xs h;exact⟨i+1,by simpa using h1,by rw[bw9,h2];rfl⟩
theorem j2a(E:κ×List (γ×α)->Value×V)(kf:κ->Value)(enc:γ×α->Value×V)(hE:∀p,E p=(kf p.1,.dmp (p.2.map enc)))(hk:∀a b,kf a=kf b->a=b)(k0:κ)(l':List (γ×α)):
  ∀xs:List (κ×List (γ×α)),z5q (kf k0) (.dmp (l'.map enc)) (xs.map E) ((q0d xs k0 l').map E)
 |[]=>by simp only[q0d,bw9,av9,hE];exact .nil
 |p::xs=>by
  obtain⟨q,l⟩:=p;simp only[q0d];by_cases h:q=k0
  ·subst h;simp only[if_pos,hE,bw9];exact .here
  ·rw[if_neg h];simp only[hE,bw9];exact .there (fun e=>h (hk _ _ e)) (by have:=j2a E kf enc hE hk k0 l' xs;simpa only[hE] using this)
section
variable{K:Ctx}{Q:q5q}{S:St}
theorem q2r(id id2:Nat){xs:List (κ×List (γ×α))}{l':List (γ×α)}{k0:κ}(E:κ×List (γ×α)->Value×V)(kf:κ->Value)(enc:γ×α->Value×V)(hE:∀p,E p=(kf p.1,.dmp (p.2.map enc)))
  (hs:(q3b xs k0).isSome=true) (ho:q1e S.hp id=.map (q9z E id2 k0 xs)) (ho2:q1e S.hp id2=.map (l'.map enc)) (hne:Nat.beq id id2=false) (hi:∀p,Imm (enc p).2):
  q6h K S ⟨S.env,(id,.map ((q0d xs k0 l').map E))::(id2,.dead)::S.hp,S.nx⟩:=by
 obtain⟨i,h1,h2⟩:=v9p E kf enc id2 hE k0 l' xs hs;rw[h2];exact z4k id i id2 ho h1 (show ovl (.dmp (l'.map enc)) id2=_ from rfl) ho2 (fun h=>by rw[h,am8] at hne;simp at hne) (z7i hi l')
end
def v7j{τ:Type}(enc:τ->List V):Option τ->V
 |none=>.con (.pointer none)
 |some x=>.iptr (enc x) 0
theorem w9m{τ:Type}{enc:τ->List V}:∀o:Option τ,Imm (v7j enc o)
 |none=>Imm.con _
 |some _=>Imm.iptr _ _
theorem w1l{τ:Type}{enc:τ->List V}:∀o:Option τ,z3c (v7j enc o)=true
 |none=>rfl
 |some _=>rfl
section
variable{K:Ctx}{Q:q5q}{S:St}{s:List It}
variable{ops:Array Oper}{l:List Oper}
theorem j5p{τ:Type}{enc:τ->List V}{o:Option τ}{x:τ}(t:Nat)(h:o=some x)(ht:get S.env t=v7j enc o):q6h K S ⟨(t,.iptr (enc x) 0)::S.env,S.hp,S.nx⟩:=by
 subst h;refine q6h.env (S:=S) (fun q=>?_)
 show(bif Nat.beq t q then V.iptr (enc x) 0 else get S.env q)=get S.env q
 cases hq:Nat.beq t q
 ·rfl
 ·have:=cx9 hq;subst this;exact ht.symm
theorem opC{τ:Type}{enc:τ->List V}{o:Option τ}{x:τ}(t:Nat)(h:o=some x)(ht:gtC S.env t=some (v7j enc o)){c:Code}(k:WG K Q (.c c::s) ⟨(t,.iptr (enc x) 0)::S.env,S.hp,S.nx⟩):WG K Q (.c c::s) S:=
 w6i (.inl ⟨_,rfl⟩) (j5p t h (z6c ht)) k
theorem opO{τ:Type}{enc:τ->List V}{o:Option τ}{x:τ}(t:Nat)(h:o=some x)(ht:gtC S.env t=some (v7j enc o))(k:WG K Q (.o ops l::s) ⟨(t,.iptr (enc x) 0)::S.env,S.hp,S.nx⟩):WG K Q (.o ops l::s) S:=
 w6i (.inr ⟨_,_,rfl⟩) (j5p t h (z6c ht)) k
theorem j9e{τ:Type}{f:τ->V}{o:Option τ}{z:V}{y:τ}(h:o.isSome=true):(o.map f).getD z=f (o.getD y):=by cases o<;>simp at h ⊢
theorem j0f{τ:Type}{f:τ->V}{o:Option τ}{z:V}(h:o.isSome=false):(o.map f).getD z=z:=by cases o<;>simp at h ⊢
theorem w1c{τ:Type}{f:τ->V}{o:Option τ}{b:Bool}(h:o.isSome=b):(o.map f).isSome=b:=by cases o<;>simpa using h
end
theorem z9i{E:κ×List α->Value×V}{good:Value->Prop}(h:∀p,good (E p).1){nx:Nat}{k0:κ}:∀{xs:List (κ×List α)} (q:Value×V),q∈z8l E nx k0 xs->good q.1
 |[],q,hq=>by simp[z8l] at hq
 |p::xs,q,hq=>by
  simp only[z8l] at hq;split at hq
  ·rcases ax8.1 hq with rfl|hq
   ·exact h p
   ·obtain⟨x,_,rfl⟩:=bk9.1 hq;exact h x
  ·rcases ax8.1 hq with rfl|hq
   ·exact h p
   ·exact z9i h q hq
section
variable{K:Ctx}{Q:q5q}{S:St}
variable{ops:Array Oper}{rest:List Oper}{ty:TypeId}{pos:String}{after:Array Edge}{g:Option (Nat×Bool)}
theorem y4b:∀m β w a,Rel K m β w a S->β S.nx=none/\∀q,q<K.pins->q≠S.nx:=fun _ _ _ _ r=>⟨r.nx _ (ae8 _),fun q hq=>an8 (r.pin q hq).1⟩
theorem q3v{d nx:Nat}{T k e e' k' id n:Nat}{x y:Operand}{good:Value->Prop}{kv:Value}{es es':List (Value×V)}{rws:List (List V)}(idn:Nat)(hid:(Nat.blt idn nx&&Nat.ble K.pins idn)=true)(hnxx:S.nx=nx)(hres:q1e S.hp idn=.res)(hT:q0s K.P T k e=true)(hK:j6b K.P k good)
  (hz:(K.P.info? e).bind (·.zero)=some (.slice none 0 0))
  (hw:q1h ops S ⟨some d,.lookup T x y false,ty,pos,after,g⟩ true) (hx:evl K S x=.map id) (ho:q1e S.hp id=.map es) (hy:z1f K S y kv) (hg:good kv) (hges:∀p,p∈es->good p.1)
  (hl:j1v kv idn e' k' es es' rws) (hn:rws.length=n) (hN:Nat.blt d K.N=true)
  (kk:q7g K ops rest Q ⟨(d,.own idn n)::S.env,(id,.map es')::(idn,.arr e' k' rws)::S.hp,S.nx⟩):q7g K ops (⟨some d,.lookup T x y false,ty,pos,after,g⟩::rest) Q S:=by
 subst hn;exact z7t idn S.nx (fun _ _ _ _ r=>⟨r.free hres,fun q hq=>by have:=bd9 (cx8.1 hid).2;omega⟩) (by rw[hnxx];exact bd9 (cx8.1 hid).1) (ae8 _) hT hK hz hw hx ho hy hg hges hl hN kk
theorem j4g{d:Nat}{T k e id:Nat}{x y:Operand}{good:Value->Prop}{kv:Value}{es es':List (Value×V)}{dv o:V}{ob:Ob}(hT:q0s K.P T k e=true)(hK:j6b K.P k good)
  (hw:q1h ops S ⟨some d,.lookup T x y false,ty,pos,after,g⟩ true) (hx:evl K S x=.map id) (ho:q1e S.hp id=.map es) (hy:z1f K S y kv) (hg:good kv) (hges:∀p,p∈es->good p.1)
  (hl:v1i kv dv o es es') (hov:ovl dv S.nx=some (o,ob)) (hN:Nat.blt d K.N=true)
  (kk:q7g K ops rest Q ⟨(d,o)::S.env,(id,.map es')::(S.nx,ob)::S.hp,S.nx+1⟩):q7g K ops (⟨some d,.lookup T x y false,ty,pos,after,g⟩::rest) Q S:=
 z6t S.nx (S.nx+1) y4b (ao9 _) (ao8 _) hT hK hw hx ho hy hg hges hov hl hN kk
theorem q9i.consE{Y:Hy}{n:Nat}{σ:Nat->Nat}{hp e:q0m}{id:Nat}{ob ob':Ob}(hn:Nat.blt id n=true)(hh:q1e hp (σ id)=ob')(h:q4b Y ob ob')(h':q9i Y n σ hp e):q9i Y n σ hp ((id,ob)::e):=.cons hn (by rw[hh];exact h) h'
theorem q8o{d nx:Nat}{f:FuncId}{args:Array Operand}{at':Array TypeId}{avs':List V}{k k':Nat}{hp hp':q0m}{dc:V}(res:List Nat)(hnx:S.nx=nx)(hres:∀i,i∈res->q1e S.hp i=.res)
  (dv:V) (avs:List V) (σ τ:Nat->Nat) (u:q0m) (hf:q9m K.P f=true)
  (hw:q1h ops S ⟨some d,.call ⟨.value (.func f),args,at'⟩,ty,pos,after,g⟩ true) (hN:Nat.blt d K.N=true) (ha:args.toList.map (evl K S)=avs)
  (hsub:j2q (Ren k σ) avs' avs) (hhp:q9i (Ren k σ) k σ S.hp hp) (hc:j4v K.gl K.P f avs' k hp dc k' hp')
  (hto:toB k k' nx nx σ τ (fun i=>res.any fun j=>Nat.beq i j)=true) (hτ:y3e k' τ=true) (hkk:Nat.ble k k'=true) (hpins:(res.all fun i=>Nat.ble K.pins i)=true)
  (hdv:Sub (To k' τ) dv dc) (hu:v9w (To k' τ) τ hp' k' 0 u)
  (kk:q7g K ops rest Q ⟨(d,dv)::S.env,u++S.hp,S.nx⟩):q7g K ops (⟨some d,.call ⟨.value (.func f),args,at'⟩,ty,pos,after,g⟩::rest) Q S:=by
 subst hnx
 have hfree:∀i,(res.any fun j=>Nat.beq i j)=true->i∈res:=by
  intro i hi;obtain⟨j,hj,e⟩:=cs9.1 hi;rw[cx9 e];exact hj
 exact z5m σ τ S.nx u (fun i=>res.any fun j=>Nat.beq i j) hw rfl hN (j3e hf ha) hsub (q9i.get hhp) hc
  (fun i hi=>hres i (hfree i hi)) hto hτ (cy9 (by omega)) hkk
  (fun i hi=>bd9 (aw9.1 hpins i (hfree i hi))) hdv hu kk
def j9r(ts:List Nat)(v:V)(e:Env):Env:=match ts with|[]=>e|t::ts=>(t,v)::j9r ts v e
theorem j8c{Y:Hy}{v v0:V}{env:Env}(hk:∀v,Sub Y v v)(h:Sub Y v v0):∀(ts:List Nat),(∀t,t∈ts->get env t=v0)->∀t',Sub Y (get (j9r ts v env) t') (get env t')
 |[],_,t'=>hk _
 |t::ts,hh,t'=>by
  rw[j9r,q9u];split
  ·rename_i he;subst he;rw[hh t (by simp)];exact h
  ·exact j8c hk h ts (fun q hq=>hh q (cl9 _ hq)) t'
theorem q8j(id:Nat)(ts:List Nat){e k n:Nat}{rows:List (List V)}(ho:q1e S.hp id=.arr e k rows)(hi:∀row,row∈rows->q1t row)
  (ht:∀t,t∈ts->get S.env t=.own id n) (hn:n=rows.length):q6h K S ⟨j9r ts (.lst k rows) S.env,(id,.dead)::S.hp,S.nx⟩:=
 q7w id _ _ ho hi (j8c (fun _=>Sub.keep) (Sub.frzAll hn) ts ht) v7p (by simp[q5d])
inductive Zs:List V->List Value->Prop
 |nil:Zs [] []
 |con {v:Value} {cs:List V} {vs:List Value} (h:Zs cs vs):Zs (.con v::cs) (v::vs)
 |sl {k:Nat} {cs:List V} {vs:List Value} (h:Zs cs vs):Zs (.lst k []::cs) (.slice none 0 0::vs)
theorem Zs.ok{cs:List V}{vs:List Value}(h:Zs cs vs)(m:Mem):cs.length=vs.length/\∀(i:Nat) c v,cs[i]? = some c->vs[i]? = some v->q2p m c v:=by
 induction h with
 |nil=>exact⟨rfl,by simp⟩
 |con h ih=>
  refine⟨by simp[ih.1],fun i c v a b=>?_⟩;cases i with
  |zero=>simp at a b;subst a;subst b;exact .con _
  |succ i=>exact ih.2 i c v (by simpa using a) (by simpa using b)
 |sl h ih=>
  refine⟨by simp[ih.1],fun i c v a b=>?_⟩;cases i with
  |zero=>simp at a b;subst a;subst b;exact .nil _ _ _
  |succ i=>exact ih.2 i c v (by simpa using a) (by simpa using b)
theorem w7c{cs:List V}{vs:List Value}(h:Zs cs vs):∀m:Mem,q2p m (.agg cs) (.agg vs.toArray):=fun m=>
 .agg (by simpa using (h.ok m).1) (fun i c v a b=>(h.ok m).2 i c v a (by simpa using b))
theorem w8r:∀{l:List V},q1t l->ndB l=true
 |[],_=>rfl
 |c::l,h=>by
  have h1:=(h c (by simp)).1;simp only[ndB,h1];exact w8r (fun x hx=>h x (cl9 _ hx))
theorem v1p{rows:List (List V)}(h:∀row,row∈rows->q1t row):∀row,row∈rows->ndB row=true:=fun row hr=>w8r (h row hr)
end
end Go.Pv
namespace Go.Pv
open Go
open Go.ChangeMaps (setBlock)
section
variable{K:Ctx}{Q:q5q}{S:St}
variable{m:Mem}{β:q4m}{w:World}{a:Act}
variable{ops:Array Oper}{rest:List Oper}{ty:TypeId}{pos:String}{after:Array Edge}{g:Option (Nat×Bool)}
theorem j2o{P:Program}{w w':World}{s:Sem Value}{v:Value}(h:s.run P w=.ok v w'):(do pure (Next.value (<-s)):Sem Next).run P w=.ok (.value v) w':=by
 rw[Sem.run_bind,h];rfl
theorem v3v{d T k e:Nat}{x:Operand}{es:List (Value×V)}(hT:q0s K.P T k e=true)
  (hw:q1h ops S ⟨some d,.range T x,ty,pos,after,g⟩ true) (hx:evl K S x=.imap es) (hN:Nat.blt d K.N=true)
  (kk:q7g K ops rest Q ⟨(d,.ptr S.nx 1 0 0)::S.env,(S.nx,.iter [] es)::S.hp,S.nx+1⟩):q7g K ops (⟨some d,.range T x,ty,pos,after,g⟩::rest) Q S:=by
 refine q3k hw (fun m β w a r=>?_) kk;have h:=r.reads x;rw[hx] at h;generalize hv:a.eval x=v at h;cases h with
 |imm h=>
 cases h with
 | @imap _ bm ents clock hm hl hk h=>
 obtain⟨E,hE,hP,hW⟩:=hm;obtain⟨β',hle,hnx,r2⟩:=r.alloc (.mapIter (some bm) clock #[] clock) (.iter [] es) ⟨0,0⟩ _ rfl (fun β' hle=>⟨bm,#[],E,clock,ents.toList,rfl,by simp,hE,hW,by simpa[leftOf,List.filter_eq_self.2] using hP,by simpa using hl,fun i p e hi he=>⟨hk i p e hi (by simpa using he),h i p e hi (by simpa using he)⟩,by simp⟩);refine⟨.pointer (some ⟨w.heap.size,0,none⟩),{ w with heap:=w.heap.push (.mapIter (some bm) clock #[] clock) },m,β',.inl ?_,Rel.put r2 hN (.ptr hnx)⟩;simp only[execOp,hv];exact j2o (run_range_map w T k e bm E clock (q1o hT) (r.imm _ _ hE))
theorem z4t{o:Oper}{S':St}(r:Rel K m β w a S)(hw:q1h ops S o true)
  (h:∃v w' m' β',((execOp a.eval o).run K.P w=.ok (.value v) w')/\Rel K m' β' w' (a.put o.dst v) S') (k:q7g K ops rest Q S'):wpList K.P ops (Q.at K) (o::rest) a w:=by
 unfold wpList;rw[if_pos (hw.at r)]
 left
 obtain⟨v,w',m',β',h1,r'⟩:=h;unfold Oper.wp;rw[h1];exact k m' β' w' _ r'
theorem v8u{v L:List MapEntry}{j:Nat}{e:MapEntry}(h:v.Perm L)(hn:(L.map (·.born)).Nodup)(hj:v[j]? = some e):(v.eraseIdx j).Perm (L.filter fun x=>x.born != e.born):=by
 have h1:=z9c e v j hj;have hn2:((e::v.eraseIdx j).map (·.born)).Nodup:=((h1.symm.trans h).map _).nodup_iff.2 hn
 have h3:∀x,x∈v.eraseIdx j->(x.born != e.born)=true:=by
  intro x hx;rw[bw9,aa9] at hn2;simp only[bne_iff_ne,ne_eq];intro hh;exact hn2.1 (bk9.2 ⟨x,hx,hh⟩)
 have h2:=((h1.symm.trans h).filter fun x=>x.born != e.born);rw[ab9,if_neg (by simp),List.filter_eq_self.2 h3] at h2;exact h2
theorem w9b(E:Array MapEntry)(seen:Array Nat)(b:Nat):(leftOf E (seen.push b)).toList=(leftOf E seen).toList.filter fun x=>x.born != b:=by
 simp only[leftOf,Array.toList_filter,List.filter_filter]
 congr 1
 funext x
 rw[contains_push];cases hc:seen.contains x.born<;>by_cases hb:x.born=b<;>simp[hb,bne]
theorem w1g{d id:Nat}{x:Operand}{cur left:List (Value×V)}
  (hw:q1h ops S ⟨some d,.next x false,ty,pos,after,g⟩ true) (hx:evl K S x=.ptr id 1 0 0) (ho:q1e S.hp id=.iter cur left) (hN:Nat.blt d K.N=true)
  (k0:left=[]->q7g K ops rest Q (S.put d (.tup [.con (.bool false)])))
  (k1:∀j p,left[j]? = some p->q7g K ops rest Q ⟨(d,.tup [.con (.bool true),.con p.1,p.2])::S.env,(id,.iter [p] (left.eraseIdx j))::S.hp,S.nx⟩):
  q7g K ops (⟨some d,.next x false,ty,pos,after,g⟩::rest) Q S:=by
 intro m β w a r;have h:=r.reads x;rw[hx] at h;generalize hv:a.eval x=v at h;cases h with
 |imm h=>cases h
 | @ptr _ _ _ _ b cap hb=>
 have hown:=r.own id;rw[hb,ho] at hown;obtain⟨bm,seen,E,clock,v,h0,h1,h2,h3,h4,h5,h6,h7⟩:=hown;have hpt:Value.pointer (some ⟨b,cap.off+(0*1+0),none⟩)=.pointer (some ⟨b,0,none⟩):=by rw[h0]
 rcases run_next_at (P:=K.P) w ty b bm clock clock seen E clock h1 (r.imm _ _ h2) h3.lt (ae8 _) with ⟨q1,q2⟩|⟨e,q1,w1,q2,q3⟩
 ·have hl:left=[]:=by
   have:v.length=0:=by rw[h4.length_eq,bs8];exact q1
   exact be9.1 (by omega)
  refine z4t r hw ⟨.tuple #[.bool false],w,m,β,?_,r.put hN ?_⟩ (k0 hl)
  ·simp only[execOp,hv,hpt];exact q1f q2
  ·refine .tup rfl fun i c u hi hu=>?_
   match i with
   |0=>simp at hi hu;subst hi;subst hu;exact .imm (.con _)
   |i+1=>simp at hi
 ·obtain⟨j,hj⟩:=bi9 (h4.mem_iff.2 q1);have hlt:j<left.length:=by rw[h5];exact(bi8.1 hj).1
  have hp:left[j]? = some left[j]:=be8 hlt;obtain⟨e1,e2⟩:=h6 j _ e hp hj;have r1:Rel K m β w1 a S:=by rcases q2 with rfl|rfl;exact r;exact r.drawn _ (ao8 _)
  have hh1:w1.heap=w.heap:=by rcases q2 with rfl|rfl<;>rfl
  have hbl:b<w1.heap.size:=by rw[hh1];exact q9h h1
  have r2:=r1.update (by rw[ho];simp) hb (setBlock w1 b (.mapIter (some bm) clock (seen.push e.born) clock)) (.iter [left[j]] (left.eraseIdx j))
   (fun b' hne=>by simp only[setBlock,bz8];rw[if_neg (Ne.symm hne)]) (by simp[setBlock]) ⟨rfl,rfl,rfl,ae8 _⟩
   (fun _=>⟨bm,seen.push e.born,E,clock,v.eraseIdx j,h0,by simp[setBlock,hbl],h2,h3,by
    rw[w9b];refine v8u h4 ?_ hj;have:((leftOf E seen).toList).Sublist E.toList:=by simp only[leftOf,Array.toList_filter];exact List.filter_sublist
    exact List.Nodup.sublist (this.map _) h3.born,by rw[ag9,ag9,h5],fun i p e' hi he=>by
    rw[List.getElem?_eraseIdx] at hi he;split at hi
    ·rename_i hlt;rw[if_pos hlt] at he;exact h6 i p e' hi he
    ·rename_i hlt;rw[if_neg hlt] at he;exact h6 _ p e' hi he,fun p hpc=>by
    simp at hpc;subst hpc;exact⟨e,(mem_left q1).1,by simp,e1,e2⟩⟩)
  refine z4t r hw ⟨.tuple #[.bool true,e.key,e.val],_,m,β,?_,r2.put hN ?_⟩ (k1 j left[j] hp)
  ·simp only[execOp,hv,hpt];exact j2o q3
  ·refine .tup rfl fun i c u hi hu=>?_
   match i with
   |0=>simp at hi hu;subst hi;subst hu;exact .imm (.con _)
   |1=>simp at hi hu;subst hi;subst hu;rw[<-e1];exact .imm (.con _)
   |2=>simp at hi hu;subst hi;subst hu;exact .imm e2
   |i+3=>simp at hi
theorem v6v{d id:Nat}{x:Operand}{p:Value×V}{left:List (Value×V)}
  (hw:q1h ops S ⟨some d,.entry x,ty,pos,after,g⟩ true) (hx:evl K S x=.ptr id 1 0 0) (ho:q1e S.hp id=.iter [p] left) (hN:Nat.blt d K.N=true)
  (kk:q7g K ops rest Q (S.put d (.tup [.con p.1,p.2]))):q7g K ops (⟨some d,.entry x,ty,pos,after,g⟩::rest) Q S:=by
 intro m β w a r;have h:=r.reads x;rw[hx] at h;generalize hv:a.eval x=v at h;cases h with
 |imm h=>cases h
 | @ptr _ _ _ _ b cap hb=>
 have hown:=r.own id;rw[hb,ho] at hown;obtain⟨bm,seen,E,clock,v,h0,h1,h2,h3,h4,h5,h6,h7⟩:=hown;have hpt:Value.pointer (some ⟨b,cap.off+(0*1+0),none⟩)=.pointer (some ⟨b,0,none⟩):=by rw[h0]
 obtain⟨e,q1,q2,q3,q4⟩:=h7 p (by simp);have hf:E.find? (·.born==e.born)=some e:=by rw[<-Array.find?_toList];exact find_born e E.toList h3.born q1
 refine z4t r hw ⟨.tuple #[e.key,e.val],w,m,β,?_,r.put hN ?_⟩ kk
 ·simp only[execOp,hv,hpt];refine q1f ?_;simp only[Instr.entry,getObj,Sem.run_bind,Sem.run,h1,r.imm _ _ h2,Result.andThen,q2,bne_self_eq_false,cy8,if_false,hf];rfl
 ·refine .tup rfl fun i c u hi hu=>?_
  match i with
  |0=>simp at hi hu;subst hi;subst hu;rw[<-q3];exact .imm (.con _)
  |1=>simp at hi hu;subst hi;subst hu;exact .imm q4
  |i+2=>simp at hi
theorem j0s{P:Program}{T k e:TypeId}{good:Value->Prop}{kv zv:Value}(c:Bool)(w:World)(hT:q0s P T k e=true)(hK:j6b P k good)(hz:(P.info? e).bind (·.zero)=some zv)(hg:good kv):
  (Instr.lookup T (.map none) kv c).run P w=.ok (if c then .tuple #[zv,.bool false] else zv) w:=by
 have hzr:(zeroValue e).run P w=.ok zv w:=by
  cases hi:P.info? e with
  |none=>simp[hi] at hz
  |some i=>
   simp[hi] at hz;simp only[zeroValue,Sem.run_bind,run_typeInfo w hi,Result.andThen_ok,hz];rfl
 have hf:(Instr.findKey k kv []).run P w=.ok none w:=by
  rcases hK.find w kv hg [] (by simp) with ⟨h,_⟩|⟨j,e',_,h,_⟩
  ·exact h
  ·simp at h
 simp only[Instr.lookup,Sem.run_bind,run_underlying (q1o hT),Result.andThen_ok,pure,Sem.run,hK.check _ w kv hg];rw[hf];simp only[Result.andThen_ok,Sem.run_bind,hzr];cases c<;>rfl
theorem z4b{d:Nat}{T k e:TypeId}{x y:Operand}{good:Value->Prop}{kv zv:Value}(zd:V)(hT:q0s K.P T k e=true)(hK:j6b K.P k good)
  (hz:(K.P.info? e).bind (·.zero)=some zv) (hzd:∀m,q2p m zd zv)
  (hw:q1h ops S ⟨some d,.lookup T x y false,ty,pos,after,g⟩ true) (hx:evl K S x=.con (.map none)) (hy:z1f K S y kv) (hg:good kv) (hN:Nat.blt d K.N=true)
  (kk:q7g K ops rest Q (S.put d zd)):q7g K ops (⟨some d,.lookup T x y false,ty,pos,after,g⟩::rest) Q S:=
 q9g _ hw hN (fun m β w a r=>by
  refine⟨zv,?_,.imm (hzd m)⟩;simp only[execOp,r.con hx,hy.read r];exact q1f (j0s false w hT hK hz hg)) kk
end
theorem q4b.itr{Y:Hy}[j3v Y]{c l:List (Value×V)}:q4b Y (.iter [] l) (.iter c l):=⟨by simp,rfl,j3v.h⟩
inductive v2w(Y:Hy)(env:Env):Env->Prop
 |refl:v2w Y env env
 |put {e:Env} {t:Nat} {v v0:V} (ht:get env t=v0) (hv:Sub Y v v0) (h:v2w Y env e):v2w Y env ((t,v)::e)
theorem v2w.get{Y:Hy}{env e:Env}(hk:∀v,Sub Y v v)(h:v2w Y env e)(t:Nat):Sub Y (get e t) (get env t):=by
 induction h with
 |refl=>exact hk _
 |put ht hv _ ih=>
  rw[q9u];split
  ·rename_i he;subst he;rw[ht];exact hv
  ·exact ih
inductive y7e(Y:Hy)(hp:q0m):q0m->Prop
 |refl:y7e Y hp hp
 |put {e:q0m} {t:Nat} {v v0:Ob} (ht:q1e hp t=v0) (hv:q4b Y v v0) (h:y7e Y hp e):y7e Y hp ((t,v)::e)
theorem y7e.get{Y:Hy}{hp e:q0m}(hk:∀v,q4b Y v v)(h:y7e Y hp e)(t:Nat):q4b Y (q1e e t) (q1e hp t):=by
 induction h with
 |refl=>exact hk _
 |put ht hv _ ih=>
  rw[q5d];split
  ·rename_i he;subst he;rw[ht];exact hv
  ·exact ih
section
variable{K:Ctx}{S:St}
theorem v7k(id:Nat){es:List (Value×V)}{env:Env}{hp:q0m}(ho:q1e S.hp id=.map es)(hi:∀p,p∈es->Imm p.2)(he:v2w (v1w id es) S.env env)(hh:y7e (v1w id es) S.hp hp):
  q6h K S ⟨env,(id,.dead)::hp,S.nx⟩:=
 z0p id env _ ho hi (he.get (fun _=>Sub.keepM)) (fun i=>by
  rw[q5d];split
  ·trivial
  ·exact hh.get (fun _=>q4b.keep (fun _=>Sub.keepM) _) i) (by simp[q5d])
end
def leT(a b:B8):Bool:=!(Op.bytesLess b a)
def RM{α:Type}(n:Nat)(l:List α)(P:Prop):Prop:=l.length<n/\P
theorem RM.zero{α:Type}{l:List α}{P:Prop}{X:Prop}(h:RM 0 l P):X:=absurd h.1 (Nat.not_lt_zero _)
theorem RM.start{α:Type}{l:List α}{P:Prop}(h:P):RM (l.length+1) l P:=⟨ao9 _,h⟩
theorem RM.step{α:Type}{l l':List α}{n:Nat}{P P':Prop}(h:RM (n+1) l P)(hq:l'.length<l.length)(h':P'):RM n l' P':=⟨by have:=h.1;omega,h'⟩
section
variable{K:Ctx}{Q:q5q}{S:St}{s:List It}
variable{ops:Array Oper}{rest:List Oper}{ty:TypeId}{pos:String}{after:Array Edge}{g:Option (Nat×Bool)}
theorem nxt{α:Type}{enc:α->Value×V}{xs:List α}{d id nx:Nat}{env:Env}{hp:q0m}{x:Operand}{cur:List (Value×V)}(hx:evl K ⟨env,hp,nx⟩ x=.ptr id 1 0 0)(ho:q1e hp id=.iter cur (xs.map enc))(hw:q1h ops ⟨env,hp,nx⟩ ⟨some d,.next x false,ty,pos,after,g⟩ true)(hN:Nat.blt d K.N=true)
  (k0:xs=[]->WG K Q (.o ops rest::s) ⟨(d,.tup [.con (.bool false)])::env,hp,nx⟩)
  (k1:∀x l',l'.length<xs.length->xs.Perm (x::l')->WG K Q (.o ops rest::s) ⟨(d,.tup [.con (.bool true),.con (enc x).1,(enc x).2])::env,(id,.iter [enc x] (l'.map enc))::hp,nx⟩):
  WG K Q (.o ops (⟨some d,.next x false,ty,pos,after,g⟩::rest)::s) ⟨env,hp,nx⟩:=by
 refine w1g hw hx ho hN (fun h=>k0 (List.map_eq_nil_iff.1 h)) (fun j p hj=>?_);rw[bf9,ad8] at hj;obtain⟨y,h1,rfl⟩:=hj;rw[<-ChangeMaps.map_eraseIdx enc xs j];have hlt:=(bi8.1 h1).1;exact k1 y (xs.eraseIdx j) (by rw[ag9,if_pos hlt];omega) (z9c y xs j h1)
end
end Go.Pv
namespace Go.Pv
open Go Go.RowKit
open Go.Sort in
theorem j5y{gl:Gl}{P:Program}{f:FuncId}{k id:Nat}{hp:q0m}{e:TypeId}{α:Type}[Inhabited α](enc:α->Value)(h1c:∀x,(enc x).oneCell'=true)(l l' zs:List α)(hid:q1e hp id=.arr e 1 (l.map fun x=>[V.con (enc x)]))(hl:(l'++zs).length=l.length)
  (h:∀(w:World) (blk off cap:Nat),Holds enc w blk off l.toArray->blk<w.heap.size->l.length<=cap->Calls P f #[.slice (some ⟨blk,off,none⟩) l.length cap] w fun e w'=>
   e=.returned (.slice (some ⟨blk,off,none⟩) l'.length cap)/\∃n os,w'=grow (putRow enc (Sort.ahead w n) blk off (l'++zs).toArray) os)
  (hn:∀(w:World) (a:Option Addr),l=[]->Calls P f #[.slice a 0 0] w fun e w'=>e=.returned (.slice a 0 0)/\Below w.heap.size w w'/\w.drawn<=w'.drawn):
  j4v gl P f [.own id l.length] k hp (.own id l'.length) k ((id,.arr e 1 (l'.map fun x=>[V.con (enc x)]))::hp):=by
 intro m β w vs himm _ hargs hown hpriv hinj hhid hnx
 obtain⟨v,rfl⟩:∃v,vs=#[v]:=by
  have:=hargs.len;simp at this
  exact⟨vs[0],by
   apply Array.ext
   ·simp[<-this]
   ·intro i h1 h2;have:i=0:=by simp at h2;omega
    subst this;simp⟩
 have hv:=hargs.at' 0 _ _ rfl rfl;have hob:=hown id;rw[hid] at hob;have hg:∀q,q1e ((id,Ob.arr e 1 (l'.map fun x=>[V.con (enc x)]))::hp) q=if id=q then Ob.arr e 1 (l'.map fun x=>[V.con (enc x)]) else q1e hp q:=fun q=>q5d _ _ _ _
 have hlive:∀q,q1e ((id,Ob.arr e 1 (l'.map fun x=>[V.con (enc x)]))::hp) q≠.dead->q1e hp q≠.dead:=fun q hq=>by
  rw[hg] at hq;split at hq
  ·rename_i hh;subst hh;rw[hid];simp
  ·exact hq
 have hhids:∀(w':World),w.heap.size<=w'.heap.size->∀q x,q1e ((id,Ob.arr e 1 (l'.map fun x=>[V.con (enc x)]))::hp) q≠.dead->β.hid q x->x<w'.heap.size/\m x=none/\(x<w.heap.size->¬q5v hp β x)/\
   (∀i b c,q1e ((id,Ob.arr e 1 (l'.map fun x=>[V.con (enc x)]))::hp) i≠.dead->β i=some (some (b,c))->x≠b)/\∀i,q1e ((id,Ob.arr e 1 (l'.map fun x=>[V.con (enc x)]))::hp) i≠.dead->β.hid i x->i=q:=by
  intro w' hs q x hq hx;obtain⟨q1,q2,q3,q4⟩:=hhid q x (hlive q hq) hx;exact⟨by omega,q2,fun _ hF=>(hF q (hlive q hq)).2 hx,fun i b c hi=>q3 i b c (hlive i hi),fun i hi=>q4 i (hlive i hi)⟩
 generalize hnl:l.length=n at hv h;cases hv with
 |imm h'=>cases h'
 | @ownNil _ ad hb=>
  have hl0:l=[]:=be9.1 hnl;subst hl0
  have hl':l'=[]:=by
   have:(l'++zs).length=0:=by simpa using hl
   simp at this;exact this.1
  subst hl';refine(hn w ad rfl).mono ?_
  rintro ex w' ⟨rfl,hB,hdr⟩
  have hheap:∀b,b<w.heap.size->w'.heap[b]? = w.heap[b]?:=hB.block;refine⟨_,m,β,rfl,.ownNil hb,Mem.le_refl _,fun b o hb=>by rw[hheap b (q9h (himm b o hb))];exact himm b o hb,fun b hb _=>⟨rfl,hheap b hb⟩,hB.size,⟨hB.os,hB.tape,hB.output,hdr⟩,fun q=>?_,fun q b cap hq hbq=>?_,fun q q' b cap cap' hq hq'=>hinj q q' b cap cap' (hlive q hq) (hlive q' hq'),hhids w' hB.size,hnx,fun q hq=>⟨hq,rfl⟩⟩
  ·rw[hg];split
   ·rename_i hh;subst hh;rw[hb];simp[q4l]
   ·by_cases hd:q1e hp q=.dead
    ·rw[hd];exact q4l.dead' _
    ·exact q4l.congr (fun b cap hbb=>hheap b (q3x hd hbb (hown q))) (fun x hx=>hheap x (hhid q x hd hx).1) (hown q)
  ·have hq:=hlive q hq;exact⟨hpriv q b cap hq hbq,fun _ hF=>(hF q hq).1 cap hbq⟩
 | @own _ _ b cap hb=>
  rw[hb] at hob;obtain⟨arr,bl,o1,o2,o3,o4,o5,oB,o6⟩:=hob;have hbs:b<w.heap.size:=q9h o1
  have hcell:∀j (hj:j<l.length),arr[cap.off+j]? = some (enc l[j]):=fun j hj=>by
   obtain⟨v,v1,v2,_⟩:=o6 j 0 [V.con (enc l[j])] (V.con (enc l[j])) (by simp[be8 hj]) rfl;have:=(v2.v rfl).of_con;subst this
   simpa using v1
  refine(h w b cap.off cap.n (fun j hj=>?_) hbs (by simpa[hnl] using o3)).mono ?_
  ·have hj':j<l.length:=by simpa using hj
   have hz:(l.toArray)[j]! = l[j]:=by rw[getElem!_pos _ j hj];simp
   rw[hz];exact⟨(q7i o1).trans (hcell j hj'),by simp[World.frozen?,o1]⟩
  rintro ex w' ⟨rfl,nd,os,rfl⟩
  have hheap:=z7d enc w nd b cap.off (l'++zs).toArray os;have hother:∀b',b'<w.heap.size->b'≠b->(grow (putRow enc (Sort.ahead w nd) b cap.off (l'++zs).toArray) os).heap[b']? = w.heap[b']?:=fun b' h1 h2=>by rw[hheap b' h1,if_neg (Ne.symm h2)]
  have hlid:q1e hp id≠.dead:=by rw[hid];simp
  have hsz:w.heap.size<=(grow (putRow enc (Sort.ahead w nd) b cap.off (l'++zs).toArray) os).heap.size:=by simp[grow,putRow,mapBlock,Sort.ahead]
  refine⟨_,m,β,rfl,.own hb,Mem.le_refl _,fun b' o hb'=>?_,fun b' hb' hF=>⟨rfl,hother b' hb' (fun e=>?_)⟩,hsz,⟨rfl,rfl,rfl,bj8 _ _⟩,fun q=>?_,fun q b' cap' hq hbq=>?_,fun q q' b1 cap1 cap2 hq hq'=>hinj q q' b1 cap1 cap2 (hlive q hq) (hlive q' hq'),hhids _ hsz,hnx,fun q hq=>⟨hq,rfl⟩⟩
  ·have hne:b'≠b:=fun e=>by
    subst e;rw[hpriv id b' cap hlid hb] at hb';simp at hb'
   rw[hother b' (q9h (himm b' o hb')) hne];exact himm b' o hb'
  ·subst e;exact(hF id hlid).1 cap hb
  ·rw[hg];split
   ·rename_i hh;subst hh;rw[hb];refine⟨putCells enc cap.off (l'++zs).toArray arr,bl,by rw[hheap b hbs,if_pos rfl,o1];rfl,by simp[putCells,o2],by simp at hl o3 ⊢;omega,o4,?_,oB,fun i j row c hr hc=>?_⟩
    ·intro row hr;obtain⟨x,_,rfl⟩:=bk9.1 hr;rfl
    ·rw[bf9] at hr;cases hli:l'[i]? with
     |none=>rw[hli] at hr;simp at hr
     |some x=>
      rw[hli] at hr;simp at hr;subst hr;have hi:i<l'.length:=(bi8.1 hli).1;have hx:l'[i]=x:=(bi8.1 hli).2
      have hj:j=0:=by
       have:=(bi8.1 hc).1;simp at this;exact this
      subst hj;simp at hc;subst hc;have ha:cap.off+i<arr.size:=by simp at hl o3;omega
      refine⟨enc x,?_,.inl (.imm (.con _)),h1c x⟩;rw[bv9,bl8];unfold putCells;rw[bm9,bh9 ha,bg9,if_pos ⟨bj8 _ _,by simp;omega⟩,bm8,getElem!_pos _ i (by simp;omega)];simp[List.getElem_append_left hi,hx]
   ·by_cases hd:q1e hp q=.dead
    ·rw[hd];exact q4l.dead' _
    ·refine q4l.congr (fun b' cap' hbb=>hother b' (q3x hd hbb (hown q)) (fun e=>?_)) (fun x hx=>hother x (hhid q x hd hx).1 ((hhid q x hd hx).2.2.1 id b cap hlid hb)) (hown q);subst e;rename_i hne;exact hne (hinj id q b' cap cap' hlid hd hb hbb)
  ·have hq:=hlive q hq;exact⟨hpriv q b' cap' hq hbq,fun _ hF=>(hF q hq).1 cap' hbq⟩
def cpt{α:Type}[Inhabited α][DecidableEq α](l:List α):List α:=Lib.compact l
theorem j6f{α:Type}[Inhabited α][DecidableEq α](d:Array α)(m:Nat):(Lib.compactUpTo d m).length<=m:=by
 simp only[Lib.compactUpTo,br9];exact cj9 (ab8 _ _) (by simp)
theorem w9e{α:Type}[Inhabited α][DecidableEq α](l:List α):(cpt l).length<=l.length:=j6f _ _
theorem v0q(w:World):w=Go.Sort.grow w #[]:=by cases w;simp[Go.Sort.grow]
theorem y3a{α:Type}(l c:List α)(h:c.length<=l.length)(z:α):(c++List.replicate (l.length - c.length) z).length=l.length:=by simp;omega
open Go.Sort in
theorem j4y{gl:Gl}{P:Program}{f:FuncId}{k id:Nat}{hp:q0m}{e:TypeId}{α:Type}[Inhabited α][DecidableEq α](enc:α->Value)(h1c:∀x,(enc x).oneCell'=true)(z:α)(l:List α)(hid:q1e hp id=.arr e 1 (l.map fun x=>[V.con (enc x)]))
  (h:∀(blk off cap:Nat) (zs:List α) (w:World),Holds enc w blk off zs.toArray->zs.length<=9223372036854775807->zs.length<=cap->Calls P f #[.slice (some ⟨blk,off,none⟩) zs.length cap] w fun e w'=>
   e=.returned (.slice (some ⟨blk,off,none⟩) (Lib.compact zs).length cap)/\∃q,w'=putRow enc (Sort.ahead w q) blk off (Lib.compact zs++List.replicate (zs.length - (Lib.compact zs).length) z).toArray)
  (hn:∀(p:Option Addr) (w:World),Calls P f #[.slice p 0 0] w fun e w'=>e=.returned (.slice p 0 0)/\w'=w) (hc:l.length<=140737488355328):
  j4v gl P f [.own id l.length] k hp (.own id (cpt l).length) k ((id,.arr e 1 ((cpt l).map fun x=>[V.con (enc x)]))::hp):=
 j5y enc h1c l (cpt l) (List.replicate (l.length - (cpt l).length) z) hid (y3a _ _ (w9e l) z) (fun w blk off cap hH _ hcap=>(h blk off cap l w hH (by omega) hcap).mono (by rintro e w' ⟨rfl,q,rfl⟩;exact⟨rfl,q,#[],v0q _⟩)) (fun w a _=>(hn a w).mono (by rintro e w' ⟨rfl,rfl⟩;exact⟨rfl,Below.refl _ _,ae8 _⟩))
end Go.Pv
namespace Go.Pv
open Go Go.RowKit Go.Sort Go.Proofs
def q1v{T:Type}(cmp:T->T->Option Int)(x y:T):Bool:=match cmp x y with|some c=>decide (c<0)|none=>false
def w9q{T:Type}(cmp:T->T->Option Int)(l:List T):Bool:=
 l.all fun x=>!q1v cmp x x&&l.all fun y=>(cmp x y).isSome&&l.all fun z=>(!(q1v cmp x y&&q1v cmp y z)||q1v cmp x z)&&(q1v cmp x y||q1v cmp y z||!q1v cmp x z)
def w6n{T:Type}(cmp:T->T->Option Int):List T->Bool
 |[]=>true
 |x::l=>l.all (fun y=>q1v cmp x y||q1v cmp y x)&&w6n cmp l
def w3t{T:Type}(cmp:T->T->Option Int):List T->Bool
 |[]=>true
 |x::l=>l.all (fun y=>!q1v cmp y x)&&w3t cmp l
def y1e{T:Type}(cmp:T->T->Option Int)(l:List T):Option (List T):=
 bif w9q cmp l&&w6n cmp l&&w3t cmp (l.mergeSort fun x y=>!q1v cmp y x)&&Nat.blt l.length 4611686018427387904 then some (l.mergeSort fun x y=>!q1v cmp y x) else none
theorem w9f{T:Type}{cmp:T->T->Option Int}:∀{l:List T},w3t cmp l=true->l.Pairwise fun x y=>q1v cmp y x=false
 |[],_=>.nil
 |x::l,h=>by
  simp only[w3t,av8,aw9,aw8] at h;exact .cons h.1 (w9f h.2)
theorem v0b{T:Type}{cmp:T->T->Option Int}:∀{l:List T},w6n cmp l=true->∀x∈l,∀y∈l,q1v cmp x y=false->q1v cmp y x=false->x=y
 |[],_,x,hx,_,_,_,_=>by simp at hx
 |z::l,h,x,hx,y,hy,h1,h2=>by
  simp only[w6n,av8,aw9,ax9] at h;rcases ax8.1 hx with e|hx'
  ·rcases ax8.1 hy with e'|hy'
   ·rw[e,e']
   ·rw[e] at h1 h2;rcases h.1 y hy' with q|q
    ·rw[q] at h1;simp at h1
    ·rw[q] at h2;simp at h2
  ·rcases ax8.1 hy with e'|hy'
   ·rw[e'] at h1 h2;rcases h.1 x hx' with q|q
    ·rw[q] at h2;simp at h2
    ·rw[q] at h1;simp at h1
   ·exact v0b h.2 x hx' y hy' h1 h2
structure z0l{T:Type}(l:List T)(enc:T->List V)(k:Nat)(m:Mem) where
 t:T
 mem:t∈l
 vs:List Value
 hl:vs.length=k
 h1:∀v∈vs,v.oneCell'=true
 rel:∀(j:Nat) (c:V) (v:Value),(enc t)[j]? = some c->vs[j]? = some v->q2p m c v
theorem w1d{m m':Mem}{w w':World}(h:w5u m m' w w'):∃q os,w'=grow (w.drewN q) os:=by
 obtain⟨q,hq⟩:=Nat.exists_eq_add_of_le h.same.drawn;refine⟨q,w'.heap.extract w.heap.size w'.heap.size,?_⟩
 have hh:w'.heap=w.heap++w'.heap.extract w.heap.size w'.heap.size:=by
  apply ay9;simp only[Array.toList_append,Array.toList_extract];apply ay8;intro i;by_cases hi:i<w.heap.size
  ·rw[az9 (by simpa using hi)];have:=h.heap i hi
   simpa using this
  ·rw[az8 (by simpa using ba9 hi)];have hs:=h.size;by_cases h2:i<w'.heap.size
   ·rw[List.getElem?_take_of_lt (by simp;omega),ba8]
    congr 1
    simp;omega
   ·rw[bb9 (by simpa using h2),bb9 (by simp;omega)]
 obtain⟨h0,h1,h2,h3,h4⟩:=w;obtain⟨g0,g1,g2,g3,g4⟩:=w';have s1:=h.same.os;have s2:=h.same.tape;have s3:=h.same.output;simp only at hh hq s1 s2 s3;subst s1 s2 s3 hq;simp only[grow,World.drewN];rw[<-hh]
theorem j4l{α T:Type}[Inhabited α]{f:α->T}{r:T->T->Prop}{d:Array α}(h:∀i j,0<=i->i<j->j<d.size->r (f d[i]!) (f d[j]!)):(d.toList.map f).Pairwise r:=by
 rw[bb8];intro i j hi hj hij;have hi':i<d.size:=by simpa using hi
 have hj':j<d.size:=by simpa using hj
 have:=h i j (al8 _) hij hj';rw[getElem!_pos d i hi',getElem!_pos d j hj'] at this
 simpa using this
theorem w0o{gl:Gl}{P:Program}{g:FuncId}{m:Mem}{T:Type}{l:List T}{enc:T->List V}{k:Nat}{w:World}{b off size:Nat}{cs:Array Value}{caps:List V}{cmp:T->T->Option Int}[Inhabited (z0l l enc k m)](hek:∀x,(enc x).length=k)(hgl:v5i gl m)
  (hcl:caps.length=cs.size) (hcr:∀(i:Nat) (c:V) (v:Value),caps[i]? = some c->cs[i]? = some v->q2p m c v)
  (himm:∀(nd:Nat) (dk:Array (z0l l enc k m)) (os:Array Obj) (b':Nat) (o:Obj),m b'=some o->(sortWorldK z0l.vs k w b off nd dk os).heap[b']? = some o)
  (hcmp:∀x y c,cmp x y=some c->z6q gl P g ([.agg (enc x),.agg (enc y)]++caps) (.con (.int .i64 c)))
  (hd:∀x∈l,∀y∈l,(cmp x y).isSome=true):CmpLays P g cs (z0l.vs (l:=l) (enc:=enc) (k:=k) (m:=m)) k (fun x y=>(cmp x.t y.t).getD 0) b off size w:=by
 intro nd os dk _ x y;have hi:=himm nd dk os;generalize sortWorldK z0l.vs k w b off nd dk os=W at hi;obtain⟨c,hc⟩:=ae9.1 (hd x.t x.mem y.t y.mem);have hrelx:∀x:z0l l enc k m,q2p m (.agg (enc x.t)) (.agg x.vs.toArray):=fun x=>.agg (by simp[hek,x.hl]) fun i c v h1 h2=>x.rel i c v h1 (by simpa using h2)
 have hrels:v9m m ([.agg (enc x.t),.agg (enc y.t)]++caps) (#[.agg x.vs.toArray,.agg y.vs.toArray]++cs):=by
  refine⟨by simp[hcl];omega,fun i c' v' h1 h2=>?_⟩
  match i,h1,h2 with
  |0,h1,h2=>
   simp at h1;rw[bc9 (by simp)] at h2;simp at h2;rw[<-h1,<-h2];exact hrelx x
  |1,h1,h2=>
   simp at h1;rw[bc9 (by simp)] at h2;simp at h2;rw[<-h1,<-h2];exact hrelx y
  |i+2,h1,h2=>
   refine hcr i c' v' (by simpa using h1) ?_;rw[Array.getElem?_append_right (by simp)] at h2
   simpa using h2
 refine Calls.mono (hcmp x.t y.t c hc m W _ hi hgl hrels) ?_
 rintro ex w' ⟨v',m',rfl,hv',hgr⟩
 cases hv';refine⟨?_,w1d hgr⟩
 show Ending.returned (.int .i64 c)=.returned (.int .i64 ((cmp x.t y.t).getD 0))
 rw[hc];rfl
set_option maxHeartbeats 1000000 in
theorem j3y{gl:Gl}{P:Program}{f g:FuncId}{kk id:Nat}{hp:q0m}{e:TypeId}{k:Nat}{T:Type}(enc:T->List V)(hek:∀x,(enc x).length=k)(hei:∀x,q1t (enc x))(caps:List V)(hci:q1t caps)(cmp:T->T->Option Int)(l r:List T)
  (hid:q1e hp id=.arr e k (l.map enc)) (hr:y1e cmp l=some r)
  (hcmp:∀x y c,cmp x y=some c->z6q gl P g ([.agg (enc x),.agg (enc y)]++caps) (.con (.int .i64 c)))
  (h:∀{α:Type} [Inhabited α] (z0a:α->List Value) (_:∀x,(z0a x).length=k) (_:∀x,∀v∈z0a x,v.oneCell'=true) (cf:α->α->Int) (_:SWO (ltOf cf)) (cb:Array Value) (blk off cap:Nat) (d:Array α) (w:World) (_:CmpLays P g cb z0a k cf blk off d.size w) (_:HoldsK z0a k w blk off d) (_:blk<w.heap.size) (_:d.size<4611686018427387904),
   Calls P f #[.slice (some ⟨blk,off,none⟩) d.size cap,.func (.func g) #[] cb] w fun e w'=>e=.returned (.tuple #[])/\∃d' n os,PermIn 0 d.size d d'/\SortedIn (ltOf cf) 0 d.size d'/\w'=sortWorldK z0a k w blk off n d' os)
  (hn:∀(p:Option Addr) (cap:Nat) (fv:Value) (w:World),Calls P f #[.slice p 0 cap,fv] w fun e w'=>e=.returned (.tuple #[])/\w'=w):
  j4v gl P f [.own id l.length,.fn (.func g) [] caps] kk hp (.tup []) kk ((id,.arr e k (r.map enc))::hp):=by
 intro m β w vs himm hgl hargs hown hpriv hinj hhid hnx
 obtain⟨v,u,rfl⟩:∃v u,vs=#[v,u]:=by
  have:=hargs.len;simp at this;refine⟨vs[0],vs[1],?_⟩;apply Array.ext
  ·simp[<-this]
  ·intro i h1 h2;have:i=0\/i=1:=by simp at h2;omega
   rcases this with rfl|rfl<;>simp
 have hv:=hargs.at' 0 _ _ rfl rfl;have hu:=hargs.at' 1 _ _ rfl rfl;have hob:=hown id;rw[hid] at hob;unfold y1e at hr;cases hguard:(w9q cmp l&&w6n cmp l&&w3t cmp (l.mergeSort fun x y=>!q1v cmp y x)&&Nat.blt l.length 4611686018427387904) with
 |false=>rw[hguard] at hr;simp at hr
 |true=>
 rw[hguard] at hr;simp only[cond_true,bc8] at hr;simp only[av8] at hguard;obtain⟨⟨⟨hswo,hdst⟩,hasc⟩,hlen⟩:=hguard;have hlen:l.length<4611686018427387904:=bd9 hlen;have hperm:r.Perm l:=by rw[<-hr];exact List.mergeSort_perm _ _
 have hrl:r.length=l.length:=hperm.length_eq;rw[hr] at hasc;have hsorted:=w9f hasc
 have hswo':∀x∈l,q1v cmp x x=false/\∀y∈l,(cmp x y).isSome=true/\∀z∈l,(q1v cmp x y=true->q1v cmp y z=true->q1v cmp x z=true)/\(q1v cmp x y=false->q1v cmp y z=false->q1v cmp x z=false):=by
  intro x hx;unfold w9q at hswo;have h1:=aw9.1 hswo x hx;simp only[av8,aw8,aw9] at h1;refine⟨h1.1,fun y hy=>?_⟩;have h2:=h1.2 y hy;refine⟨h2.1,fun z hz=>?_⟩;have h3:=h2.2 z hz
  revert h3
  cases q1v cmp x y<;>cases q1v cmp y z<;>cases q1v cmp x z<;>simp
 have hg:∀q,q1e ((id,Ob.arr e k (r.map enc))::hp) q=if id=q then Ob.arr e k (r.map enc) else q1e hp q:=fun q=>q5d _ _ _ _
 have hlive:∀q,q1e ((id,Ob.arr e k (r.map enc))::hp) q≠.dead->q1e hp q≠.dead:=fun q hq=>by
  rw[hg] at hq;split at hq
  ·rename_i hh;subst hh;rw[hid];simp
  ·exact hq
 have hhids:∀(w':World),w.heap.size<=w'.heap.size->∀q x,q1e ((id,Ob.arr e k (r.map enc))::hp) q≠.dead->β.hid q x->x<w'.heap.size/\m x=none/\(x<w.heap.size->¬q5v hp β x)/\
   (∀i b c,q1e ((id,Ob.arr e k (r.map enc))::hp) i≠.dead->β i=some (some (b,c))->x≠b)/\∀i,q1e ((id,Ob.arr e k (r.map enc))::hp) i≠.dead->β.hid i x->i=q:=by
  intro w' hs q x hq hx;obtain⟨q1,q2,q3,q4⟩:=hhid q x (hlive q hq) hx;exact⟨by omega,q2,fun _ hF=>(hF q (hlive q hq)).2 hx,fun i b c hi=>q3 i b c (hlive i hi),fun i hi=>q4 i (hlive i hi)⟩
 obtain⟨cs,rfl,hcl,hcr⟩:∃cs:Array Value,u=.func (.func g) #[] cs/\caps.length=cs.size/\∀(i:Nat) (c:V) (v:Value),caps[i]? = some c->cs[i]? = some v->q2p m c v:=by
  cases hu with
  |imm h'=>
   cases h' with
   | @fn _ _ _ fs cs hl hl' hf hc=>
    have:fs=#[]:=Array.eq_empty_of_size_eq_zero (by simpa using hl.symm);subst this;exact⟨cs,rfl,hl',hc⟩
  | @fn _ _ _ fs cs hl hl' hf hc=>
   have:fs=#[]:=Array.eq_empty_of_size_eq_zero (by simpa using hl.symm);subst this;exact⟨cs,rfl,hl',fun i c v h1 h2=>(hci c (bd8 h1)).2 _ _ _ (hc i c v h1 h2)⟩
 by_cases hnil:l=[]
 ·subst hnil;have hrn:r=[]:=be9.1 hrl;subst hrn
  obtain⟨p,c,rfl⟩:∃p c,v=.slice p 0 c:=by
   cases hv with
   |imm h'=>cases h'
   |ownNil hb=>exact⟨_,_,rfl⟩
   |own hb=>exact⟨_,_,rfl⟩
  refine(hn p c _ w).mono ?_
  rintro ex w' ⟨rfl,rfl⟩
  have hsm:∀q,q1e ((id,Ob.arr e k (([]:List T).map enc))::hp) q=q1e hp q:=fun q=>by
   rw[hg];split
   ·rename_i hh;subst hh;rw[hid]
   ·rfl
  refine⟨_,m,β,rfl,.tup rfl (by simp),Mem.le_refl _,himm,fun b hb _=>⟨rfl,rfl⟩,ae8 _,⟨rfl,rfl,rfl,ae8 _⟩,fun q=>?_,fun q b cap hq hbq=>?_,fun q q' b cap cap' hq hq'=>hinj q q' b cap cap' (hlive q hq) (hlive q' hq'),hhids w' (ae8 _),hnx,fun q hq=>⟨hq,rfl⟩⟩
  ·rw[hsm];exact hown q
  ·have hq:=hlive q hq;exact⟨hpriv q b cap hq hbq,fun _ hF=>(hF q hq).1 cap hbq⟩
 generalize hnl:l.length=n at hv;cases hv with
 |imm h'=>cases h'
 | @ownNil _ ad hb=>exact absurd (be9.1 hnl) hnil
 | @own _ _ b cap hb=>
 rw[hb] at hob;obtain⟨arr,bl,o1,o2,o3,o4,o5,oB,o6⟩:=hob;have hbs:b<w.heap.size:=q9h o1;have o3':l.length<=cap.n:=by simpa using o3
 have hlid:q1e hp id≠.dead:=by rw[hid];simp
 have hmb:m b=none:=hpriv id b cap hlid hb
 have hcell:∀(i:Nat) (hi:i<l.length) (j:Nat) (c:V),(enc l[i])[j]? = some c->∃v,arr[cap.off+(i*k+j)]? = some v/\q2p m c v/\v.oneCell'=true:=fun i hi j c hc=>by
  obtain⟨v,v1,v2,v3⟩:=o6 i j (enc l[i]) c (by simp[be8 hi]) hc;have hI:=hei l[i] c (bd8 hc);exact⟨v,v1,hI.2 _ _ _ (v2.v hI.1),v3⟩
 have hrow:∀i:Fin l.length,∃x:z0l l enc k m,x.t=l[i.1]/\∀j,j<k->arr[cap.off+(i.1*k+j)]? = x.vs[j]?:=fun i=>by
  have q1e:∀j,j<k->∃c v,(enc l[i.1])[j]? = some c/\arr[cap.off+(i.1*k+j)]? = some v/\q2p m c v/\v.oneCell'=true:=fun j hj=>by
   have hj':j<(enc l[i.1]).length:=by rw[hek];exact hj
   obtain⟨v,hv⟩:=hcell i.1 i.2 j _ (be8 hj');exact⟨_,v,be8 hj',hv⟩
  have hvs:∀j,j<k->((List.range k).map fun j=>arr[cap.off+(i.1*k+j)]!)[j]? = arr[cap.off+(i.1*k+j)]?:=fun j hj=>by
   obtain⟨c,v,h1,h2,h3⟩:=q1e j hj;rw[bf9,bf8 hj,bg9,h2];have hlt:=(bg8.1 h2).1;rw[getElem!_pos arr _ hlt];rw[bh9 hlt] at h2;exact h2
  refine⟨⟨l[i.1],bh8 _,(List.range k).map fun j=>arr[cap.off+(i.1*k+j)]!,by simp,fun v hv=>?_,fun j c v hc hv=>?_⟩,rfl,fun j hj=>(hvs j hj).symm⟩
  ·obtain⟨j,hj⟩:=bi9 hv;have hjk:j<k:=by have:=(bi8.1 hj).1;simpa using this
   obtain⟨c,v',h1,h2,h3,h4⟩:=q1e j hjk;rw[hvs j hjk,h2] at hj;cases hj;exact h4
  ·have hjk:j<k:=by have:=(bi8.1 hv).1;simpa using this
   obtain⟨c',v',h1,h2,h3,h4⟩:=q1e j hjk;rw[hvs j hjk,h2] at hv;cases hv;rw[h1] at hc;cases hc;exact h3
 obtain⟨row,hrow⟩:∃row:Fin l.length->z0l l enc k m,∀i,(row i).t=l[i.1]/\∀j,j<k->arr[cap.off+(i.1*k+j)]? = (row i).vs[j]?:=⟨fun i=>(hrow i).choose,fun i=>(hrow i).choose_spec⟩
 haveI:Inhabited (z0l l enc k m):=⟨row ⟨0,List.length_pos_iff.2 hnil⟩⟩
 obtain⟨d,hds,hdi⟩:∃d:Array (z0l l enc k m),d.size=n/\∀i (hi:i<l.length),d[i]! = row ⟨i,hi⟩:=by
  refine⟨Array.ofFn row,by simp[hnl],fun i hi=>?_⟩;rw[getElem!_pos _ i (by simpa using hi)];simp
 have hdt:d.toList.map z0l.t=l:=by
  apply ay8;intro i;by_cases hi:i<l.length
  ·have:i<d.size:=by rw[hds,<-hnl];exact hi
   rw[bf9,ag8,bh9 this,bg9,be8 hi];have h2:=hdi i hi;rw[getElem!_pos d i this] at h2;rw[h2,(hrow ⟨i,hi⟩).1]
  ·rw[bb9 (by simp[hds,<-hnl];omega),bb9 (by omega)]
 have hlt:∀x y:z0l l enc k m,ltOf (fun x y:z0l l enc k m=>(cmp x.t y.t).getD 0) x y=q1v cmp x.t y.t:=fun x y=>by
  have:=((hswo' x.t x.mem).2 y.t y.mem).1
  show decide ((cmp x.t y.t).getD 0<0)=_
  unfold q1v;cases hc:cmp x.t y.t with
  |none=>rw[hc] at this;simp at this
  |some c=>rfl
 have hSW:SWO (ltOf (fun x y:z0l l enc k m=>(cmp x.t y.t).getD 0)):=by
  refine⟨fun x=>?_,fun x y z h1 h2=>?_,fun x y z h1 h2=>?_⟩
  ·rw[hlt];exact(hswo' x.t x.mem).1
  ·rw[hlt] at *;exact(((hswo' x.t x.mem).2 y.t y.mem).2 z.t z.mem).1 h1 h2
  ·rw[hlt] at *;exact(((hswo' x.t x.mem).2 y.t y.mem).2 z.t z.mem).2 h1 h2
 have hheap:∀(nd:Nat) (dk:Array (z0l l enc k m)) (os:Array Obj) (b':Nat),b'<w.heap.size->(sortWorldK z0l.vs k w b cap.off nd dk os).heap[b']? = if b=b' then (w.heap[b']?).map (onCells (putCells _root_.id cap.off (flatK z0l.vs k dk))) else w.heap[b']?:=fun nd dk os b' hb'=>z7d _root_.id w nd b cap.off (flatK z0l.vs k dk) os b' hb';have hother:∀(nd:Nat) (dk:Array (z0l l enc k m)) (os:Array Obj) (b':Nat),b'<w.heap.size->b'≠b->(sortWorldK z0l.vs k w b cap.off nd dk os).heap[b']? = w.heap[b']?:=fun nd dk os b' h1 h2=>by rw[hheap nd dk os b' h1,if_neg (Ne.symm h2)]
 have himm':∀(nd:Nat) (dk:Array (z0l l enc k m)) (os:Array Obj) (b':Nat) (o:Obj),m b'=some o->(sortWorldK z0l.vs k w b cap.off nd dk os).heap[b']? = some o:=fun nd dk os b' o hb'=>by
  have hne:b'≠b:=fun e=>by rw[e,hmb] at hb';simp at hb'
  rw[hother nd dk os b' (q9h (himm b' o hb')) hne];exact himm b' o hb'
 have hC:=w0o (size:=d.size) (w:=w) (b:=b) (off:=cap.off) hek hgl hcl hcr himm' hcmp fun x hx y hy=>((hswo' x hx).2 y hy).1
 have hH:HoldsK z0l.vs k w b cap.off d:=by
  intro j hj;have hjd:j<d.size*k:=by simpa using hj
  have hk0:0<k:=by
   rcases as8 k with h0|h0
   ·rw[show d.size*k=0 from by rw[Nat.mul_eq_zero];exact .inr h0] at hjd;omega
   ·exact h0
  have hi:j / k<l.length:=by rw[hnl,<-hds];exact bj9 (by rw[at8];exact hjd)
  have hjk:j % k<k:=at9 _ hk0;refine⟨?_,by simp[World.frozen?,o1]⟩;rw[get_flatK z0l.vs k d j hjd,hdi _ hi,q7i o1];have h2:=(hrow ⟨j / k,hi⟩).2 (j % k) hjk;have e1:j / k*k+j % k=j:=by rw[at8];exact au9 j k
  simp only[e1] at h2;rw[h2];have hlt2:j % k<(row ⟨j / k,hi⟩).vs.length:=by rw[(row ⟨j / k,hi⟩).hl];exact hjk
  rw[be8 hlt2]
  show _=some ((row ⟨j / k,hi⟩).vs[j % k]!)
  rw[getElem!_pos (row ⟨j / k,hi⟩).vs (j % k) hlt2]
 have hcall:=h z0l.vs (fun x=>x.hl) (fun x=>x.h1) _ hSW cs b cap.off cap.n d w hC hH hbs (by rw[hds,<-hnl];exact hlen);rw[hds] at hcall;refine hcall.mono ?_
 rintro ex w' ⟨rfl,d',nd,os,hP,hS,rfl⟩
 obtain⟨p1,_,p3⟩:=hP;have hd's:d'.size=n:=by rw[p1,hds]
 have hd'p:d'.toList.Perm d.toList:=by
  have e1:d'.extract 0 n=d':=by rw[<-hd's];exact Array.extract_size
  have e2:d.extract 0 n=d:=by rw[<-hds];exact Array.extract_size
  rwa [e1,e2] at p3
 have hd't:d'.toList.map z0l.t=r:=by
  refine List.Perm.eq_of_pairwise (le:=fun x y=>q1v cmp y x=false) (fun x y h1 h2 h3 h4=>?_) ?_ hsorted (((hd'p.map z0l.t).trans (by rw[hdt])).trans hperm.symm)
  ·exact v0b hdst x (((hd'p.map z0l.t).trans (by rw[hdt])).mem_iff.1 h1) y (hperm.mem_iff.1 h2) h4 h3
  ·refine j4l (f:=z0l.t) (r:=fun x y=>q1v cmp y x=false) fun i j hi hij hj=>?_;rw[<-hlt];exact hS i j hi hij (by rw[<-hd's];exact hj)
 have hsz:w.heap.size<=(sortWorldK z0l.vs k w b cap.off nd d' os).heap.size:=by simp[sortWorldK,putRowK,grow,putRow,mapBlock,Sort.ahead]
 refine⟨_,m,β,rfl,.tup rfl (by simp),Mem.le_refl _,himm' nd d' os,fun b' hb' hF=>⟨rfl,hother nd d' os b' hb' (fun e=>?_)⟩,hsz,⟨rfl,rfl,rfl,bj8 _ _⟩,fun q=>?_,fun q b' cap' hq hbq=>?_,fun q q' b1 cap1 cap2 hq hq'=>hinj q q' b1 cap1 cap2 (hlive q hq) (hlive q' hq'),hhids _ hsz,hnx,fun q hq=>⟨hq,rfl⟩⟩
 ·subst e;exact(hF id hlid).1 cap hb
 ·rw[hg];split
  ·rename_i hh;subst hh;rw[hb];refine⟨putCells _root_.id cap.off (flatK z0l.vs k d') arr,bl,by rw[hheap nd d' os b hbs,if_pos rfl,o1];rfl,by simp[putCells,o2],by simpa[hrl] using o3,o4,?_,oB,fun i j rw' c hr' hc=>?_⟩
   ·intro rw' hr';obtain⟨x,_,rfl⟩:=bk9.1 hr';exact hek x
   ·rw[<-hd't,List.map_map,bf9,ag8] at hr';cases hx:d'[i]? with
    |none=>rw[hx] at hr';simp at hr'
    |some x=>
     rw[hx] at hr';simp at hr';subst hr';have hi:i<d'.size:=(bg8.1 hx).1;have hjk:j<k:=by have:=(bi8.1 hc).1;rwa [hek] at this
     have hjv:j<x.vs.length:=by rw[x.hl];exact hjk
     have hij:i*k+j<d'.size*k:=by
      have:=bk8 k (show i+1<=d'.size from hi);rw[bl9] at this;omega
     have ha:cap.off+(i*k+j)<arr.size:=by
      rw[o2];have:=bk8 k (show d'.size<=cap.n by rw[hd's,<-hnl];exact o3');omega
     have e1:(i*k+j) / k=i:=by
      rw[at8,Nat.mul_add_div (by omega),Nat.div_eq_of_lt hjk,bl8]
     have e2:(i*k+j) % k=j:=by rw[at8,Nat.mul_add_mod,Nat.mod_eq_of_lt hjk]
     refine⟨x.vs[j],?_,.inl (.imm (x.rel j c _ hc (be8 hjv))),x.h1 _ (bh8 _)⟩;unfold putCells;rw[bm9,bh9 ha,bg9,if_pos ⟨bj8 _ _,by rw[size_flatK];omega⟩,bm8,get_flatK z0l.vs k d' _ hij,e1,e2]
     have hx2:d'[i]! = x:=by
      rw[getElem!_pos d' i hi];rw[bh9 hi] at hx;exact ak9 hx
     rw[hx2]
     show some ((x.vs)[j]!)=_
     rw[getElem!_pos x.vs j hjv]
  ·rename_i hne;by_cases hd:q1e hp q=.dead
   ·rw[hd];exact q4l.dead' _
   ·refine q4l.congr (fun b' cap' hbb=>hother nd d' os b' (q3x hd hbb (hown q)) (fun e=>?_)) (fun x hx=>hother nd d' os x (hhid q x hd hx).1 ((hhid q x hd hx).2.2.1 id b cap hlid hb)) (hown q);subst e;exact hne (hinj id q b' cap cap' hlid hd hb hbb)
 ·have hq:=hlive q hq;exact⟨hpriv q b' cap' hq hbq,fun _ hF=>(hF q hq).1 cap' hbq⟩
end Go.Pv
