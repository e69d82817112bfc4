/- Part of the proof: K10S, K10U, K10V, K10X, K10N1, K10N2, K10N3, KW, K10P5. -/
import Derived.Test.YtpbkggamiipdmaaGreatR10K10W
import Derived.Test.YtpbkggamiipdmaaGreatR10Z10O
namespace Go.Proofs.YtpbkggamiipdmaaGreat
open Go Go.Pv
set_option linter.unusedVariables false
set_option linter.unusedSimpArgs false
set_option maxRecDepth 100000
def tru(l:List Bool)(n:Nat):Prop:=l[n]? = some true
def fls(l:List Bool):Nat:=l.countP fun b=>!b
theorem q2r{l:List Bool}{i n:Nat}(hi:i<l.length):tru (l.set i true) n<->n=i\/tru l n:=by
 unfold tru
 rw[List.getElem?_set]
 by_cases h:i=n
 ·subst h;simp[hi]
 ·rw[if_neg h]
  constructor
  ·exact .inr
  ·rintro(h2|h2)
   ·exact absurd h2.symm h
   ·exact h2
theorem y3b{l:List Bool}{i:Nat}(hi:i<l.length)(h:l[i]=false):fls (l.set i true)+1=fls l:=by
 induction l generalizing i with
 |nil=>simp at hi
 |cons x l ih=>
  cases i with
  |zero=>
   simp only[List.getElem_cons_zero] at h
   subst h
   simp[fls]
  |succ i=>
   have:=ih (i:=i) (by simpa using hi) (by simpa using h)
   unfold fls at this ⊢
   rw[List.set_cons_succ,List.countP_cons,List.countP_cons]
   omega
structure j8x(A:Nat->Prop)(l:List Bool)(q:List Int)(l':List Bool)(q':List Int):Prop where
 len:l'.length=l.length
 mu:q'.length+fls l'=q.length+fls l
 old:∀n,tru l n->tru l' n
 new:∀n,tru l' n->tru l n\/(A n/\(n:Int)∈q')
 qold:∀x,x∈q->x∈q'
 qnew:∀x,x∈q'->x∈q\/∃n:Nat,x=n/\A n/\tru l' n
theorem j8x.refl{A:Nat->Prop}{l:List Bool}{q:List Int}:j8x A l q l q:=⟨rfl,rfl,fun _ h=>h,fun _ h=>.inl h,fun _ h=>h,fun _ h=>.inl h⟩
theorem j8x.trans{A:Nat->Prop}{l l' l'':List Bool}{q q' q'':List Int}(h:j8x A l q l' q')(g:j8x A l' q' l'' q''):j8x A l q l'' q'' where
 len:=g.len.trans h.len
 mu:=g.mu.trans h.mu
 old:=fun n hn=>g.old n (h.old n hn)
 new:=fun n hn=>by
  rcases g.new n hn with h1|h1
  ·rcases h.new n h1 with h2|h2
   ·exact .inl h2
   ·exact .inr ⟨h2.1,g.qold _ h2.2⟩
  ·exact .inr h1
 qold:=fun x hx=>g.qold x (h.qold x hx)
 qnew:=fun x hx=>by
  rcases g.qnew x hx with h1|h1
  ·rcases h.qnew x h1 with h2|⟨n,h2,h3,h4⟩
   ·exact .inl h2
   ·exact .inr ⟨n,h2,h3,g.old n h4⟩
  ·exact .inr h1
theorem j8x.weak{A B:Nat->Prop}{l l':List Bool}{q q':List Int}(h:j8x A l q l' q')(hab:∀n,A n->B n):j8x B l q l' q' where
 len:=h.len
 mu:=h.mu
 old:=h.old
 new:=fun n hn=>(h.new n hn).imp id (fun x=>⟨hab n x.1,x.2⟩)
 qold:=h.qold
 qnew:=fun x hx=>(h.qnew x hx).imp id (fun⟨n,h1,h2,h3⟩=>⟨n,h1,hab n h2,h3⟩)
theorem v5r(F:Nat)(w:q1b)(l md:List Bool)(m:List (q2a×Bool))(o:List q2a)(ty q:List Int)(n:Nat)(hn:n<l.length)(hb:q.length+fls l<=100000):
  ∃l' q',v8v F (n:Int) w l md m o ty q=some (l',q')/\j8x (fun k=>k=n) l q l' q'/\tru l' n:=by
 unfold v8v
 rw[q2h hn,Option.bind_some]
 cases hl:l[n]
 ·rw[if_pos (by simp),Option.bind_some,if_pos (by simp;omega),Int.toNat_natCast]
  refine⟨l.set n true,q++[(n:Int)],rfl,⟨by simp,?_,fun k hk=>(q2r hn).2 (.inr hk),fun k hk=>?_,fun x hx=>List.mem_append_left _ hx,fun x hx=>?_⟩,(q2r hn).2 (.inl rfl)⟩
  ·have:=y3b hn hl
   simp;omega
  ·rcases(q2r hn).1 hk with rfl|hk
   ·exact .inr ⟨rfl,by simp⟩
   ·exact .inl hk
  ·rcases List.mem_append.1 hx with hx|hx
   ·exact .inl hx
   ·simp at hx
    exact .inr ⟨n,hx,rfl,(q2r hn).2 (.inl rfl)⟩
 ·rw[if_neg (by simp)]
  exact⟨l,q,rfl,j8x.refl,by unfold tru;rw[List.getElem?_eq_getElem hn,hl]⟩
def fI(w:q1b)(x:Tx):Int:=(q6b w.funcs x).getD 0
def tI(w:q1b)(x:Tx):Int:=(q6b w.types x).getD 0
def onB(w:q1b)(x:Tx):Bool:=(q6b w.on x).getD false
def z8r(w:q1b)(x:Tx):List Int:=(q6b w.fitting x).getD []
def q0p(c:q6c):q2a:=q2a.mk c.Target c.Method
inductive RR(F:Nat)(w:q1b):Bool->Int->Prop
 |entry {e:Tx} (h:e∈w.g.Entries):RR F w false (fI w e)
 |dir {f:Int} {x:q5e} {c:q6c} (hf:RR F w false f) (hx:idx w.g.Funcs f=some x) (hc:c∈x.Calls) (ho:onB w c.Feature=true) (k:c.Kind=1):RR F w false (fI w c.Target)
 |dis {f t v:Int} {x:q5e} {c:q6c} (hf:RR F w false f) (hx:idx w.g.Funcs f=some x) (hc:c∈x.Calls) (ho:onB w c.Feature=true) (k:c.Kind≠1) (ht:t∈z8r w c.Target) (hm:w.made=true->RR F w true t) (hv:z3f F w c t=some v):RR F w false v
 |mk {f:Int} {x:q5e} {t:Tx} (hf:RR F w false f) (hx:idx w.g.Funcs f=some x) (ht:t∈x.Makes):RR F w true (tI w t)
theorem w9h(F:Nat)(w:q1b){c c':q6c}(h:c.Method=c'.Method)(t:Int):z3f F w c t=z3f F w c' t:=by unfold z3f;rw[h]
structure WOk(F:Nat)(w:q1b):Prop where
 fl:w.g.Funcs.length<=3000
 tl:w.g.Types.length<=500
 ent:∀e,e∈w.g.Entries->∃i:Nat,i<w.g.Funcs.length/\fI w e=i
 cl:∀x,x∈w.g.Funcs->x.Calls.length<=200
 mks:∀x,x∈w.g.Funcs->∀t,t∈x.Makes->∃i:Nat,i<w.g.Types.length/\tI w t=i
 dir:∀x,x∈w.g.Funcs->∀c,c∈x.Calls->∃i:Nat,i<w.g.Funcs.length/\fI w c.Target=i
 fit:∀s t,t∈z8r w s->∃i:Nat,i<w.g.Types.length/\t=i
 tgt:∀c (t:Int),(∃i:Nat,i<w.g.Types.length/\t=i)->0<w.g.Funcs.length->∃i:Nat,i<w.g.Funcs.length/\z3f F w c t=some (i:Int)
def SC(s:q2a):q6c:=q6c.mk 0 s.iface s.method []
def Done(F:Nat)(w:q1b)(l md:List Bool)(o:List q2a)(n:Nat):Prop:=
 ∀x,idx w.g.Funcs (n:Int)=some x->(∀t,t∈x.Makes->∀i:Nat,tI w t=i->tru md i)/\∀c,c∈x.Calls->onB w c.Feature=true->(c.Kind=1->∀i:Nat,fI w c.Target=i->tru l i)/\(c.Kind≠1->q0p c∈o)
structure Inv(F:Nat)(w:q1b)(l md:List Bool)(m:List (q2a×Bool))(o:List q2a)(q:List Int)(b z:Nat)(E:Nat->Prop):Prop where
 ll:l.length=w.g.Funcs.length
 ml:md.length=w.g.Types.length
 mu:o.length+200*(q.length+fls l)+b<=600000
 qm:q.length+fls l=z/\z<=3000
 qr:∀x,x∈q->∃n:Nat,x=n/\tru l n
 sf:∀n,tru l n->RR F w false n
 st:∀n,tru md n->RR F w true n
 ms:∀s,(q6b m s).getD false=true<->s∈o
 so:∀s,s∈o->∃f x c,RR F w false f/\idx w.g.Funcs f=some x/\c∈x.Calls/\onB w c.Feature=true/\c.Kind≠1/\s=q0p c
 cls:∀s,s∈o->∀t,t∈z8r w s.iface->(w.made=true->tru md t.toNat)->∀n:Nat,z3f F w (SC s) t=some (n:Int)->tru l n
 dn:∀n,tru l n->(n:Int)∈q\/Done F w l md o n\/E n
theorem Done.mono{F:Nat}{w:q1b}{l md l' md':List Bool}{o o':List q2a}{n:Nat}(h:Done F w l md o n)(hl:∀n,tru l n->tru l' n)(hm:∀n,tru md n->tru md' n)(ho:∀s,s∈o->s∈o'):Done F w l' md' o' n:=fun x hx=>
 ⟨fun t ht i hi=>hm i ((h x hx).1 t ht i hi),fun c hc hon=>⟨fun k i hi=>hl i (((h x hx).2 c hc hon).1 k i hi),fun k=>ho _ (((h x hx).2 c hc hon).2 k)⟩⟩
theorem v9w{l:List Bool}{n:Nat}(h:tru l n):n<l.length:=(List.getElem?_eq_some_iff.1 h).1
theorem Inv.grow{F:Nat}{w:q1b}{l md l':List Bool}{m:List (q2a×Bool)}{o:List q2a}{q q':List Int}{b z:Nat}{E A:Nat->Prop}(I:Inv F w l md m o q b z E)(G:j8x A l q l' q')(hA:∀n,A n->RR F w false n):Inv F w l' md m o q' b z E where
 ll:=G.len.trans I.ll
 ml:=I.ml
 mu:=by rw[G.mu];exact I.mu
 qm:=by rw[G.mu];exact I.qm
 qr:=fun x hx=>by
  rcases G.qnew x hx with h|⟨n,h1,_,h3⟩
  ·obtain⟨n,h1,h2⟩:=I.qr x h
   exact⟨n,h1,G.old n h2⟩
  ·exact⟨n,h1,h3⟩
 sf:=fun n hn=>by
  rcases G.new n hn with h|h
  ·exact I.sf n h
  ·exact hA n h.1
 st:=I.st
 ms:=I.ms
 so:=I.so
 cls:=fun s hs t ht hm n hn=>G.old n (I.cls s hs t ht hm n hn)
 dn:=fun n hn=>by
  rcases G.new n hn with h|h
  ·rcases I.dn n h with h1|h1|h1
   ·exact .inl (G.qold _ h1)
   ·exact .inr (.inl (h1.mono G.old (fun _ h=>h) (fun _ h=>h)))
   ·exact .inr (.inr h1)
  ·exact .inl h.2
theorem j6e(F:Nat)(w:q1b)(c:q6c)(md:List Bool)(m:List (q2a×Bool))(o:List q2a)(ty:List Int)(hml:md.length=w.g.Types.length):
  ∀(ts:List Int) (l:List Bool) (q:List Int),(∀t,t∈ts->(∃i:Nat,i<w.g.Types.length/\t=i)/\∃i:Nat,i<l.length/\z3f F w c t=some (i:Int))->q.length+fls l<=100000->
  ∃l' q',z0c F c w md m o ty ts l q=some (l',q0g m (q0p c) true,o++[q0p c],q')/\j8x (fun n=>∃t,t∈ts/\(w.made=true->tru md t.toNat)/\z3f F w c t=some (n:Int)) l q l' q'/\
   ∀t,t∈ts->(w.made=true->tru md t.toNat)->∀n:Nat,z3f F w c t=some (n:Int)->tru l' n
 |[],l,q,_,_=>⟨l,q,rfl,j8x.refl,by simp⟩
 |t::ts,l,q,h,hb=>by
  obtain⟨⟨i,hi,rfl⟩,v,hv,hM⟩:=h t (by simp)
  -- the step, if it is taken
  have step:(w.made=true->tru md i)->∃l' q',(v8v F (v:Int) w l md (q0g m (q0p c) true) (o++[q0p c]) ty q=some (l',q'))/\(∃l'' q'',z0c F c w md m o ty ts l' q'=some (l'',q0g m (q0p c) true,o++[q0p c],q'')/\j8x (fun n=>∃u,u∈(i:Int)::ts/\(w.made=true->tru md u.toNat)/\z3f F w c u=some (n:Int)) l q l'' q''/\
    ∀u,u∈(i:Int)::ts->(w.made=true->tru md u.toNat)->∀n:Nat,z3f F w c u=some (n:Int)->tru l'' n):=by
   intro hm
   obtain⟨l',q',e1,g1,t1⟩:=v5r F w l md (q0g m (q0p c) true) (o++[q0p c]) ty q v hv hb
   obtain⟨l'',q'',e2,g2,t2⟩:=j6e F w c md m o ty hml ts l' q' (fun u hu=>by rw[g1.len];exact h u (List.mem_cons_of_mem _ hu)) (by rw[g1.mu];exact hb)
   refine⟨l',q',e1,l'',q'',e2,(g1.weak (fun n hn=>⟨(i:Int),by simp,by simpa using hm,by subst hn;exact hM⟩)).trans (g2.weak fun n ⟨u,h1,h2⟩=>⟨u,List.mem_cons_of_mem _ h1,h2⟩),fun u hu hmu n hn=>?_⟩
   rcases List.mem_cons.1 hu with rfl|hu
   ·rw[hM] at hn;simp only[Option.some.injEq] at hn;obtain rfl:v=n:=by omega
    exact g2.old _ t1
   ·exact t2 u hu hmu n hn
  have skip:¬(w.made=true->tru md i)->∃l'' q'',z0c F c w md m o ty ts l q=some (l'',q0g m (q0p c) true,o++[q0p c],q'')/\j8x (fun n=>∃u,u∈(i:Int)::ts/\(w.made=true->tru md u.toNat)/\z3f F w c u=some (n:Int)) l q l'' q''/\
    ∀u,u∈(i:Int)::ts->(w.made=true->tru md u.toNat)->∀n:Nat,z3f F w c u=some (n:Int)->tru l'' n:=by
   intro hm
   obtain⟨l'',q'',e2,g2,t2⟩:=j6e F w c md m o ty hml ts l q (fun u hu=>h u (List.mem_cons_of_mem _ hu)) hb
   refine⟨l'',q'',e2,g2.weak fun n ⟨u,h1,h2⟩=>⟨u,List.mem_cons_of_mem _ h1,h2⟩,fun u hu hmu n hn=>?_⟩
   rcases List.mem_cons.1 hu with rfl|hu
   ·exact absurd (by simpa using hmu) hm
   ·exact t2 u hu hmu n hn
  rw[z0c]
  simp only[q2e]
  by_cases hmade:w.made=true
  ·rw[if_neg (by simp[hmade]),q2h (by omega:i<md.length),Option.bind_some]
   cases hmd:md[i]
   ·rw[if_neg (by simp)]
    exact skip (fun h=>by have:=h hmade;unfold tru at this;rw[List.getElem?_eq_getElem (by omega),hmd] at this;simp at this)
   ·rw[if_pos rfl,hM,Option.bind_some]
    obtain⟨l',q',e1,r⟩:=step (fun _=>by unfold tru;rw[List.getElem?_eq_getElem (by omega),hmd])
    have e1':v8v F (v:Int) w l md (q0g m (q2a.mk c.Target c.Method) true) (o++([(q2a.mk c.Target c.Method)]:List q2a)) ty q=some (l',q'):=e1
    rw[e1',Option.bind_some]
    exact r
  ·rw[if_pos (by simpa using hmade),hM,Option.bind_some]
   obtain⟨l',q',e1,r⟩:=step (fun h=>absurd h hmade)
   have e1':v8v F (v:Int) w l md (q0g m (q2a.mk c.Target c.Method) true) (o++([(q2a.mk c.Target c.Method)]:List q2a)) ty q=some (l',q'):=e1
   rw[e1',Option.bind_some]
   exact r
structure v6g(l md:List Bool)(o:List q2a)(l' md':List Bool)(o':List q2a):Prop where
 l:∀n,tru l n->tru l' n
 m:∀n,tru md n->tru md' n
 o:∀s,s∈o->s∈o'
theorem v6g.refl{l md:List Bool}{o:List q2a}:v6g l md o l md o:=⟨fun _ h=>h,fun _ h=>h,fun _ h=>h⟩
theorem v6g.trans{l md l' md' l'' md'':List Bool}{o o' o'':List q2a}(h:v6g l md o l' md' o')(g:v6g l' md' o' l'' md'' o''):v6g l md o l'' md'' o'':=
 ⟨fun n x=>g.l n (h.l n x),fun n x=>g.m n (h.m n x),fun n x=>g.o n (h.o n x)⟩
theorem w2n{F:Nat}{w:q1b}(W:WOk F w){l md:List Bool}{m:List (q2a×Bool)}{o:List q2a}{q:List Int}{b z:Nat}{E:Nat->Prop}(I:Inv F w l md m o q (b+1) z E)
  {f:Int} {x:q5e} {c:q6c} (hf:RR F w false f) (hx:idx w.g.Funcs f=some x) (hxm:x∈w.g.Funcs) (hc:c∈x.Calls) (ho:onB w c.Feature=true) (hN:0<w.g.Funcs.length) (ty:List Int):
  ∃l' m' o' q',M150 F c w l md m o ty q=some (l',m',o',q')/\Inv F w l' md m' o' q' b z E/\v6g l md o l' md o'/\(c.Kind=1->∀i:Nat,fI w c.Target=i->tru l' i)/\(c.Kind≠1->q0p c∈o'):=by
 have weak:∀{l':List Bool} {q':List Int},Inv F w l' md m o q' (b+1) z E->Inv F w l' md m o q' b z E:=fun J=>⟨J.ll,J.ml,by have:=J.mu;omega,J.qm,J.qr,J.sf,J.st,J.ms,J.so,J.cls,J.dn⟩
 unfold M150
 by_cases k1:c.Kind=1
 ·rw[if_pos (by simpa using k1)]
  obtain⟨i,hi,he⟩:=W.dir x hxm c hc
  have he':(q6b w.funcs c.Target).getD 0=(i:Int):=he
  rw[he']
  obtain⟨l',q',e1,g1,t1⟩:=v5r F w l md m o ty q i (by rw[I.ll];exact hi) (by have:=I.qm;omega)
  rw[e1,Option.bind_some]
  refine⟨l',m,o,q',rfl,weak (I.grow g1 (fun n hn=>?_)),⟨g1.old,fun _ h=>h,fun _ h=>h⟩,fun _ j hj=>?_,fun h=>absurd k1 h⟩
  ·subst hn
   have:=RR.dir hf hx hc ho k1
   rwa [he] at this
  ·rw[he] at hj
   obtain rfl:i=j:=by omega
   exact t1
 ·rw[if_neg (by simpa using k1)]
  by_cases hs:q0p c∈o
  ·have:=(I.ms (q0p c)).2 hs
   rw[if_pos (show(q6b m (q2a.mk c.Target c.Method)).getD false=true from this)]
   exact⟨l,m,o,q,rfl,weak I,v6g.refl,fun h=>absurd h k1,fun _=>hs⟩
  ·have hs':¬(q6b m (q0p c)).getD false=true:=fun h=>hs ((I.ms _).1 h)
   rw[if_neg (show ¬(q6b m (q2a.mk c.Target c.Method)).getD false=true from hs'),if_pos (by have:=I.mu;simp;omega)]
   obtain⟨l',q',e1,g1,t1⟩:=j6e F w c md m o ty I.ml ((q6b w.fitting c.Target).getD []) l q (fun t ht=>⟨W.fit _ t ht,by
    obtain⟨i,hi,hM⟩:=W.tgt c t (W.fit _ t ht) hN
    exact⟨i,by rw[I.ll];exact hi,hM⟩⟩) (by have:=I.qm;omega)
   rw[e1]
   have J:=I.grow g1 (fun n ⟨t,h1,h2,h3⟩=>RR.dis hf hx hc ho k1 h1 (fun hm=>by
    obtain⟨i,hi,rfl⟩:=W.fit _ t h1
    exact I.st i (by simpa using h2 hm)) h3)
   refine⟨l',_,_,q',rfl,⟨J.ll,J.ml,by have:=J.mu;simp;omega,J.qm,J.qr,J.sf,J.st,fun s=>?_,fun s hh=>?_,fun s hh t ht hm n hn=>?_,fun n hn=>?_⟩,⟨g1.old,fun _ h=>h,fun s h=>List.mem_append_left _ h⟩,fun h=>absurd h k1,fun _=>by simp⟩
   ·rw[q6j]
    by_cases h:q0p c=s
    ·subst h;simp
    ·rw[if_neg h,I.ms s]
     constructor
     ·exact fun h2=>List.mem_append_left _ h2
     ·intro h2
      rcases List.mem_append.1 h2 with h2|h2
      ·exact h2
      ·simp at h2;exact absurd h2.symm h
   ·rcases List.mem_append.1 hh with h|h
    ·exact I.so s h
    ·simp at h;subst h;exact⟨f,x,c,hf,hx,hc,ho,k1,rfl⟩
   ·rcases List.mem_append.1 hh with h|h
    ·exact J.cls s h t ht hm n hn
    ·simp at h;subst h
     exact t1 t ht hm n (by rw[w9h F w (show c.Method=(SC (q0p c)).Method from rfl)];exact hn)
   ·rcases J.dn n hn with h|h|h
    ·exact .inl h
    ·exact .inr (.inl (h.mono (fun _ h=>h) (fun _ h=>h) (fun s h=>List.mem_append_left _ h)))
    ·exact .inr (.inr h)
theorem j1x(F:Nat)(l:List Int)(x:Int):w5u F l x=some (l.contains x):=by
 unfold w5u M204
 rw[q2e]
 have:=idxL (g:=z6m F x (some (-1))) (fun y:Int=>x==y) (fun _=>rfl) (fun y l n=>by rw[z6m]) l 0
 rw[show((0:Nat):Int)=0 from rfl] at this
 rw[this]
 have e:(l.any fun y=>x==y)=l.contains x:=by rw[List.contains_eq_any_beq]
 rw[e]
 cases l.contains x
 ·rfl
 ·simp
theorem j8c(F:Nat)(w:q1b)(W:WOk F w)(i:Nat)(hi:i<w.g.Types.length)(hN:0<w.g.Funcs.length)(md:List Bool)(m:List (q2a×Bool))(o:List q2a)(ty:List Int):
  ∀(ss:List q2a) (l:List Bool) (q:List Int),l.length=w.g.Funcs.length->q.length+fls l<=100000->
  ∃l' q',z4f F i w md m o ty ss l q=some (l',md.set i true,q')/\j8x (fun n=>∃s,s∈ss/\(i:Int)∈z8r w s.iface/\z3f F w (SC s) i=some (n:Int)) l q l' q'/\
   ∀s,s∈ss->(i:Int)∈z8r w s.iface->∀n:Nat,z3f F w (SC s) i=some (n:Int)->tru l' n
 |[],l,q,_,_=>⟨l,q,by rw[z4f,Int.toNat_natCast],j8x.refl,by simp⟩
 |s::ss,l,q,hl,hb=>by
  rw[z4f]
  simp only[q2e]
  rw[j1x,Option.bind_some]
  by_cases h:(i:Int)∈z8r w s.iface
  ·have h':(((q6b w.fitting s.iface).getD ([]:List Int)).contains (i:Int))=true:=by
    have:(z8r w s.iface).contains (i:Int)=true:=by simpa using h
    exact this
   obtain⟨v,hv,hM⟩:=W.tgt (SC s) i ⟨i,hi,rfl⟩ hN
   have hM':z3f F w (q6c.mk 0 s.iface s.method ([]:B8)) i=some (v:Int):=hM
   obtain⟨l',q',e1,g1,t1⟩:=v5r F w l (md.set (Int.toNat i) true) m o ty q v (by rw[hl];exact hv) hb
   rw[if_pos h',hM',Option.bind_some,e1,Option.bind_some]
   obtain⟨l'',q'',e2,g2,t2⟩:=j8c F w W i hi hN md m o ty ss l' q' (by rw[g1.len];exact hl) (by rw[g1.mu];exact hb)
   refine⟨l'',q'',e2,(g1.weak (fun n hn=>⟨s,by simp,h,by subst hn;exact hM⟩)).trans (g2.weak fun n ⟨u,h1,h2⟩=>⟨u,List.mem_cons_of_mem _ h1,h2⟩),fun u hu hm n hn=>?_⟩
   rcases List.mem_cons.1 hu with rfl|hu
   ·rw[hM] at hn;simp only[Option.some.injEq] at hn
    obtain rfl:v=n:=by omega
    exact g2.old _ t1
   ·exact t2 u hu hm n hn
  ·have h':¬(((q6b w.fitting s.iface).getD ([]:List Int)).contains (i:Int))=true:=by
    have:¬(z8r w s.iface).contains (i:Int)=true:=by simpa using h
    exact this
   rw[if_neg h']
   obtain⟨l'',q'',e2,g2,t2⟩:=j8c F w W i hi hN md m o ty ss l q hl hb
   refine⟨l'',q'',e2,g2.weak fun n ⟨u,h1,h2⟩=>⟨u,List.mem_cons_of_mem _ h1,h2⟩,fun u hu hm n hn=>?_⟩
   rcases List.mem_cons.1 hu with rfl|hu
   ·exact absurd hm h
   ·exact t2 u hu hm n hn
theorem w1n{F:Nat}{w:q1b}(W:WOk F w){l md:List Bool}{m:List (q2a×Bool)}{o:List q2a}{q:List Int}{b z:Nat}{E:Nat->Prop}(I:Inv F w l md m o q b z E)
  (i:Nat) (hi:i<w.g.Types.length) (hN:0<w.g.Funcs.length) (hr:RR F w true i) (ty:List Int):
  ∃l' md' q',M149 F i w l md m o ty q=some (l',md',q')/\Inv F w l' md' m o q' b z E/\v6g l md o l' md' o/\tru md' i:=by
 have him:i<md.length:=by rw[I.ml];exact hi
 unfold M149
 rw[q2h him,Option.bind_some]
 cases hmd:md[i]
 ·rw[if_neg (by simp),Option.bind_some]
  have base:Inv F w l (md.set i true) m o q b z E\/w.made=true:=by
   by_cases hm:w.made=true
   ·exact .inr hm
   ·refine .inl ⟨I.ll,by simp[I.ml],I.mu,I.qm,I.qr,I.sf,fun n hn=>?_,I.ms,I.so,fun s hs t ht _ n hn=>I.cls s hs t ht (fun h=>absurd h hm) n hn,fun n hn=>?_⟩
    ·rcases(q2r him).1 hn with rfl|h
     ·exact hr
     ·exact I.st n h
    ·rcases I.dn n hn with h|h|h
     ·exact .inl h
     ·exact .inr (.inl (h.mono (fun _ h=>h) (fun n h=>(q2r him).2 (.inr h)) (fun _ h=>h)))
     ·exact .inr (.inr h)
  by_cases hm:w.made=true
  ·rw[if_neg (by simp[hm])]
   obtain⟨l',q',e1,g1,t1⟩:=j8c F w W i hi hN md m o ty o l q I.ll (by have:=I.qm;omega)
   rw[e1]
   have hA:∀n:Nat,(∃s,s∈o/\(i:Int)∈z8r w s.iface/\z3f F w (SC s) i=some (n:Int))->RR F w false n:=by
    rintro n ⟨s,h1,h2,h3⟩
    obtain⟨f,x,c,c1,c2,c3,c4,c5,rfl⟩:=I.so s h1
    exact RR.dis c1 c2 c3 c4 c5 h2 (fun _=>hr) (by rw[w9h F w (show c.Method=(SC (q0p c)).Method from rfl)];exact h3)
   have J:=I.grow g1 hA
   refine⟨l',md.set i true,q',rfl,⟨J.ll,by simp[I.ml],J.mu,J.qm,J.qr,J.sf,fun n hn=>?_,J.ms,J.so,fun s hs t ht htm n hn=>?_,fun n hn=>?_⟩,⟨g1.old,fun n h=>(q2r him).2 (.inr h),fun _ h=>h⟩,(q2r him).2 (.inl rfl)⟩
   ·rcases(q2r him).1 hn with rfl|h
    ·exact hr
    ·exact I.st n h
   ·obtain⟨j,hj,rfl⟩:=W.fit _ t ht
    by_cases hij:j=i
    ·subst hij;exact t1 s hs ht n hn
    ·refine J.cls s hs _ ht (fun hm=>?_) n hn
     have:=htm hm
     rw[Int.toNat_natCast] at this ⊢
     rcases(q2r him).1 this with h|h
     ·exact absurd h hij
     ·exact h
   ·rcases J.dn n hn with h|h|h
    ·exact .inl h
    ·exact .inr (.inl (h.mono (fun _ h=>h) (fun n h=>(q2r him).2 (.inr h)) (fun _ h=>h)))
    ·exact .inr (.inr h)
  ·rw[if_pos (by simpa using hm),Int.toNat_natCast]
   rcases base with J|J
   ·exact⟨l,md.set i true,q,rfl,J,⟨fun _ h=>h,fun n h=>(q2r him).2 (.inr h),fun _ h=>h⟩,(q2r him).2 (.inl rfl)⟩
   ·exact absurd J hm
 ·rw[if_pos rfl]
  exact⟨l,md,q,rfl,I,v6g.refl,by unfold tru;rw[List.getElem?_eq_getElem him,hmd]⟩
abbrev K5:=List Bool->List Bool->List (q2a×Bool)->List q2a->List Int->Option (Option q5c)
theorem j4d{α:Type}{a:List α}{n:Int}{x:α}(h:idx a n=some x):x∈a:=by
 unfold idx at h
 split at h
 ·exact List.mem_of_getElem? h
 ·simp at h
theorem z8t{F:Nat}{w:q1b}(W:WOk F w)(k20:K5)(k69:List Bool->List (q2a×Bool)->List q2a->List Int->Option (Option q5c))(md:List Bool){E:Nat->Prop}{f:Int}{x:q5e}(hf:RR F w false f)(hx:idx w.g.Funcs f=some x)(hN:0<w.g.Funcs.length):
  ∀(cs:List q6c) (l:List Bool) (m:List (q2a×Bool)) (o:List q2a) (q:List Int) (b z:Nat),(∀c,c∈cs->c∈x.Calls)->Inv F w l md m o q (b+cs.length) z E->
  ∃l' m' o' q',z8w F w (-1) md k20 k69 cs l m o q=k69 l' m' o' q'/\Inv F w l' md m' o' q' b z E/\v6g l md o l' md o'/\∀c,c∈cs->onB w c.Feature=true->(c.Kind=1->∀i:Nat,fI w c.Target=i->tru l' i)/\(c.Kind≠1->q0p c∈o')
 |[],l,m,o,q,b,z,_,I=>⟨l,m,o,q,rfl,I,v6g.refl,by simp⟩
 |c::cs,l,m,o,q,b,z,hc,I=>by
  rw[z8w]
  simp only[q2e]
  by_cases hon:onB w c.Feature=true
  ·have hon':¬(!((q6b w.on c.Feature).getD false))=true:=by
    have:(q6b w.on c.Feature).getD false=true:=hon
    simp[this]
   obtain⟨l1,m1,o1,q1,e1,I1,Ma,d1,d2⟩:=w2n W (show Inv F w l md m o q (b+cs.length+1) z E from I) hf hx (j4d hx) (hc c (by simp)) hon hN []
   rw[if_neg hon',e1,Option.bind_some,if_neg (by simp)]
   obtain⟨l2,m2,o2,q2,e2,I2,Mb,d3⟩:=z8t W k20 k69 md hf hx hN cs l1 m1 o1 q1 b z (fun c h=>hc c (List.mem_cons_of_mem _ h)) I1
   refine⟨l2,m2,o2,q2,e2,I2,Ma.trans Mb,fun c' hc' ho'=>?_⟩
   rcases List.mem_cons.1 hc' with rfl|h
   ·exact⟨fun k i hi=>Mb.l i (d1 k i hi),fun k=>Mb.o _ (d2 k)⟩
   ·exact d3 c' h ho'
  ·have hon':(!((q6b w.on c.Feature).getD false))=true:=by
    have:¬(q6b w.on c.Feature).getD false=true:=hon
    simpa using this
   rw[if_pos hon']
   obtain⟨l2,m2,o2,q2,e2,I2,Mb,d3⟩:=z8t W k20 k69 md hf hx hN cs l m o q b z (fun c h=>hc c (List.mem_cons_of_mem _ h)) ⟨I.ll,I.ml,by have:=I.mu;simp at this;omega,I.qm,I.qr,I.sf,I.st,I.ms,I.so,I.cls,I.dn⟩
   refine⟨l2,m2,o2,q2,e2,I2,Mb,fun c' hc' ho'=>?_⟩
   rcases List.mem_cons.1 hc' with rfl|h
   ·exact absurd ho' hon
   ·exact d3 c' h ho'
theorem j4o{F:Nat}{w:q1b}(W:WOk F w)(m:List (q2a×Bool))(o:List q2a)(k49:List Bool->List Bool->List Int->Option (Option q5c)){b z:Nat}{E:Nat->Prop}{f:Int}{x:q5e}(hf:RR F w false f)(hx:idx w.g.Funcs f=some x)(hN:0<w.g.Funcs.length):
  ∀(ts:List Tx) (l md:List Bool) (q:List Int),(∀t,t∈ts->t∈x.Makes)->Inv F w l md m o q b z E->
  ∃l' md' q',j1h F w m o k49 ts l md q=k49 l' md' q'/\Inv F w l' md' m o q' b z E/\v6g l md o l' md' o/\∀t,t∈ts->∀i:Nat,tI w t=i->tru md' i
 |[],l,md,q,_,I=>⟨l,md,q,rfl,I,v6g.refl,by simp⟩
 |t::ts,l,md,q,ht,I=>by
  obtain⟨i,hi,he⟩:=W.mks x (j4d hx) t (ht t (by simp))
  have he':(q6b w.types t).getD 0=(i:Int):=he
  have hr:RR F w true i:=by
   have:=RR.mk hf hx (ht t (by simp))
   rwa [he] at this
  obtain⟨l1,md1,q1,e1,I1,Ma,d1⟩:=w1n W I i hi hN hr []
  rw[j1h,he',e1,Option.bind_some]
  obtain⟨l2,md2,q2,e2,I2,Mb,d2⟩:=j4o W m o k49 hf hx hN ts l1 md1 q1 (fun t h=>ht t (List.mem_cons_of_mem _ h)) I1
  refine⟨l2,md2,q2,e2,I2,Ma.trans Mb,fun u hu j hj=>?_⟩
  rcases List.mem_cons.1 hu with rfl|hu
  ·rw[he] at hj
   obtain rfl:i=j:=by omega
   exact Mb.m _ d1
  ·exact d2 u hu j hj
theorem j4n{F:Nat}{w:q1b}(W:WOk F w)(k20:K5):∀(n:Nat) (l md:List Bool) (m:List (q2a×Bool)) (o:List q2a) (q:List Int) (z:Nat),Inv F w l md m o q 0 z (fun _=>False)->z<n->
  ∃l' md' m' o',z2f F w (-1) k20 n l md m o q=k20 l' md' m' o' []/\(∃z,Inv F w l' md' m' o' [] 0 z (fun _=>False))/\v6g l md o l' md' o'
 |0,l,md,m,o,q,z,_,h=>by omega
 |n+1,l,md,m,o,[],z,I,h=>⟨l,md,m,o,by rw[z2f,z7z (by simp)],⟨z,I⟩,v6g.refl⟩
 |n+1,l,md,m,o,f::q,z,I,h=>by
  obtain⟨i,hfi,hti⟩:=I.qr f (by simp)
  subst hfi
  have hil:i<l.length:=v9w hti
  have hiF:i<w.g.Funcs.length:=by rw[<-I.ll];exact hil
  have hN:0<w.g.Funcs.length:=by omega
  have hf:=I.sf i hti
  have hx:idx w.g.Funcs (i:Int)=some w.g.Funcs[i]:=q2h hiF
  generalize hxx:w.g.Funcs[i]=x at hx
  rw[z2f]
  simp only[q2e]
  rw[z4y (by simp),show idx ((i:Int)::q) 0=some (i:Int) from rfl,Option.bind_some,if_pos (by simp),if_neg (by simp),hx,Option.bind_some,List.drop_one,List.tail_cons]
  simp only[Option.bind_some]
  have mu0:=I.mu
  have qm0:=I.qm
  simp only[List.length_cons] at mu0 qm0
  have I0:Inv F w l md m o q 200 (z - 1) (fun k=>k=i):=⟨I.ll,I.ml,by omega,⟨by omega,by omega⟩,fun y hy=>I.qr y (List.mem_cons_of_mem _ hy),I.sf,I.st,I.ms,I.so,I.cls,fun k hk=>by
   rcases I.dn k hk with h|h|h
   ·rcases List.mem_cons.1 h with h|h
    ·exact .inr (.inr (by omega))
    ·exact .inl h
   ·exact .inr (.inl h)
   ·exact h.elim⟩
  obtain⟨l1,md1,q1,e1,I1,Ma,d1⟩:=j4o W m o (fun l50 l51 l52=>z8w F w (-1) l51 k20 (fun l70 m71 l72 l73=>z2f F w (-1) k20 n l70 l51 m71 l72 l73) x.Calls l50 m o l52) hf hx hN x.Makes l md q (fun _ h=>h) I0
  rw[e1]
  have hcl:=W.cl x (j4d hx)
  obtain⟨l2,m2,o2,q2,e2,I2,Mb,d2⟩:=z8t W k20 (fun l70 m71 l72 l73=>z2f F w (-1) k20 n l70 md1 m71 l72 l73) md1 hf hx hN x.Calls l1 m o q1 (200 - x.Calls.length) (z - 1) (fun _ h=>h) (by rw[show 200 - x.Calls.length+x.Calls.length=200 by omega];exact I1)
  rw[e2]
  have hdone:Done F w l2 md1 o2 i:=fun y hy=>by
   rw[hx] at hy;simp only[Option.some.injEq] at hy;subst hy
   exact⟨fun t ht j hj=>d1 t ht j hj,fun c hc ho=>d2 c hc ho⟩
  have I3:Inv F w l2 md1 m2 o2 q2 0 (z - 1) (fun _=>False):=⟨I2.ll,I2.ml,by have:=I2.mu;omega,I2.qm,I2.qr,I2.sf,I2.st,I2.ms,I2.so,I2.cls,fun k hk=>by
   rcases I2.dn k hk with h|h|h
   ·exact .inl h
   ·exact .inr (.inl h)
   ·have h:k=i:=h
    subst h;exact .inr (.inl hdone)⟩
  obtain⟨l3,md3,m3,o3,e3,I4,Mc⟩:=j4n W k20 n l2 md1 m2 o2 q2 (z - 1) I3 (by omega)
  exact⟨l3,md3,m3,o3,e3,I4,(Ma.trans Mb).trans Mc⟩
theorem z1w{F:Nat}{w:q1b}(W:WOk F w)(k5:List Bool->List Int->Option (Option q5c))(md:List Bool)(hmd:md=List.replicate (((w.g.Types.length:Nat):Int)).toNat false):
  ∀(es:List Tx) (l:List Bool) (q:List Int) (b z:Nat),(∀e,e∈es->e∈w.g.Entries)->Inv F w l md [] [] q b z (fun _=>False)->
  ∃l' q',j2h F w k5 es l q=k5 l' q'/\Inv F w l' md [] [] q' b z (fun _=>False)/\(∀n,tru l n->tru l' n)/\∀e,e∈es->∀i:Nat,fI w e=i->tru l' i
 |[],l,q,b,z,_,I=>⟨l,q,rfl,I,fun _ h=>h,by simp⟩
 |e::es,l,q,b,z,he,I=>by
  obtain⟨i,hi,hfe⟩:=W.ent e (he e (by simp))
  have hfe':(q6b w.funcs e).getD 0=(i:Int):=hfe
  obtain⟨l1,q1,e1,g1,t1⟩:=v5r F w l md [] [] [] q i (by rw[I.ll];exact hi) (by have:=I.qm;omega)
  rw[j2h,hfe',<-hmd,e1,Option.bind_some]
  have I1:=I.grow g1 (fun n hn=>by
   subst hn
   have:=RR.entry (F:=F) (he e (by simp))
   rwa [hfe] at this)
  obtain⟨l2,q2,e2,I2,m2,d2⟩:=z1w W k5 md hmd es l1 q1 b z (fun e h=>he e (List.mem_cons_of_mem _ h)) I1
  refine⟨l2,q2,e2,I2,fun n h=>m2 n (g1.old n h),fun u hu j hj=>?_⟩
  rcases List.mem_cons.1 hu with rfl|hu
  ·rw[hfe] at hj
   obtain rfl:i=j:=by omega
   exact m2 _ t1
  ·exact d2 u hu j hj
theorem v0h{n k:Nat}:¬tru (List.replicate n false) k:=by
 unfold tru
 rw[List.getElem?_replicate]
 split<;>simp
theorem w7d(n:Nat):fls (List.replicate n false)=n:=by
 unfold fls
 rw[List.countP_replicate];simp
theorem j3y{F:Nat}{w:q1b}(W:WOk F w)(hF:10000<=F):∃sp,M89 F w (-1)=some (some sp)/\sp.funcs.length=w.g.Funcs.length/\sp.made.length=w.g.Types.length/\
  (∀n:Nat,tru sp.funcs n<->n<w.g.Funcs.length/\RR F w false n)/\∀n:Nat,tru sp.made n<->n<w.g.Types.length/\RR F w true n:=by
 have hfl:=W.fl
 have htl:=W.tl
 unfold M89
 rw[if_pos (by omega),if_pos (by omega)]
 simp only[q2e]
 have I0:Inv F w (List.replicate (((w.g.Funcs.length:Nat):Int)).toNat false) (List.replicate (((w.g.Types.length:Nat):Int)).toNat false) [] [] [] 0 w.g.Funcs.length (fun _=>False):=
  ⟨by simp,by simp,by rw[w7d];simp;omega,⟨by rw[w7d];simp,by omega⟩,by simp,fun n h=>(v0h h).elim,fun n h=>(v0h h).elim,fun s=>by simp[q6b],by simp,by simp,fun n h=>(v0h h).elim⟩
 obtain⟨l1,q1,e1,I1,_,d1⟩:=z1w W (fun l6 l7=>z2f F w (-1) (fun l21 l22 m23 l24 l25=>some (some (q5c.mk (some w) l21 l22 m23 l24 ([]:List Int) l25))) F l6 (List.replicate (((w.g.Types.length:Nat):Int)).toNat false) [] [] l7) _ rfl w.g.Entries _ [] 0 w.g.Funcs.length (fun _ h=>h) I0
 obtain⟨l2,md2,m2,o2,e2,⟨z,I2⟩,Mb⟩:=j4n W (fun l21 l22 m23 l24 l25=>some (some (q5c.mk (some w) l21 l22 m23 l24 ([]:List Int) l25))) F l1 (List.replicate (((w.g.Types.length:Nat):Int)).toNat false) [] [] q1 w.g.Funcs.length I1 (by omega)
 refine⟨q5c.mk (some w) l2 md2 m2 o2 [] [],by rw[e1,e2],I2.ll,I2.ml,?_,?_⟩
 all_goals
  have key:∀b v,RR F w b v->(∃n:Nat,v=n/\n<(if b then w.g.Types.length else w.g.Funcs.length))/\∀n:Nat,v=n->if b then tru md2 n else tru l2 n:=by
   intro b v h
   induction h with
   | @entry e h=>
    obtain⟨i,hi,he⟩:=W.ent e h
    refine⟨⟨i,he,by simpa using hi⟩,fun n hn=>?_⟩
    simpa using Mb.l n (d1 e h n hn)
   | @dir f x c hf hx hc ho k ih=>
    obtain⟨⟨j,hj,hjl⟩,ih⟩:=ih
    have ht:tru l2 j:=by simpa using ih j hj
    subst hj
    obtain⟨i,hi,he⟩:=W.dir x (j4d hx) c hc
    refine⟨⟨i,he,by simpa using hi⟩,fun n hn=>?_⟩
    rcases I2.dn j ht with h|h|h
    ·simp at h
    ·simpa using ((h x hx).2 c hc ho).1 k n hn
    ·exact h.elim
   | @dis f t v x c hf hx hc ho k ht hm hv ih ihm=>
    obtain⟨⟨j,hj,hjl⟩,ih⟩:=ih
    have htr:tru l2 j:=by simpa using ih j hj
    subst hj
    have hN:0<w.g.Funcs.length:=by simp at hjl;omega
    obtain⟨i,hi,he⟩:=W.tgt c t (W.fit _ t ht) hN
    rw[hv] at he;simp only[Option.some.injEq] at he
    refine⟨⟨i,he,by simpa using hi⟩,fun n hn=>?_⟩
    rcases I2.dn j htr with h|h|h
    ·simp at h
    ·have hs:=((h x hx).2 c hc ho).2 k
     have:=I2.cls (q0p c) hs t ht (fun hmm=>by
      obtain⟨a,ha,hta⟩:=W.fit _ t ht
      have:=(ihm hmm).2 a hta
      rw[hta,Int.toNat_natCast]
      simpa using this) n (by rw[w9h F w (show(SC (q0p c)).Method=c.Method from rfl),hv,hn])
     simpa using this
    ·exact h.elim
   | @mk f x t hf hx ht ih=>
    obtain⟨⟨j,hj,hjl⟩,ih⟩:=ih
    have htr:tru l2 j:=by simpa using ih j hj
    subst hj
    obtain⟨i,hi,he⟩:=W.mks x (j4d hx) t ht
    refine⟨⟨i,he,by simpa using hi⟩,fun n hn=>?_⟩
    rcases I2.dn j htr with h|h|h
    ·simp at h
    ·simpa using (h x hx).1 t ht n hn
    ·exact h.elim
 ·intro n
  constructor
  ·exact fun h=>⟨by rw[<-I2.ll];exact v9w h,I2.sf n h⟩
  ·exact fun⟨_,h⟩=>by simpa using (key _ _ h).2 n rfl
 ·intro n
  constructor
  ·exact fun h=>⟨by rw[<-I2.ml];exact v9w h,I2.st n h⟩
  ·exact fun⟨_,h⟩=>by simpa using (key _ _ h).2 n rfl
theorem v2o(x:Tx)(v:Int):∀(l:List Tx) (m:w5q) (n:Int),q6b (v3g m n l) x=some v->q6b m x=some v\/n<=v/\v<n+l.length
 |[],m,n,h=>.inl h
 |y::l,m,n,h=>by
  rcases v2o x v l _ _ h with h|h
  ·rw[q6j] at h
   split at h
   ·simp at h;subst h;exact .inr ⟨by omega,by simp;omega⟩
   ·exact .inl h
  ·exact .inr ⟨by omega,by simp;omega⟩
theorem j0o(l:List Tx)(x:Tx)(hl:0<l.length):∃i:Nat,i<l.length/\(q6b (v3g [] 0 l) x).getD 0=i:=by
 cases h:q6b (v3g [] 0 l) x with
 |none=>exact⟨0,hl,rfl⟩
 |some v=>
  rcases v2o x v l [] 0 h with h1|h1
  ·simp[q6b] at h1
  ·exact⟨v.toNat,by omega,by simp;omega⟩
theorem q7y{α:Type}{f:α->Tx}{l:List α}(h:l.Pairwise (fun a b=>Op.bytesLess (f a) (f b)=true)):(l.map f).Pairwise (fun a b=>Op.bytesLess a b=true):=by
 rw[List.pairwise_map];exact h
theorem wok{F:Nat}(hF:1000<=F){g:q7c}(R:q0h g)(how:Int)(fs:List Tx):WOk F (wOf g how fs) where
 fl:=R.fl
 tl:=R.tl
 ent:=fun e he=>by
  have h:=R.e e he
  unfold q4q at h
  have h:e∈g.Funcs.map (·.Name):=by simpa using h
  obtain⟨i,hi,rfl⟩:=List.getElem_of_mem h
  refine⟨i,show i<g.Funcs.length by simpa using hi,?_⟩
  unfold fI wOf
  simp only
  rw[z5a _ _ _ _ hi (q7y R.fsrt)];simp
 cl:=fun x hx=>(R.f x hx).len
 mks:=fun x hx t ht=>by
  have h:=(R.f x hx).makes t ht
  unfold j3t at h
  have h:t∈g.Types.map (·.Name):=by simpa using h
  obtain⟨i,hi,rfl⟩:=List.getElem_of_mem h
  refine⟨i,show i<g.Types.length by simpa using hi,?_⟩
  unfold tI wOf
  simp only
  rw[z5a _ _ _ _ hi (q7y R.tsrt)];simp
 dir:=fun x hx c hc=>by
  have hN:0<(g.Funcs.map (·.Name)).length:=by
   have:0<g.Funcs.length:=List.length_pos_iff.2 (by intro e;have hx:x∈g.Funcs:=hx;rw[e] at hx;simp at hx)
   simpa using this
  obtain⟨i,hi,he⟩:=j0o (g.Funcs.map (·.Name)) c.Target hN
  exact⟨i,show i<g.Funcs.length by simpa using hi,he⟩
 fit:=fun s t ht=>by
  unfold z8r wOf at ht
  simp only at ht
  rw[z8i g.Types s g.Ifaces [] R.isrt] at ht
  simp only[q6b,Option.getD_none,List.nil_append] at ht
  cases hf:g.Ifaces.find? (fun x=>x.Name==s) with
  |none=>rw[hf] at ht;simp at ht
  |some x=>
   rw[hf] at ht
   obtain⟨i,hi,he,_⟩:=(z3t x g.Types 0 t).1 ht
   exact⟨i,hi,by omega⟩
 tgt:=fun c t ⟨i,hi,he⟩ hN=>by
  subst he
  have hi:i<g.Types.length:=hi
  have hT:=R.t g.Types[i] (List.getElem_mem _)
  obtain⟨j,hj,hf⟩:=j0o (g.Funcs.map (·.Name)) (mOf g.Types[i] c.Method).1 (by have hN:0<g.Funcs.length:=hN;simpa using hN)
  refine⟨j,show j<g.Funcs.length by simpa using hj,?_⟩
  unfold z3f
  rw[show idx (wOf g how fs).g.Types (i:Int)=some g.Types[i] from q2h hi,Option.bind_some,v8k F _ _ hT.len hT.srt hF,Option.bind_some]
  exact congrArg some hf
theorem j7n(g:q7c)(how:Int)(fs:List Tx)(x:Tx):onB (wOf g how fs) x=(decide (x=[])||fs.contains x):=by
 unfold onB wOf
 simp only
 have:=z8z x fs (q0g [] [] true)
 unfold has at this
 rw[this]
 congr 1
 rw[q6j]
 by_cases h:x=[]
 ·subst h;simp
 ·rw[if_neg (fun e=>h e.symm)];simp[q6b,h]
theorem w5h(F:Nat)(t:q7i)(m:Tx):M191 F t m=some (mOf t m):=by
 have key:∀l:List q1k,z8m F m (some ([],false)) l=some (match l.find? (fun y=>y.Name==m) with|some y=>(y.Func,true)|none=>([],false)):=by
  intro l
  induction l with
  |nil=>rfl
  |cons x l ih=>
   rw[z8m,List.find?_cons]
   by_cases h:(x.Name==m)=true
   ·rw[if_pos h,h]
   ·rw[if_neg h,ih]
    have:(x.Name==m)=false:=by simpa using h
    rw[this]
 unfold M191
 rw[q2e,key];rfl
theorem y5c(F:Nat)(t:q7i)(i:q0f):M192 F t i=some (j1p t i):=by
 have key:∀l:List Tx,z7m F t (some true) l=some (l.all fun m=>(mOf t m).2):=by
  intro l
  induction l with
  |nil=>rfl
  |cons x l ih=>
   rw[z7m,w5h,Option.bind_some,List.all_cons]
   cases h:(mOf t x).2
   ·simp
   ·rw[if_neg (by simp),ih];simp
 unfold M192
 rw[q2e,key];rfl
def ifG(g:q7c)(n:Tx):q0f:=(g.Ifaces.find? fun x=>x.Name==n).getD (q0f.mk [] [])
theorem y6c(F:Nat)(g:q7c)(n:Tx):∃b,M190 F g n=some (ifG g n,b):=by
 have key:∀l:List q0f,∃b,z9m F n (some (q0f.mk [] [],false)) l=some ((l.find? fun x=>x.Name==n).getD (q0f.mk [] []),b):=by
  intro l
  induction l with
  |nil=>exact⟨false,rfl⟩
  |cons x l ih=>
   rw[z9m,List.find?_cons]
   by_cases h:(x.Name==n)=true
   ·rw[if_pos h,h];exact⟨true,rfl⟩
   ·rw[if_neg h]
    have:(x.Name==n)=false:=by simpa using h
    rw[this];exact ih
 unfold M190
 rw[q2e];exact key _
def j4a(g:q7c)(c:q6c)(t:q7i):Option q1a:=if (mOf t c.Method).2=true/\j1p t (ifG g c.Target)=true then some (q1a.mk t.Name (mOf t c.Method).1) else none
def q3j(g:q7c)(c:q6c):List q1a:=if c.Kind=1 then [q1a.mk [] c.Target] else g.Types.filterMap (j4a g c)
theorem z4j(F:Nat)(g:q7c)(c:q6c)(b:Bool)(k:List q1a->Option (List q1a)):∀(l:List q7i) (o:List q1a),o.length+l.length<=1000->
  z5f F c (ifG g c.Target,b) k l o=k (o++l.filterMap (j4a g c))
 |[],o,_=>by simp[z5f]
 |t::l,o,h=>by
  simp only[List.length_cons] at h
  rw[z5f,q2e]
  simp only[q2e]
  rw[w5h,Option.bind_some]
  by_cases h1:(mOf t c.Method).2=true
  ·rw[if_pos h1,y5c,Option.bind_some]
   by_cases h2:j1p t (ifG g c.Target)=true
   ·rw[if_pos h2,if_pos (by simp;omega),z4j F g c b k l _ (by simp;omega),List.filterMap_cons]
    simp[j4a,h1,h2]
   ·rw[if_neg h2,z4j F g c b k l _ (by omega),List.filterMap_cons]
    simp[j4a,h2]
  ·rw[if_neg h1,z4j F g c b k l _ (by omega),List.filterMap_cons]
   simp[j4a,h1]
theorem y0d(F:Nat)(g:q7c)(c:q6c)(h:g.Types.length<=500):M146 F g c=some (q3j g c):=by
 unfold M146 q3j
 by_cases hk:c.Kind=1
 ·rw[if_pos (by simp[hk]),if_pos hk]
 ·rw[if_neg (by simpa using hk),if_neg hk]
  obtain⟨b,hb⟩:=y6c F g c.Target
  rw[hb,Option.bind_some,q2e,z4j F g c b _ _ _ (by simp;omega)]
  rfl
theorem v7c(g:q7c)(c:q6c):q3j g c=q3j g (q6c.mk c.Kind c.Target c.Method []):=rfl
def lks(g:q7c)(on:Tx->Bool)(name:Tx):Int->List q6c->List q0a
 |_,[]=>[]
 |n,c::l=>if on c.Feature=true then q0a.mk (q2n.mk name n) (q3j g c)::lks g on name (n+1) l else lks g on name (n+1) l
def KOk(g:q7c)(m:List (q6c×(List q1a))):Prop:=∀k l,q6b m k=some l->l=q3j g k
def lkD(m:List (Tx×(List q0a)))(x:Tx):List q0a:=(q6b m x).getD []
theorem v7i(m:List (Tx×(List q0a)))(x y:Tx)(v:List q0a):lkD (q0g m x v) y=if x=y then v else lkD m y:=by
 unfold lkD
 rw[q6j]
 split<;>rfl
theorem j4h(F:Nat)(g:q7c)(hg:g.Types.length<=500)(m4:j0k)(x:q5e)(k:List (q6c×(List q1a))->List (Tx×(List q0a))->Option q2b):
  ∀(l:List q6c) (n:Int) (kn:List (q6c×(List q1a))) (lk:List (Tx×(List q0a))),KOk g kn->(lkD lk x.Name).length+l.length<=1000->
  ∃kn' lk',z9w F g m4 x k l n kn lk=k kn' lk'/\KOk g kn'/\∀y,lkD lk' y=if x.Name=y then lkD lk x.Name++lks g (has m4) x.Name n l else lkD lk y
 |[],n,kn,lk,hk,_=>⟨kn,lk,rfl,hk,fun y=>by simp only[lks,List.append_nil];split;rename_i h;rw[h];rfl⟩
 |c::l,n,kn,lk,hk,hs=>by
  simp only[List.length_cons] at hs
  rw[z9w,q2e]
  simp only[q2e]
  by_cases ho:has m4 c.Feature=true
  ·have ho':(q6b m4 c.Feature).getD false=true:=ho
   rw[if_neg (by rw[ho'];simp)]
   have step:∀kn2,KOk g kn2->∃kn' lk',(if ((q6b lk x.Name).getD []++[q0a.mk (q2n.mk x.Name n) (q3j g c)]).length*48<=140737488355328 then
     z9w F g m4 x k l (n+1) kn2 (q0g lk x.Name ((q6b lk x.Name).getD []++[q0a.mk (q2n.mk x.Name n) (q3j g c)])) else none)=k kn' lk'/\KOk g kn'/\
     ∀y,lkD lk' y=if x.Name=y then lkD lk x.Name++lks g (has m4) x.Name n (c::l) else lkD lk y:=by
    intro kn2 hk2
    have hlen:((q6b lk x.Name).getD []).length+l.length+1<=1000:=by
     have:(lkD lk x.Name).length+(l.length+1)<=1000:=hs
     unfold lkD at this;omega
    rw[if_pos (by simp;omega)]
    obtain⟨kn',lk',e1,e2,e3⟩:=j4h F g hg m4 x k l (n+1) kn2 (q0g lk x.Name ((q6b lk x.Name).getD []++[q0a.mk (q2n.mk x.Name n) (q3j g c)])) hk2 (by rw[v7i,if_pos rfl];simp;omega)
    refine⟨kn',lk',e1,e2,fun y=>?_⟩
    rw[e3,v7i,if_pos rfl,v7i]
    by_cases hy:x.Name=y
    ·rw[if_pos hy,if_pos hy,lks,if_pos ho,List.append_assoc];rfl
    ·rw[if_neg hy,if_neg hy,if_neg hy]
   by_cases hm:(q6b kn (q6c.mk c.Kind c.Target c.Method [])).isSome=true
   ·rw[if_neg (by rw[hm];simp)]
    obtain⟨v,hv⟩:=Option.isSome_iff_exists.1 hm
    rw[hv,Option.getD_some,hk _ _ hv,<-v7c]
    exact step kn hk
   ·have hm':(q6b kn (q6c.mk c.Kind c.Target c.Method [])).isSome=false:=by simpa using hm
    rw[if_pos (by rw[hm'];rfl),y0d F g c hg,Option.bind_some]
    refine step _ (fun k' l' h=>?_)
    rw[q6j] at h
    split at h
    ·rename_i e;subst e;simp at h;rw[<-h];exact v7c g c
    ·exact hk k' l' h
  ·have ho':(q6b m4 c.Feature).getD false=false:=by simpa[has] using ho
   rw[if_pos (by rw[ho'];rfl)]
   obtain⟨kn',lk',e1,e2,e3⟩:=j4h F g hg m4 x k l (n+1) kn lk hk (by omega)
   exact⟨kn',lk',e1,e2,fun y=>by rw[e3,lks,if_neg ho]⟩
theorem v8d(F:Nat)(g:q7c)(hg:g.Types.length<=500)(m4:j0k)(k:List (Tx×(List q0a))->List (Tx×q5e)->Option q2b):
  ∀(l:List q5e) (kn:List (q6c×(List q1a))) (lk:List (Tx×(List q0a))) (fm:List (Tx×q5e)),KOk g kn->(∀x,x∈l->x.Calls.length<=200)->(∀x,x∈l->lkD lk x.Name=[])->
  l.Pairwise (fun a b=>Op.bytesLess a.Name b.Name=true)->
  ∃lk' fm',z0x F g m4 k l kn lk fm=k lk' fm'/\(∀x,x∈l->lkD lk' x.Name=lks g (has m4) x.Name 0 x.Calls/\q6b fm' x.Name=some x)/\∀y,(∀x,x∈l->x.Name≠y)->lkD lk' y=lkD lk y/\q6b fm' y=q6b fm y
 |[],kn,lk,fm,_,_,_,_=>⟨lk,fm,rfl,by simp,fun _ _=>⟨rfl,rfl⟩⟩
 |x::l,kn,lk,fm,hk,hc,hz,hp=>by
  rw[z0x,q2e]
  simp only[q2e]
  obtain⟨kn1,lk1,e1,e2,e3⟩:=j4h F g hg m4 x (fun m32 m33=>z0x F g m4 k l m32 m33 (q0g fm x.Name x)) x.Calls 0 kn lk hk (by rw[hz x (by simp)];have:=hc x (by simp);simp;omega)
  rw[e1]
  rw[List.pairwise_cons] at hp
  have hne:∀z,z∈l->x.Name≠z.Name:=fun z hz=>z7y (hp.1 z hz)
  obtain⟨lk',fm',f1,f2,f3⟩:=v8d F g hg m4 k l kn1 lk1 (q0g fm x.Name x) e2 (fun z hz=>hc z (List.mem_cons_of_mem _ hz)) (fun z hz'=>by rw[e3,if_neg (hne z hz')];exact hz z (List.mem_cons_of_mem _ hz')) hp.2
  refine⟨lk',fm',f1,fun z hz'=>?_,fun y hy=>?_⟩
  ·rcases List.mem_cons.1 hz' with e|e
   ·subst e
    obtain⟨g1,g2⟩:=f3 z.Name (fun q hq=>Ne.symm (hne q hq))
    rw[g1,g2,e3,if_pos rfl,hz z (by simp),q6j,if_pos rfl]
    exact⟨rfl,rfl⟩
   ·exact f2 z e
  ·obtain⟨g1,g2⟩:=f3 y (fun q hq=>hy q (List.mem_cons_of_mem _ hq))
   rw[g1,g2,e3,if_neg (hy x (by simp)),q6j,if_neg (hy x (by simp))]
   exact⟨rfl,rfl⟩
theorem v9d(F:Nat)(k:j0k->Option q2b):∀(l:List Tx) (m:j0k),j5h F k l m=k (z2s m l)
 |[],m=>rfl
 |x::l,m=>by rw[j5h,v9d F k l];rfl
def onF(fs:List Tx)(x:Tx):Bool:=decide (x=[])||fs.contains x
theorem y1b(fs:List Tx)(x:Tx):has (z2s (q0g [] [] true) fs) x=onF fs x:=by
 rw[z8z]
 unfold onF
 congr 1
 unfold has
 rw[q6j]
 by_cases h:x=[]
 ·subst h;simp
 ·rw[if_neg (fun e=>h e.symm)];simp[q6b,h]
structure z3m(g:q7c)(fs:List Tx)(n:q2b):Prop where
 gr:n.g=g
 l:∀x,x∈g.Funcs->z2p n x.Name=lks g (onF fs) x.Name 0 x.Calls
 f:∀x,x∈g.Funcs->w6n n x.Name=x
theorem v3a(g:q7c){on on':Tx->Bool}(h:∀x,on x=on' x)(name:Tx):∀(l:List q6c) (n:Int),lks g on name n l=lks g on' name n l
 |[],_=>rfl
 |c::l,n=>by rw[lks,lks,h,v3a g h name l]
theorem w1h(F:Nat)(g:q7c)(fs:List Tx)(R:q0h g):∃n,M83 F g fs=some n/\z3m g fs n:=by
 unfold M83
 rw[q2e,v9d]
 simp only[q2e]
 obtain⟨lk,fm,e1,e2,_⟩:=v8d F g R.tl (z2s (q0g [] [] true) fs) (fun m14 m15=>some (q2b.mk g m14 m15)) g.Funcs [] [] [] (by intro k l h;simp[q6b] at h) (fun x hx=>(R.f x hx).len) (fun _ _=>rfl) R.fsrt
 rw[e1]
 refine⟨_,rfl,rfl,fun x hx=>?_,fun x hx=>?_⟩
 ·exact(e2 x hx).1.trans (v3a g (y1b fs) _ _ _)
 ·show(q6b fm x.Name).getD _=x
  rw[(e2 x hx).2];rfl
inductive RN(g:q7c)(how:Int)(on:Tx->Bool):Bool->Tx->Prop
 |entry {e:Tx} (h:e∈g.Entries):RN g how on false e
 |aim {x:q5e} {c:q6c} {a:q1a} (hf:RN g how on false x.Name) (hx:x∈g.Funcs) (hc:c∈x.Calls) (ho:on c.Feature=true) (ha:a∈q3j g c) (hm:how≠1->a.typ≠[]->RN g how on true a.typ):RN g how on false a.to
 |mk {x:q5e} {t:Tx} (hf:RN g how on false x.Name) (hx:x∈g.Funcs) (ht:t∈x.Makes):RN g how on true t
theorem v1h(g:q7c)(on:Tx->Bool)(how:Int)(s:q5a)(nm:Tx)(y:Tx):∀(cs:List q6c) (n:Int),y∈w8j how s (lks g on nm n cs)<->∃c,c∈cs/\on c.Feature=true/\∃a,a∈q3j g c/\j3w how s a=true/\a.to=y
 |[],n=>by simp[w8j,lks]
 |c::cs,n=>by
  have ih:=v1h g on how s nm y cs (n+1)
  rw[lks]
  by_cases ho:on c.Feature=true
  ·rw[if_pos ho]
   have e:w8j how s (q0a.mk (q2n.mk nm n) (q3j g c)::lks g on nm (n+1) cs)=((q3j g c).filter (j3w how s)).map (·.to)++w8j how s (lks g on nm (n+1) cs):=by unfold w8j;rw[List.flatMap_cons]
   rw[e,List.mem_append,ih]
   constructor
   ·rintro(h|⟨c',h1,h2⟩)
    ·obtain⟨a,ha,rfl⟩:=List.mem_map.1 h
     obtain⟨h1,h2⟩:=List.mem_filter.1 ha
     exact⟨c,by simp,ho,a,h1,h2,rfl⟩
    ·exact⟨c',List.mem_cons_of_mem _ h1,h2⟩
   ·rintro⟨c',h1,h2,a,h3,h4,h5⟩
    rcases List.mem_cons.1 h1 with e|e
    ·subst e;exact .inl (List.mem_map.2 ⟨a,List.mem_filter.2 ⟨h3,h4⟩,h5⟩)
    ·exact .inr ⟨c',e,h2,a,h3,h4,h5⟩
  ·rw[if_neg ho,ih]
   constructor
   ·rintro⟨c',h1,h2⟩;exact⟨c',List.mem_cons_of_mem _ h1,h2⟩
   ·rintro⟨c',h1,h2,h3⟩
    rcases List.mem_cons.1 h1 with e|e
    ·subst e;exact absurd h2 ho
    ·exact⟨c',e,h2,h3⟩
theorem j2w(how:Int)(s:q5a)(a:q1a)(hs:q8u s.made):j3w how s a=true<->(how≠1->a.typ≠[]->a.typ∈s.made.map (·.1)):=by
 unfold j3w
 simp only[Bool.or_eq_true,beq_iff_eq,hs.get]
 constructor
 ·rintro((h|h)|h) h1 h2
  ·exact absurd h h1
  ·exact absurd h h2
  ·exact h
 ·intro h
  by_cases h1:how=1
  ·exact .inl (.inl h1)
  ·by_cases h2:a.typ=[]
   ·exact .inl (.inr h2)
   ·exact .inr (h h1 h2)
def z3d(n:q2b)(how:Int)(s:q5a):q5a:=
 q5a.mk (insAll (insAll [] n.g.Entries) (s.reached.flatMap fun e=>e.1::w8j how s (z2p n e.1))) (insAll [] (s.reached.flatMap fun e=>(w6n n e.1).Makes))
theorem j5q(F:Nat)(k:List (Tx×Bool)->Option q5a):∀(l:List Tx) (m:List (Tx×Bool)),z3n F k l m=k (insAll m l)
 |[],m=>rfl
 |x::l,m=>by rw[z3n,j5q F k l];rfl
theorem y9c(F:Nat)(n:q2b)(how:Int)(s:q5a):M159 F n how s=some (z3d n how s):=by
 unfold M159
 rw[q2e,j5q,z3j];rfl
theorem z6z{g:q7c}{x:Tx}:q4q g x=true<->∃f,f∈g.Funcs/\f.Name=x:=by
 unfold q4q;simp
theorem w4n{g:q7c}{x:Tx}:j3t g x=true<->∃f,f∈g.Types/\f.Name=x:=by
 unfold j3t;simp
theorem w4m{t:q7i}{m:Tx}(h:(mOf t m).2=true):∃y,y∈t.Methods/\y.Name=m/\(mOf t m).1=y.Func:=by
 unfold mOf at h ⊢
 cases hf:t.Methods.find? (fun y=>y.Name==m) with
 |none=>rw[hf] at h;simp at h
 |some y=>exact⟨y,List.mem_of_find?_eq_some hf,by have:=List.find?_some hf;simpa using this,rfl⟩
theorem q1r{g:q7c}(R:q0h g){x:q5e}(hx:x∈g.Funcs){c:q6c}(hc:c∈x.Calls){a:q1a}(ha:a∈q3j g c):q4q g a.to=true:=by
 have C:=(R.f x hx).calls c hc
 unfold q3j at ha
 split at ha
 ·rename_i hk
  simp at ha;subst ha
  rcases C.kind with ⟨_,h,_⟩|⟨h,_⟩
  ·exact h
  ·rw[hk] at h;simp at h
 ·obtain⟨t,ht,h⟩:=List.mem_filterMap.1 ha
  unfold j4a at h
  split at h
  ·rename_i h1
   simp at h;subst h
   obtain⟨y,h2,_,h3⟩:=w4m h1.1
   show q4q g (mOf t c.Method).1=true
   rw[h3];exact((R.t t ht).mn y h2).2
  ·simp at h
theorem RN.names{g:q7c}(R:q0h g){how:Int}{on:Tx->Bool}{b:Bool}{y:Tx}(h:RN g how on b y):if b then j3t g y=true else q4q g y=true:=by
 cases h with
 |entry h=>exact R.e _ h
 |aim hf hx hc ho ha hm=>exact q1r R hx hc ha
 |mk hf hx ht=>exact(R.f _ hx).makes _ ht
section
variable{g:q7c}{fs:List Tx}{n:q2b}{how:Int}
structure FInv(g:q7c)(how:Int)(fs:List Tx)(s:q5a):Prop where
 r:q8u s.reached
 m:q8u s.made
 sr:∀x,x∈s.reached.map (·.1)->RN g how (onF fs) false x
 sm:∀x,x∈s.made.map (·.1)->RN g how (onF fs) true x
 mks:∀t,t∈s.made.map (·.1)->∃x,x∈g.Funcs/\x.Name∈s.reached.map (·.1)/\t∈x.Makes
theorem v9n(N:z3m g fs n)(s:q5a)(y:Tx):y∈(z3d n how s).reached.map (·.1)<->y∈g.Entries\/∃z,z∈s.reached.map (·.1)/\(y=z\/y∈w8j how s (z2p n z)):=by
 unfold z3d
 simp only
 rw[q8v,q8v,N.gr]
 simp only[List.map_nil,List.not_mem_nil,or_false,List.mem_flatMap,List.mem_cons,List.mem_map]
 constructor
 ·rintro(⟨e,h1,h2⟩|h)
  ·exact .inr ⟨e.1,⟨e,h1,rfl⟩,h2⟩
  ·exact .inl h
 ·rintro(h|⟨z,⟨e,h1,rfl⟩,h2⟩)
  ·exact .inr h
  ·exact .inl ⟨e,h1,h2⟩
theorem v0o(s:q5a)(t:Tx):t∈(z3d n how s).made.map (·.1)<->∃z,z∈s.reached.map (·.1)/\t∈(w6n n z).Makes:=by
 unfold z3d
 simp only
 rw[q8v]
 simp only[List.map_nil,List.not_mem_nil,or_false,List.mem_flatMap,List.mem_map]
 constructor
 ·rintro⟨e,h1,h2⟩;exact⟨e.1,⟨e,h1,rfl⟩,h2⟩
 ·rintro⟨z,⟨e,h1,rfl⟩,h2⟩;exact⟨e,h1,h2⟩
theorem FInv.step(R:q0h g)(N:z3m g fs n){s:q5a}(I:FInv g how fs s):
  FInv g how fs (z3d n how s)/\(∀x,x∈s.reached.map (·.1)->x∈(z3d n how s).reached.map (·.1))/\∀x,x∈s.made.map (·.1)->x∈(z3d n how s).made.map (·.1):=by
 have key:∀z,z∈s.reached.map (·.1)->∃x,x∈g.Funcs/\x.Name=z:=fun z hz=>z6z.1 (by simpa using (I.sr z hz).names R)
 have up:∀x,x∈s.reached.map (·.1)->x∈(z3d n how s).reached.map (·.1):=fun x hx=>(v9n N s x).2 (.inr ⟨x,hx,.inl rfl⟩)
 refine⟨⟨(q8u.nil.insAll _).insAll _,q8u.nil.insAll _,fun y hy=>?_,fun t ht=>?_,fun t ht=>?_⟩,up,fun t ht=>?_⟩
 ·rcases(v9n N s y).1 hy with h|⟨z,hz,h|h⟩
  ·exact .entry h
  ·subst h;exact I.sr _ hz
  ·obtain⟨x,hx,rfl⟩:=key z hz
   rw[N.l x hx,v1h] at h
   obtain⟨c,hc,ho,a,ha,hcn,rfl⟩:=h
   exact .aim (I.sr _ hz) hx hc ho ha (fun h1 h2=>I.sm _ ((j2w how s a I.m).1 hcn h1 h2))
 ·obtain⟨z,hz,h⟩:=(v0o s t).1 ht
  obtain⟨x,hx,rfl⟩:=key z hz
  rw[N.f x hx] at h
  exact .mk (I.sr _ hz) hx h
 ·obtain⟨z,hz,h⟩:=(v0o s t).1 ht
  obtain⟨x,hx,rfl⟩:=key z hz
  rw[N.f x hx] at h
  exact⟨x,hx,up _ hz,h⟩
 ·obtain⟨x,hx,h1,h2⟩:=I.mks t ht
  exact(v0o s t).2 ⟨x.Name,h1,by rw[N.f x hx];exact h2⟩
theorem j1d{m:List (Tx×Bool)}(h:q8u m){l:List Tx}(hs:∀x,x∈m.map (·.1)->x∈l):m.length<=l.length:=by
 have:=List.Nodup.length_le_of_subset (q3x h.srt) hs
 simpa using this
theorem v8m{m m':List (Tx×Bool)}(h:q8u m)(h':q8u m')(hs:∀x,x∈m.map (·.1)->x∈m'.map (·.1))(hl:m'.length=m.length):∀x,x∈m'.map (·.1)->x∈m.map (·.1):=by
 intro x hx
 by_cases hn:x∈m.map (·.1)
 ·exact hn
 ·have h1:(x::m.map (·.1)).Nodup:=List.nodup_cons.2 ⟨hn,q3x h.srt⟩
  have:=List.Nodup.length_le_of_subset (l₂:=m'.map (·.1)) h1 (fun y hy=>by
   rcases List.mem_cons.1 hy with e|e
   ·rw[e];exact hx
   ·exact hs y e)
  simp at this;omega
structure z1o(g:q7c)(how:Int)(fs:List Tx)(t:q5a):Prop where
 r:q8u t.reached
 m:q8u t.made
 hr:∀x,x∈t.reached.map (·.1)<->RN g how (onF fs) false x
 hm:∀x,x∈t.made.map (·.1)<->RN g how (onF fs) true x
theorem j5v(R:q0h g)(N:z3m g fs n)(F:Nat):∀(k:Nat) (s:q5a),FInv g how fs s->3501 - (s.reached.length+s.made.length)<k->
  ∃t,z6h F n how k s.reached s.made=some t/\z1o g how fs t
 |0,s,_,h=>by omega
 |k+1,s,I,h=>by
  obtain⟨I',u1,u2⟩:=I.step R N
  have l1:s.reached.length<=(z3d n how s).reached.length:=by
   have:=j1d I.r u1;simpa using this
  have l2:s.made.length<=(z3d n how s).made.length:=by
   have:=j1d I.m u2;simpa using this
  have b1:(z3d n how s).reached.length<=3000:=by
   have:=j1d I'.r (l:=g.Funcs.map (·.Name)) (fun x hx=>by have h:=(I'.sr x hx).names R;simpa[q4q] using h)
   have:=R.fl;simp at *;omega
  have b2:(z3d n how s).made.length<=500:=by
   have:=j1d I'.m (l:=g.Types.map (·.Name)) (fun x hx=>by have h:=(I'.sm x hx).names R;simpa[j3t] using h)
   have:=R.tl;simp at *;omega
  have e:q5a.mk s.reached s.made=s:=rfl
  rw[z6h,e,y9c,Option.bind_some]
  by_cases h1:(z3d n how s).reached.length=s.reached.length
  ·rw[if_pos (by simp[h1])]
   by_cases h2:(z3d n how s).made.length=s.made.length
   ·rw[if_pos (by simp[h2])]
    have d1:=v8m I.r I'.r u1 h1
    have d2:=v8m I.m I'.m u2 h2
    refine⟨_,rfl,I'.r,I'.m,fun x=>⟨I'.sr x,fun hx=>?_⟩,fun x=>⟨I'.sm x,fun hx=>?_⟩⟩
    all_goals
     have key:∀b y,RN g how (onF fs) b y->if b then y∈(z3d n how s).made.map (·.1) else y∈(z3d n how s).reached.map (·.1):=by
      intro b y hy
      induction hy with
      |entry h=>exact(v9n N s _).2 (.inl h)
      | @aim x c a hf hx hc ho ha hm ih ihm=>
       have ih:=d1 _ (by simpa using ih)
       refine(v9n N s _).2 (.inr ⟨x.Name,ih,.inr ?_⟩)
       rw[N.l x hx,v1h]
       exact⟨c,hc,ho,a,ha,(j2w how s a I.m).2 (fun q1 q2=>d2 _ (by simpa using ihm q1 q2)),rfl⟩
      | @mk x t hf hx ht ih=>
       have ih:=d1 _ (by simpa using ih)
       exact(v0o s t).2 ⟨x.Name,ih,by rw[N.f x hx];exact ht⟩
    ·simpa using key _ _ hx
    ·simpa using key _ _ hx
   ·rw[if_neg (by simp;omega)]
    exact j5v R N F k _ I' (by omega)
  ·rw[if_neg (by simp;omega)]
   exact j5v R N F k _ I' (by omega)
theorem v9k(R:q0h g)(N:z3m g fs n)(F:Nat)(hF:10000<=F):∃t,M102 F n how=some t/\z1o g how fs t:=
 j5v R N F F (q5a.mk [] []) ⟨q8u.nil,q8u.nil,by simp,by simp,by simp⟩ (by simp;omega)
end
theorem q1w{α:Type}{f:α->Tx}:∀{l:List α},l.Pairwise (fun a b=>Op.bytesLess (f a) (f b)=true)->∀{x:α},x∈l->l.find? (fun y=>f y==f x)=some x
 |y::l,hp,x,hx=>by
  rw[List.pairwise_cons] at hp
  rw[List.find?_cons]
  rcases List.mem_cons.1 hx with e|e
  ·subst e;simp
  ·have:(f y==f x)=false:=by simpa using z7y (hp.1 x e)
   rw[this];exact q1w hp.2 e
theorem w1d(t:Tx)(i:q0f):∀(l:List q0f) (m:List (Tx×q0f)),q6b (ifm m l) t=some i->(i∈l/\i.Name=t)\/q6b m t=some i
 |[],m,h=>.inr h
 |x::l,m,h=>by
  rcases w1d t i l _ h with h|h
  ·exact .inl ⟨List.mem_cons_of_mem _ h.1,h.2⟩
  ·rw[q6j] at h
   split at h
   ·rename_i e;simp at h;subst h;exact .inl ⟨List.mem_cons_self,e⟩
   ·exact .inr h
theorem w9m{g:q7c}(R:q0h g){t:Tx}{l:List Tx}(h:w0n g t=some l):∃i,i∈g.Ifaces/\i.Name=t/\i.Methods=l/\g.Ifaces.find? (fun y=>y.Name==t)=some i:=by
 unfold w0n at h
 rw[Option.map_eq_some_iff] at h
 obtain⟨i,h1,h2⟩:=h
 rcases w1d t i _ _ h1 with h|h
 ·exact⟨i,h.1,h.2,h2,by rw[<-h.2];exact q1w (f:=q0f.Name) R.isrt h.1⟩
 ·simp[q6b] at h
theorem z2t{g:q7c}(R:q0h g)(how:Int)(fs:List Tx){n:Tx}{i:q0f}(hf:g.Ifaces.find? (fun y=>y.Name==n)=some i)(t:Int):t∈z8r (wOf g how fs) n<->∃j:Nat,∃h:j<g.Types.length,t=j/\j1p g.Types[j] i=true:=by
 unfold z8r wOf
 simp only
 rw[z8i g.Types n g.Ifaces [] R.isrt]
 simp only[q6b,Option.getD_none,List.nil_append]
 rw[hf]
 show t∈q9l i 0 g.Types<->_
 rw[z3t]
 simp
theorem q1t{g:q7c}(R:q0h g)(how:Int)(fs:List Tx){i:Nat}(h:i<g.Funcs.length):fI (wOf g how fs) (g.Funcs[i]).Name=i:=by
 unfold fI wOf
 simp only
 have:=z5a (g.Funcs.map (·.Name)) [] 0 i (by simpa using h) (q7y R.fsrt)
 simp only[List.getElem_map] at this
 rw[this];simp
theorem w2w{g:q7c}(R:q0h g)(how:Int)(fs:List Tx){i:Nat}(h:i<g.Types.length):tI (wOf g how fs) (g.Types[i]).Name=i:=by
 unfold tI wOf
 simp only
 have:=z5a (g.Types.map (·.Name)) [] 0 i (by simpa using h) (q7y R.tsrt)
 simp only[List.getElem_map] at this
 rw[this];simp
theorem q3q{g:q7c}{x:Tx}(h:q4q g x=true):∃i:Nat,∃h:i<g.Funcs.length,(g.Funcs[i]).Name=x:=by
 obtain⟨f,hf,rfl⟩:=z6z.1 h
 obtain⟨i,hi,rfl⟩:=List.getElem_of_mem hf
 exact⟨i,hi,rfl⟩
theorem w7j{g:q7c}{x:Tx}(h:j3t g x=true):∃i:Nat,∃h:i<g.Types.length,(g.Types[i]).Name=x:=by
 obtain⟨f,hf,rfl⟩:=w4n.1 h
 obtain⟨i,hi,rfl⟩:=List.getElem_of_mem hf
 exact⟨i,hi,rfl⟩
theorem z7u{F:Nat}(hF:1000<=F){g:q7c}(R:q0h g)(how:Int)(fs:List Tx)(c:q6c){i:Nat}(hi:i<g.Types.length):z3f F (wOf g how fs) c (i:Int)=some (fI (wOf g how fs) (mOf g.Types[i] c.Method).1):=by
 have hT:=R.t g.Types[i] (List.getElem_mem _)
 unfold z3f
 rw[show idx (wOf g how fs).g.Types (i:Int)=some g.Types[i] from q2h hi,Option.bind_some,v8k F _ _ hT.len hT.srt hF,Option.bind_some]
 rfl
theorem w2d{α:Type}{l:List α}{f:Int}{x:α}(h:idx l f=some x):∃i:Nat,∃hi:i<l.length,f=i/\l[i]=x:=by
 have h1:=j8o h
 have h2:=q5q h
 exact⟨f.toNat,h1,by have:=h2.1;omega,(List.getElem?_eq_some_iff.1 h2.2).2⟩
theorem z7t{g:q7c}(R:q0h g){x:q5e}(hx:x∈g.Funcs){c:q6c}(hc:c∈x.Calls)(k:c.Kind≠1):∃i,i∈g.Ifaces/\g.Ifaces.find? (fun y=>y.Name==c.Target)=some i/\ifG g c.Target=i/\∀t,j1p t i=true->(mOf t c.Method).2=true:=by
 rcases((R.f x hx).calls c hc).kind with ⟨h,_⟩|⟨_,l,h1,h2⟩
 ·exact absurd h k
 ·obtain⟨i,i1,i2,i3,i4⟩:=w9m R h1
  refine⟨i,i1,i4,by unfold ifG;rw[i4];rfl,fun t ht=>?_⟩
  unfold j1p at ht
  rw[List.all_eq_true] at ht
  exact ht _ (by rw[i3];exact h2)
theorem RR_RN{F:Nat}(hF:1000<=F){g:q7c}(R:q0h g){how:Int}(hh:how=1\/how=2){fs:List Tx}{b:Bool}{v:Int}(h:RR F (wOf g how fs) b v):
  if b then ∃i:Nat,∃h:i<g.Types.length,v=i/\RN g how (onF fs) true (g.Types[i]).Name else ∃i:Nat,∃h:i<g.Funcs.length,v=i/\RN g how (onF fs) false (g.Funcs[i]).Name:=by
 induction h with
 | @entry e h=>
  have h:e∈g.Entries:=h
  obtain⟨i,hi,he⟩:=q3q (R.e e h)
  subst he
  show ∃j,_
  exact⟨i,hi,q1t R how fs hi,.entry h⟩
 | @dir f x c hf hx hc ho k ih=>
  obtain⟨i,hi,rfl,ih2⟩:=(show ∃i:Nat,∃h:i<g.Funcs.length,f=i/\RN g how (onF fs) false (g.Funcs[i]).Name from ih)
  obtain⟨i',hi',e1,e2⟩:=w2d hx
  have:i'=i:=by omega
  subst this
  have hx:g.Funcs[i']=x:=e2
  have hxm:x∈g.Funcs:=by rw[<-hx];exact List.getElem_mem _
  rw[hx] at ih2
  have ha:q1a.mk [] c.Target∈q3j g c:=by unfold q3j;rw[if_pos k];simp
  obtain⟨j,hj,he⟩:=q3q (q1r R hxm hc ha)
  have he:(g.Funcs[j]).Name=c.Target:=he
  show ∃j,_
  refine⟨j,hj,by rw[<-he];exact q1t R how fs hj,?_⟩
  rw[he]
  rw[j7n] at ho
  exact .aim ih2 hxm hc ho ha (fun _ h=>absurd rfl h)
 | @dis f t v x c hf hx hc ho k ht hm hv ih ihm=>
  obtain⟨i,hi,rfl,ih2⟩:=(show ∃i:Nat,∃h:i<g.Funcs.length,f=i/\RN g how (onF fs) false (g.Funcs[i]).Name from ih)
  obtain⟨i',hi',e1,e2⟩:=w2d hx
  have:i'=i:=by omega
  subst this
  have hx:g.Funcs[i']=x:=e2
  have hxm:x∈g.Funcs:=by rw[<-hx];exact List.getElem_mem _
  rw[hx] at ih2
  obtain⟨I,I1,I2,I3,I4⟩:=z7t R hxm hc k
  obtain⟨j,hj,rfl,hfit⟩:=(z2t R how fs I2 t).1 ht
  rw[z7u hF R how fs c hj] at hv
  simp only[Option.some.injEq] at hv
  have ha:q1a.mk (g.Types[j]).Name (mOf g.Types[j] c.Method).1∈q3j g c:=by
   unfold q3j
   rw[if_neg k]
   exact List.mem_filterMap.2 ⟨g.Types[j],List.getElem_mem _,by unfold j4a;rw[if_pos ⟨I4 _ hfit,by rw[I3];exact hfit⟩]⟩
  obtain⟨q,hq,he⟩:=q3q (q1r R hxm hc ha)
  have he:(g.Funcs[q]).Name=(mOf g.Types[j] c.Method).1:=he
  show ∃j,_
  refine⟨q,hq,by rw[<-hv,<-he];exact q1t R how fs hq,?_⟩
  rw[he]
  rw[j7n] at ho
  refine .aim ih2 hxm hc ho ha (fun h1 _=>?_)
  have hmd:(wOf g how fs).made=true:=by
   have:how=2:=hh.resolve_left h1
   simp[wOf,this]
  obtain⟨j',hj',e1,e2⟩:=(show ∃i:Nat,∃h:i<g.Types.length,(j:Int)=i/\RN g how (onF fs) true (g.Types[i]).Name from ihm hmd)
  have:j'=j:=by omega
  subst this
  exact e2
 | @mk f x t hf hx ht ih=>
  obtain⟨i,hi,rfl,ih2⟩:=(show ∃i:Nat,∃h:i<g.Funcs.length,f=i/\RN g how (onF fs) false (g.Funcs[i]).Name from ih)
  obtain⟨i',hi',e1,e2⟩:=w2d hx
  have:i'=i:=by omega
  subst this
  have hx:g.Funcs[i']=x:=e2
  have hxm:x∈g.Funcs:=by rw[<-hx];exact List.getElem_mem _
  rw[hx] at ih2
  obtain⟨j,hj,he⟩:=w7j ((R.f x hxm).makes t ht)
  subst he
  show ∃j,_
  exact⟨j,hj,w2w R how fs hj,.mk ih2 hxm ht⟩
theorem RN_RR{F:Nat}(hF:1000<=F){g:q7c}(R:q0h g){how:Int}{fs:List Tx}{b:Bool}{y:Tx}(h:RN g how (onF fs) b y):
  if b then RR F (wOf g how fs) true (tI (wOf g how fs) y) else RR F (wOf g how fs) false (fI (wOf g how fs) y):=by
 induction h with
 | @entry e h=>exact RR.entry (w:=wOf g how fs) h
 | @aim x c a hf hx hc ho ha hm ih ihm=>
  have ih:RR F (wOf g how fs) false (fI (wOf g how fs) x.Name):=ih
  obtain⟨i,hi,rfl⟩:=List.getElem_of_mem hx
  rw[q1t R how fs hi] at ih
  have hix:idx (wOf g how fs).g.Funcs (i:Int)=some g.Funcs[i]:=q2h hi
  have hon:onB (wOf g how fs) c.Feature=true:=by rw[j7n];exact ho
  show RR F (wOf g how fs) false _
  unfold q3j at ha
  split at ha
  ·rename_i k
   simp at ha;subst ha
   exact .dir ih hix hc hon k
  ·rename_i k
   obtain⟨t,ht,h⟩:=List.mem_filterMap.1 ha
   unfold j4a at h
   split at h
   ·rename_i h1
    simp only[Option.some.injEq] at h
    subst h
    obtain⟨j,hj,rfl⟩:=List.getElem_of_mem ht
    obtain⟨I,I1,I2,I3,I4⟩:=z7t R hx hc k
    refine .dis ih hix hc hon k ((z2t R how fs I2 (j:Int)).2 ⟨j,hj,rfl,by rw[<-I3];exact h1.2⟩) (fun hmd=>?_) (z7u hF R how fs c hj)
    have h2:how≠1:=by intro e;simp[wOf,e] at hmd
    have h3:(g.Types[j]).Name≠[]:=by
     have:=(R.t _ ht).nam
     intro e;rw[e] at this;simp[nm] at this
    have:=ihm h2 h3
    rw[<-w2w R how fs hj]
    exact this
   ·simp at h
 | @mk x t hf hx ht ih=>
  have ih:RR F (wOf g how fs) false (fI (wOf g how fs) x.Name):=ih
  obtain⟨i,hi,rfl⟩:=List.getElem_of_mem hx
  rw[q1t R how fs hi] at ih
  exact RR.mk (w:=wOf g how fs) ih (q2h hi) ht
theorem j6y{F:Nat}(hF:1000<=F){g:q7c}(R:q0h g){how:Int}(hh:how=1\/how=2)(fs:List Tx){i:Nat}(hi:i<g.Funcs.length):RR F (wOf g how fs) false (i:Int)<->RN g how (onF fs) false (g.Funcs[i]).Name:=by
 constructor
 ·intro h
  obtain⟨j,hj,e,h2⟩:=(show ∃j:Nat,∃h:j<g.Funcs.length,(i:Int)=j/\RN g how (onF fs) false (g.Funcs[j]).Name from RR_RN hF R hh h)
  have:j=i:=by omega
  subst this;exact h2
 ·intro h
  have:RR F (wOf g how fs) false (fI (wOf g how fs) (g.Funcs[i]).Name):=RN_RR hF R h
  rw[q1t R how fs hi] at this;exact this
theorem w3m{F:Nat}(hF:1000<=F){g:q7c}(R:q0h g){how:Int}(hh:how=1\/how=2)(fs:List Tx){i:Nat}(hi:i<g.Types.length):RR F (wOf g how fs) true (i:Int)<->RN g how (onF fs) true (g.Types[i]).Name:=by
 constructor
 ·intro h
  obtain⟨j,hj,e,h2⟩:=(show ∃j:Nat,∃h:j<g.Types.length,(i:Int)=j/\RN g how (onF fs) true (g.Types[j]).Name from RR_RN hF R hh h)
  have:j=i:=by omega
  subst this;exact h2
 ·intro h
  have:RR F (wOf g how fs) true (tI (wOf g how fs) (g.Types[i]).Name):=RN_RR hF R h
  rw[w2w R how fs hi] at this;exact this
def pick{α:Type}(f:α->Tx):List α->List Bool->List Tx
 |x::xs,b::l=>if b=true then f x::pick f xs l else pick f xs l
 |_,_=>[]
theorem q9y{g:q7c}{how:Int}{fs:List Tx}(h:z7v g how fs=0):q0h g/\(how=1\/how=2):=by
 unfold z7v at h
 split at h
 ·rename_i h1;exact absurd h h1
 ·rename_i h1
  split at h
  ·rename_i h2;exact absurd h h2
  ·split at h
   ·rename_i h3;exact⟨v9m (by simpa using h1),h3⟩
   ·simp at h
structure Ans(g:q7c)(how:Int)(fs:List Tx)(r m u:List Tx):Prop where
 rs:r.Pairwise (fun a b=>Op.bytesLess a b=true)
 ms:m.Pairwise (fun a b=>Op.bytesLess a b=true)
 us:u.Pairwise (fun a b=>Op.bytesLess a b=true)
 r:∀x,x∈r<->RN g how (onF fs) false x
 m:∀x,x∈m<->RN g how (onF fs) true x
 u:∀c,c∈u<->∃x,x∈g.Funcs/\RN g how (onF fs) false x.Name/\x.Component=c
end Go.Proofs.YtpbkggamiipdmaaGreat
