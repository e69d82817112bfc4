/- Part of the proof: M, O. -/
import Derived.Test.YtcihpgamojpcnaaGreatCutPvL
import Derived.Orders
set_option linter.unusedSimpArgs false
namespace Go.Pv
open Go
section
variable{K:Ctx}{Q:q5q}{S S':St}{ops:Array Oper}{rest:List Oper}{op:Op}{ty:TypeId}{pos:String}{after:Array Edge}{g:Option (Nat×Bool)}
variable{m:Mem}{β:q4m}{w:World}{a:Act}
structure j6b(P:Program)(T:TypeId)(good:Value->Prop):Prop where
 check:∀(b:Bool) (w:World) (v:Value),good v->(Instr.checkKey b 10000 T v).run P w=.ok () w
 find:∀(w:World) (x:Value),good x->∀es:List MapEntry,(∀e,e∈es->good e.key)->
  ((Instr.findKey T x es).run P w=.ok none w/\∀e,e∈es->e.key≠x) ∨
  ∃j e,(Instr.findKey T x es).run P w=.ok (some (j,e.val)) w/\es[j]? = some e/\e.key=x/\∀i e',i<j->es[i]? = some e'->e'.key≠x
 stays:∀(w:World) (v:Value),good v->(Instr.keyThatStays v v).run P w=.ok v w
theorem v5q{kind:TypeDesc}{good:Value->Prop}{x:Value}(h:∀v,good v->(v=x/\Instr.sameNow kind x v=some true)\/(v≠x/\Instr.sameNow kind x v=some false)):
  ∀(es:List MapEntry) (n:Nat),(∀e,e∈es->good e.key)->
  (Instr.findNow kind x es n=some none/\∀e,e∈es->e.key≠x) ∨
  ∃j e,Instr.findNow kind x es n=some (some (n+j,e.val))/\es[j]? = some e/\e.key=x/\∀i e',i<j->es[i]? = some e'->e'.key≠x
 |[],n,_=>.inl ⟨rfl,by simp⟩
 |e::es,n,hg=>by
  rcases h e.key (hg e (by simp)) with ⟨h1,h2⟩|⟨h1,h2⟩
  ·exact .inr ⟨0,e,by simp[Instr.findNow,h2],rfl,h1,by simp⟩
  ·rcases v5q h es (n+1) (fun e' he'=>hg e' (by simp[he'])) with ⟨a1,a2⟩|⟨j,e',a1,a2,a3,a4⟩
   ·refine .inl ⟨by simp[Instr.findNow,h2,a1],fun e' he'=>?_⟩;rcases ax8.1 he' with rfl|he'
    ·exact h1
    ·exact a2 e' he'
   ·refine .inr ⟨j+1,e',by simp[Instr.findNow,h2,a1];omega,by simpa using a2,a3,fun i e'' hi he''=>?_⟩;cases i with
    |zero=>simp at he'';subst he'';exact h1
    |succ i=>exact a4 i e'' (by omega) (by simpa using he'')
theorem v5k{P:Program}{T:TypeId}{kind:TypeDesc}{good:Value->Prop}(hu:P.underlying T=some kind)
  (hc:∀(b:Bool) (w:World) (v:Value),good v->(Instr.checkKey b 10000 T v).run P w=.ok () w)
  (h:∀x,good x->∀v,good v->(v=x/\Instr.sameNow kind x v=some true)\/(v≠x/\Instr.sameNow kind x v=some false))
  (hs:∀v,good v->Instr.sameBits 10000 v v=true):j6b P T good where
 check:=hc
 find:=by
  intro w x hx es hes;rcases v5q (h x hx) es 0 hes with ⟨a1,a2⟩|⟨j,e,a1,a2,a3,a4⟩
  ·exact .inl ⟨by simp only[Instr.findKey,Sem.run_bind,run_underlying hu,Result.andThen_ok,a1];rfl,a2⟩
  ·exact .inr ⟨j,e,by simp only[Instr.findKey,Sem.run_bind,run_underlying hu,Result.andThen_ok,a1,cr9];rfl,a2,a3,a4⟩
 stays:=by
  intro w v hv;simp only[Instr.keyThatStays,hs v hv,if_true];rfl
def z6o(v:Value):Prop:=∃s,v=.string s
theorem z8g(a b:ByteArray):(a==b)=decide (a=b):=by
 obtain⟨a⟩:=a;obtain⟨b⟩:=b
 show(a==b)=_
 by_cases h:a=b
 ·subst h;simp
 ·simp[h]
theorem w2m{P:Program}{T:TypeId}(hu:P.underlying T=some .string):j6b P T z6o:=by
 refine v5k hu ?_ ?_ ?_
 ·rintro b w v ⟨n,rfl⟩
  have:(10000:Nat)=9999+1:=rfl;rw[this,Instr.checkKey];simp only[Sem.run_bind,run_underlying hu,Result.andThen_ok];rfl
 ·rintro x ⟨n,rfl⟩ v ⟨n',rfl⟩
  by_cases h:n=n'
  ·subst h;exact .inl ⟨rfl,by simp[Instr.sameNow,z8g]⟩
  ·exact .inr ⟨by intro e;cases e;exact h rfl,by simp[Instr.sameNow,z8g,h]⟩
 ·rintro v ⟨n,rfl⟩;simp[Instr.sameBits,z8g]
inductive z8m(x:Value):List (Value×V)->Option V->Prop
 |nil:z8m x [] none
 |here {v:V} {es:List (Value×V)}:z8m x ((x,v)::es) (some v)
 |there {k:Value} {v:V} {es:List (Value×V)} {r:Option V} (h:k≠x) (h':z8m x es r):z8m x ((k,v)::es) r
theorem z8m.none_of{x:Value}{es:List (Value×V)}{r:Option V}(h:z8m x es r)(hn:∀p,p∈es->p.1≠x):r=none:=by
 induction h with
 |nil=>rfl
 |here=>exact absurd rfl (hn _ cr8)
 |there _ _ ih=>exact ih fun p hp=>hn p (by simp[hp])
theorem z8m.some_of{x:Value}{es:List (Value×V)}{r:Option V}(h:z8m x es r):∀(j:Nat) (v:V),es[j]? = some (x,v)->(∀i p,i<j->es[i]? = some p->p.1≠x)->r=some v:=by
 induction h with
 |nil=>intro j v h;simp at h
 |here=>
  intro j v hj hi;cases j with
  |zero=>simp at hj;rw[hj]
  |succ j=>exact absurd rfl (hi 0 _ (by omega) rfl)
 |there h _ ih=>
  intro j v hj hi;cases j with
  |zero=>simp at hj;exact absurd hj.1 h
  |succ j=>exact ih j v (by simpa using hj) fun i p hi' hp=>hi (i+1) p (by omega) (by simpa using hp)
inductive z5q(x:Value)(v:V):List (Value×V)->List (Value×V)->Prop
 |nil:z5q x v [] [(x,v)]
 |here {v':V} {es:List (Value×V)}:z5q x v ((x,v')::es) ((x,v)::es)
 |there {k:Value} {v':V} {es es':List (Value×V)} (h:k≠x) (h':z5q x v es es'):z5q x v ((k,v')::es) ((k,v')::es')
theorem z5q.none_of{x:Value}{v:V}{es es':List (Value×V)}(h:z5q x v es es')(hn:∀p,p∈es->p.1≠x):es'=es++[(x,v)]:=by
 induction h with
 |nil=>rfl
 |here=>exact absurd rfl (hn _ cr8)
 |there _ _ ih=>rw[ih fun p hp=>hn p (by simp[hp])];rfl
theorem z5q.some_of{x:Value}{v:V}{es es':List (Value×V)}(h:z5q x v es es'):∀(j:Nat) (v':V),es[j]? = some (x,v')->(∀i p,i<j->es[i]? = some p->p.1≠x)->es'=es.set j (x,v):=by
 induction h with
 |nil=>intro j v h;simp at h
 |here=>
  intro j v' hj hi;cases j with
  |zero=>rfl
  |succ j=>exact absurd rfl (hi 0 _ (by omega) rfl)
 |there h _ ih=>
  intro j v' hj hi;cases j with
  |zero=>simp at hj;exact absurd hj.1 h
  |succ j=>rw[ih j v' (by simpa using hj) fun i p hi' hp=>hi (i+1) p (by omega) (by simpa using hp)];rfl
def q0s(P:Program)(T k e:TypeId):Bool:=match P.underlying T with|some (.map k' e')=>k'==k&&e'==e|_=>false
theorem q1o{P:Program}{T k e:TypeId}(h:q0s P T k e=true):P.underlying T=some (.map k e):=by
 unfold q0s at h;cases hu:P.underlying T with
 |none=>simp[hu] at h
 |some d=>
  rw[hu] at h;cases d<;>simp only[cy8] at h;simp only[av8,beq_iff_eq] at h;obtain⟨rfl,rfl⟩:=h;rfl
theorem z6l{α:Type}(f:α->α)(e:α):∀(l:List α) (j:Nat),l[j]? = some e->(l.modify j f).Perm (f e::l.eraseIdx j)
 |[],j,h=>by simp at h
 |x::l,0,h=>by simp at h;subst h;simp
 |x::l,j+1,h=>by
  simp only[List.modify_succ_cons,List.eraseIdx_cons_succ];exact((z6l f e l j (by simpa using h)).cons x).trans (List.Perm.swap _ _ _)
theorem z9c{α:Type}(e:α):∀(l:List α) (j:Nat),l[j]? = some e->l.Perm (e::l.eraseIdx j)
 |[],j,h=>by simp at h
 |x::l,0,h=>by simp at h;subst h;simp
 |x::l,j+1,h=>by
  simp only[List.eraseIdx_cons_succ];exact((z9c e l j (by simpa using h)).cons x).trans (List.Perm.swap _ _ _)
theorem j2e{α:Type}(f:α->α){e:α}{l L:List α}{j k:Nat}(h:l.Perm L)(h1:l[j]? = some e)(h2:L[k]? = some e):(l.modify j f).Perm (L.modify k f):=
 (z6l f e l j h1).trans ((((((z9c e l j h1).symm.trans h).trans (z9c e L k h2)).cons_inv).cons (f e)).trans (z6l f e L k h2).symm)
theorem z6s{α β:Type}(f:α->α)(g:α->β):∀(l:List α) (k:Nat),(∀e,l[k]? = some e->g (f e)=g e)->(l.modify k f).map g=l.map g
 |[],k,_=>by simp
 |x::l,0,h=>by simp[h x rfl]
 |x::l,k+1,h=>by simp[z6s f g l k (fun e he=>h e (by simpa using he))]
theorem MWf.push{E:Array MapEntry}{clock:Nat}(q:MWf E clock)(k v:Value)(hk:∀e,e∈E.toList->e.key≠k):MWf (E.push { key:=k,val:=v,born:=clock }) (clock+1) where
 born:=by
  rw[ca9,dc9,cn9];refine⟨q.born,by simp,fun a ha b hb=>?_⟩;obtain⟨e,he,rfl⟩:=bk9.1 ha;simp at hb;subst hb;have:=q.lt e he;omega
 lt:=fun e he=>by
  rw[ca9,cm8] at he;rcases he with he|he
  ·have:=q.lt e he;omega
  ·simp at he;subst he;exact ao9 _
 key:=by
  rw[ca9,dc9,cn9];refine⟨q.key,by simp,fun a ha b hb=>?_⟩;obtain⟨e,he,rfl⟩:=bk9.1 ha;simp at hb;subst hb;exact hk e he
theorem MWf.modify{E:Array MapEntry}{clock j:Nat}(q:MWf E clock)(f:MapEntry->MapEntry)(hb:∀e,(f e).born=e.born)(hk:∀e,E[j]? = some e->(f e).key=e.key):MWf (E.modify j f) clock:=by
 have e1:(E.modify j f).toList.map (·.born)=E.toList.map (·.born):=by rw[ca8];exact z6s f _ _ _ (fun e _=>hb e)
 have e2:(E.modify j f).toList.map (·.key)=E.toList.map (·.key):=by rw[ca8];exact z6s f _ _ _ (fun e he=>hk e (by simpa using he))
 refine⟨by rw[e1];exact q.born,fun e he=>?_,by rw[e2];exact q.key⟩;have:e.born∈(E.modify j f).toList.map (·.born):=bk9.2 ⟨e,he,rfl⟩;rw[e1] at this;obtain⟨e',h1,h2⟩:=bk9.1 this;rw[<-h2];exact q.lt e' h1
theorem MWf.nil:MWf #[] 0:=⟨by simp,by simp,by simp⟩
theorem j6y{o:Option Obj}(h:o=some (.map #[] 0)):j4n o #[] 0:=⟨#[],h,.refl _,.nil⟩
theorem v5b{d:Nat}{T:TypeId}(hw:q1h ops S ⟨some d,.makeMap T none,ty,pos,after,g⟩ true)(hN:Nat.blt d K.N=true)
  (kk:q7g K ops rest Q ⟨(d,.map S.nx)::S.env,(S.nx,.map [])::S.hp,S.nx+1⟩):q7g K ops (⟨some d,.makeMap T none,ty,pos,after,g⟩::rest) Q S:=by
 refine q3k hw (fun m β w a r=>?_) kk;obtain⟨β',hle,hnx,r2⟩:=r.alloc (.map #[] 0) (.map []) ⟨0,0⟩ _ rfl (fun β' hle=>⟨#[],0,fun _ _=>False,j6y (by simp),rfl,z2j,by simp⟩);refine⟨.map (some w.heap.size),{ w with heap:=w.heap.push (.map #[] 0) },m,β',.inl ?_,Rel.put r2 hN (.map hnx)⟩;simp only[execOp,an9];rw[Sem.run_bind];rfl
theorem q8n.conAgg{vs:List Value}{x:Value}(h:q8n m β (.agg (vs.map .con)) x):x=.agg vs.toArray:=by
 have key:∀us:Array Value,(vs.map V.con).length=us.size->(∀(i:Nat) (c:V) (v:Value),(vs.map V.con)[i]? = some c->us[i]? = some v->q8n m β c v)->us=vs.toArray:=by
  intro us hl hh;apply ay9;apply ay8;intro i;simp only[br9] at hl;cases hv:vs[i]? with
  |none=>
   have:vs.length<=i:=List.getElem?_eq_none_iff.1 hv;rw[bb9 (by simp;omega)]
  |some v=>
   have hi:=(bi8.1 hv).1;have hu:us[i]? = some (us[i]'(by omega)):=bh9 (by omega);have:=(hh i (.con v) _ (by simp[hv]) hu).of_con;rw[ag8,hu,this]
 cases h with
 |imm h=>cases h with|agg hl hh=>rw[key _ hl fun i c v a b=>.imm (hh i c v a b)]
 |agg hl hh=>rw[key _ hl hh]
theorem q2g(v:Value):∀m:Mem,q2p m (.con v) v:=fun _=>.con v
theorem q0t(xs:List Value):∀m:Mem,q2p m (.agg (xs.map .con)) (.agg xs.toArray):=fun m=>
 .agg (by simp) fun i c v hc hv=>by
  rw[bf9,ad8] at hc;obtain⟨u,hu,rfl⟩:=hc;have:xs[i]? = some v:=by simpa using hv
  rw[hu] at this;cases this;exact .con _
inductive z1f(K:Ctx)(S:St)(y:Operand):Value->Prop
 |con {kv:Value} (h:evl K S y=.con kv):z1f K S y kv
 |agg (xs:List Value) (h:evl K S y=.agg (xs.map .con)):z1f K S y (.agg xs.toArray)
theorem z1f.read{y:Operand}{kv:Value}(h:z1f K S y kv)(r:Rel K m β w a S):a.eval y=kv:=by
 cases h with
 |con h=>exact r.con h
 |agg xs h=>
  have:=r.reads y;rw[h] at this;exact this.conAgg
inductive j3n(S:St):V->List (Value×V)->Prop
 |own {id:Nat} {es:List (Value×V)} (h:q1e S.hp id=.map es):j3n S (.map id) es
 |imm {es:List (Value×V)}:j3n S (.imap es) es
theorem j3n.read{x:V}{es:List (Value×V)}(h:j3n S x es)(r:Rel K m β w a S){v:Value}(hv:q8n m β x v):
  ∃b ents clock,v=.map (some b)/\j4n (w.heap[b]?) ents clock/\es.length=ents.size/\∀(i:Nat) (p:Value×V) (e:MapEntry),es[i]? = some p->ents[i]? = some e->e.key=p.1/\(p.2.deep=false->q8n m β p.2 e.val):=by
 cases h with
 | @own id _ ho=>
  cases hv with
  |imm h=>cases h
  | @map _ b cap hb=>
   have:=r.own id;rw[hb,ho] at this;obtain⟨ents,clock,bl,h1,h2,_,h3⟩:=this;exact⟨b,ents,clock,rfl,h1,h2,fun i p e a b=>⟨(h3 i p e a b).1,fun hd=>(h3 i p e a b).2.v hd⟩⟩
 |imm=>
  cases hv with
  |imm h=>cases h with
   |imap hm hl hk h=>exact⟨_,_,_,rfl,hm.mono (r.imm _),hl,fun i p e a b=>⟨hk i p e a b,fun _=>.imm (h i p e a b)⟩⟩
theorem v4a{P:Program}{T:TypeId}{good:Value->Prop}(hK:j6b P T good){w:World}{x:Value}(hx:good x){es:List (Value×V)}{ents E:Array MapEntry}{clock:Nat}(hl:es.length=ents.size)
  (hr:∀(i:Nat) (p:Value×V) (e:MapEntry),es[i]? = some p->ents[i]? = some e->e.key=p.1) (hg:∀p,p∈es->good p.1) (hp:ents.toList.Perm E.toList) (hwf:MWf E clock):
  ((Instr.findKey T x E.toList).run P w=.ok none w/\(∀p,p∈es->p.1≠x)/\∀e,e∈E.toList->e.key≠x) ∨
  ∃(j:Nat) (p:Value×V) (e:MapEntry) (jE:Nat),(Instr.findKey T x E.toList).run P w=.ok (some (jE,e.val)) w/\ents[j]? = some e/\es[j]? = some p/\p.1=x/\(∀i p',i<j->es[i]? = some p'->p'.1≠x)/\E[jE]? = some e:=by
 have corr:∀(i:Nat) (e:MapEntry),ents[i]? = some e->∃p,es[i]? = some p/\e.key=p.1:=by
  intro i e he;have:i<es.length:=by rw[hl];exact(bg8.1 he).1
  exact⟨es[i],be8 this,hr i _ e (be8 this) he⟩
 have corr':∀(i:Nat) p,es[i]? = some p->∃e,ents[i]? = some e/\e.key=p.1:=by
  intro i p hp;have:i<ents.size:=by rw[<-hl];exact(bi8.1 hp).1
  exact⟨ents[i],bh9 this,hr i p _ hp (bh9 this)⟩
 have hge:∀e,e∈E.toList->good e.key:=by
  intro e he;obtain⟨i,hi⟩:=bi9 (hp.mem_iff.2 he);obtain⟨p,h1,h2⟩:=corr i e (by simpa using hi);rw[h2];exact hg p (bd8 h1)
 rcases hK.find w x hx E.toList hge with ⟨a1,a2⟩|⟨jE,e,a1,a2,a3,a4⟩
 ·refine .inl ⟨a1,fun p hq=>?_,a2⟩;obtain⟨i,hi⟩:=bi9 hq;obtain⟨e,h1,h2⟩:=corr' i p hi;rw[<-h2];exact a2 e (hp.mem_iff.1 (bd8 (by simpa using h1)))
 ·obtain⟨j,hj⟩:=bi9 (hp.mem_iff.2 (bd8 a2));have hj:ents[j]? = some e:=by simpa using hj
  obtain⟨p,h1,h2⟩:=corr j e hj;refine .inr ⟨j,p,e,jE,a1,hj,h1,by rw[<-h2];exact a3,fun i p' hi hp' hpx=>?_,by simpa using a2⟩;obtain⟨e',h3,h4⟩:=corr' i p' hp';have hn:(ents.toList.map (·.key)).Nodup:=(hp.map _).nodup_iff.2 hwf.key;have e1:(ents.toList.map (·.key))[i]? = some x:=by simp[h3,h4,hpx]
  have e2:(ents.toList.map (·.key))[j]? = some x:=by simp[hj,a3]
  have:=(List.getElem?_inj (bi8.1 e1).1 hn).1 (e1.trans e2.symm);omega
theorem q8d{d:Nat}{T k e:TypeId}{x y:Operand}{good:Value->Prop}{kv zv:Value}{mv:V}{es:List (Value×V)}(res:Option V)(zd dv:V)(hT:q0s K.P T k e=true)(hK:j6b K.P k good)
  (hz:(K.P.info? e).bind (·.zero)=some zv) (hzd:∀m,q2p m zd zv)
  (hw:q1h ops S ⟨some d,.lookup T x y false,ty,pos,after,g⟩ true) (hx:evl K S x=mv) (hm:j3n S mv es) (hy:z1f K S y kv) (hg:good kv) (hges:∀p,p∈es->good p.1)
  (hl:z8m kv es res) (hd:res.getD zd=dv) (hN:Nat.blt d K.N=true)
  (kk:q7g K ops rest Q (S.put d dv)) (hdd:dv.deep=false:=by rfl):q7g K ops (⟨some d,.lookup T x y false,ty,pos,after,g⟩::rest) Q S:=
 q9g _ hw hN (fun m β w a r=>by
  have h:=r.reads x;rw[hx] at h;obtain⟨b,ents,clock,e1,⟨E,e2,eP,eW⟩,e3,e4⟩:=hm.read r h;have hobj:(getObj b).run K.P w=.ok (.map E clock) w:=by simp[getObj,Sem.run,e2]
  have hzr:(zeroValue e).run K.P w=.ok zv w:=by
   cases hi:K.P.info? e with
   |none=>simp[hi] at hz
   |some i=>
    simp[hi] at hz;simp only[zeroValue,Sem.run_bind,run_typeInfo w hi,Result.andThen_ok,hz];rfl
  rcases v4a hK hg e3 (fun i p e a b=>(e4 i p e a b).1) hges eP eW (w:=w) with ⟨a1,a2,_⟩|⟨j,p,en,jE,a1,a2,a3,a4,a5,aE⟩
  ·refine⟨zv,?_,?_⟩
   ·simp only[execOp,e1,hy.read r];refine q1f ?_;simp only[Instr.lookup,Sem.run_bind,run_underlying (q1o hT),Result.andThen_ok,hobj,pure,Sem.run,hK.check _ w kv hg,a1,hzr];rfl
   ·rw[<-hd,hl.none_of a2];exact .imm (hzd m)
  ·refine⟨en.val,?_,?_⟩
   ·simp only[execOp,e1,hy.read r];refine q1f ?_;simp only[Instr.lookup,Sem.run_bind,run_underlying (q1o hT),Result.andThen_ok,hobj,pure,Sem.run,hK.check _ w kv hg,a1];rfl
   ·have:p=(kv,p.2):=by rw[<-a4]
    rw[this] at a3;have hr:=hl.some_of j p.2 a3 a5;rw[hr] at hd;have hd:p.2=dv:=hd;rw[<-hd];exact(e4 j _ en a3 a2).2 (by rw[<-hd] at hdd;exact hdd)) kk
theorem j6m{d:Nat}{T k e:TypeId}{x y:Operand}{good:Value->Prop}{kv zv:Value}{mv:V}{es:List (Value×V)}(res:Option V)(zd dv:V)(hT:q0s K.P T k e=true)(hK:j6b K.P k good)
  (hz:(K.P.info? e).bind (·.zero)=some zv) (hzd:∀m,q2p m zd zv)
  (hw:q1h ops S ⟨some d,.lookup T x y true,ty,pos,after,g⟩ true) (hx:evl K S x=mv) (hm:j3n S mv es) (hy:z1f K S y kv) (hg:good kv) (hges:∀p,p∈es->good p.1)
  (hl:z8m kv es res) (hd:res.getD zd=dv) (hN:Nat.blt d K.N=true)
  (kk:q7g K ops rest Q (S.put d (.tup [dv,.con (.bool res.isSome)]))) (hdd:dv.deep=false:=by rfl):q7g K ops (⟨some d,.lookup T x y true,ty,pos,after,g⟩::rest) Q S:=
 q9g _ hw hN (fun m β w a r=>by
  have h:=r.reads x;rw[hx] at h;obtain⟨b,ents,clock,e1,⟨E,e2,eP,eW⟩,e3,e4⟩:=hm.read r h;have hobj:(getObj b).run K.P w=.ok (.map E clock) w:=by simp[getObj,Sem.run,e2]
  have hzr:(zeroValue e).run K.P w=.ok zv w:=by
   cases hi:K.P.info? e with
   |none=>simp[hi] at hz
   |some i=>
    simp[hi] at hz;simp only[zeroValue,Sem.run_bind,run_typeInfo w hi,Result.andThen_ok,hz];rfl
  have tup:∀v b,q8n m β dv v->res.isSome=b->q8n m β (.tup [dv,.con (.bool res.isSome)]) (.tuple #[v,.bool b]):=by
   rintro v b hv rfl
   refine .tup rfl fun i c u hi hu=>?_
   match i with
   |0=>simp at hi hu;subst hi;subst hu;exact hv
   |1=>simp at hi hu;subst hi;subst hu;exact .imm (.con _)
   |i+2=>simp at hi
  rcases v4a hK hg e3 (fun i p e a b=>(e4 i p e a b).1) hges eP eW (w:=w) with ⟨a1,a2,_⟩|⟨j,p,en,jE,a1,a2,a3,a4,a5,aE⟩
  ·have hres:=hl.none_of a2;refine⟨.tuple #[zv,.bool false],?_,tup _ _ (by rw[<-hd,hres];exact .imm (hzd m)) (by rw[hres];rfl)⟩;simp only[execOp,e1,hy.read r];refine q1f ?_;simp only[Instr.lookup,Sem.run_bind,run_underlying (q1o hT),Result.andThen_ok,hobj,pure,Sem.run,hK.check _ w kv hg,a1,hzr];rfl
  ·have:p=(kv,p.2):=by rw[<-a4]
   rw[this] at a3;have hres:=hl.some_of j p.2 a3 a5;refine⟨.tuple #[en.val,.bool true],?_,tup _ _ (by rw[hres] at hd;have hd:p.2=dv:=hd;rw[<-hd];exact(e4 j _ en a3 a2).2 (by rw[<-hd] at hdd;exact hdd)) (by rw[hres];rfl)⟩;simp only[execOp,e1,hy.read r];refine q1f ?_;simp only[Instr.lookup,Sem.run_bind,run_underlying (q1o hT),Result.andThen_ok,hobj,pure,Sem.run,hK.check _ w kv hg,a1];rfl) kk
theorem j2g{T k e:TypeId}{x y z:Operand}{good:Value->Prop}{kv:Value}{id:Nat}{dv:V}{es:List (Value×V)}{op:Op}(hop:op=.mapUpdate T x y z\/op=.insert T x y z)(es':List (Value×V))(hT:q0s K.P T k e=true)(hK:j6b K.P k good)
  (hw:q1h ops S ⟨none,op,ty,pos,after,g⟩ true) (hx:evl K S x=.map id) (ho:q1e S.hp id=.map es) (hy:z1f K S y kv) (hg:good kv) (hges:∀p,p∈es->good p.1) (hz:evl K S z=dv)
  (hp:z5q kv dv es es') (kk:q7g K ops rest Q ⟨S.env,(id,.map es')::S.hp,S.nx⟩):q7g K ops (⟨none,op,ty,pos,after,g⟩::rest) Q S:=by
 refine q3k hw (fun m β w a r=>?_) kk;have h:=r.reads x;rw[hx] at h;have hzv:=r.reads z;rw[hz] at hzv;generalize hv:a.eval x=v at h;cases h with
 |imm h=>cases h
 | @map _ b cap hb=>
 have h0:=r.own id;rw[hb,ho] at h0;obtain⟨ents,clock,bl,⟨E,e2,eP,eW⟩,e3,eB,e4⟩:=h0;have hobj:(getObj b).run K.P w=.ok (.map E clock) w:=by simp[getObj,Sem.run,e2]
 have hset:∀o,(setObj b o).run K.P w=.ok () { w with heap:=w.heap.setIfInBounds b o }:=by intro o;simp[setObj,Sem.run,e2]
 have hbl:=q9h e2
 have heap':∀o b',b'≠b->({ w with heap:=w.heap.setIfInBounds b o }:World).heap[b']? = w.heap[b']?:=by
  intro o b' hne;simp only[bz8];rw[if_neg (Ne.symm hne)]
 have self':∀o,({ w with heap:=w.heap.setIfInBounds b o }:World).heap[b]? = some o:=by
  intro o;simp[hbl]
 rcases v4a hK hg e3 (fun i p e a b=>(e4 i p e a b).1) hges eP eW (w:=w) with ⟨a1,a2,aK⟩|⟨j,p,en,jE,a1,a2,a3,a4,a5,aE⟩
 ·have hes:=hp.none_of a2
  refine⟨undef,{ w with heap:=w.heap.setIfInBounds b (.map (E.push { key:=kv,val:=a.eval z,born:=clock }) (clock+1)) },m,β,.inr ⟨rfl,?_⟩,
   r.update (by rw[ho];simp) hb _ (.map es') (heap' _) (by simp) ⟨rfl,rfl,rfl,ae8 _⟩ (fun hkeep=>⟨ents.push { key:=kv,val:=a.eval z,born:=clock },_,bl,⟨_,self' _,by rw[ca9,ca9];exact eP.append_right _,eW.push _ _ aK⟩,by rw[hes];simp[e3],eB,fun i p e hi he=>?_⟩)⟩
  ·rcases hop with rfl|rfl<;>simp only[execOp,hy.read r]<;>rw[Sem.run_bind]
   all_goals
    have:(Instr.mapUpdate T (a.eval x) kv (a.eval z)).run K.P w=.ok () { w with heap:=w.heap.setIfInBounds b (.map (E.push { key:=kv,val:=a.eval z,born:=clock }) (clock+1)) }:=by
     rw[hv];simp only[Instr.mapUpdate,Sem.run_bind,run_underlying (q1o hT),Result.andThen_ok,hobj,hK.check _ w kv hg,a1,hset]
    rw[this];rfl
  ·rw[hes] at hi;rw[bz9] at he;by_cases hlast:i=ents.size
   ·rw[if_pos hlast] at he;rw[az8 (by omega),hlast,e3] at hi;simp at hi he;subst hi;subst he;exact⟨rfl,.inl hzv⟩
   ·rw[if_neg hlast] at he;have:i<es.length:=by rw[e3];exact(bg8.1 he).1
    rw[az9 this] at hi;exact⟨(e4 i p e hi he).1,(e4 i p e hi he).2.mono (Mem.le_refl _) (q4m.le_refl _) (fun _ h=>h) (fun x hx=>hkeep x (eB.1 _ x hx))⟩
 ·have hpp:p=(kv,p.2):=by rw[<-a4]
  rw[hpp] at a3;have hes:=hp.some_of j p.2 a3 a5;have hek:en.key=kv:=by rw[(e4 j _ en a3 a2).1]
  refine⟨undef,{ w with heap:=w.heap.setIfInBounds b (.map (E.modify jE fun e=>{ e with key:=kv,val:=a.eval z }) clock) },m,β,.inr ⟨rfl,?_⟩,
   r.update (by rw[ho];simp) hb _ (.map es') (heap' _) (by simp) ⟨rfl,rfl,rfl,ae8 _⟩ (fun hkeep=>⟨ents.modify j fun e=>{ e with key:=kv,val:=a.eval z },_,bl,⟨_,self' _,by rw[ca8,ca8];exact j2e _ eP (by simpa using a2) (by simpa using aE),eW.modify _ (fun _=>rfl) (fun e he=>by rw[aE] at he;simp only[bc8] at he;subst he;exact hek.symm)⟩,by rw[hes];simp[e3],eB,fun i p e hi he=>?_⟩)⟩
  ·rcases hop with rfl|rfl<;>simp only[execOp,hy.read r]<;>rw[Sem.run_bind]
   all_goals
    have:(Instr.mapUpdate T (a.eval x) kv (a.eval z)).run K.P w=.ok () { w with heap:=w.heap.setIfInBounds b (.map (E.modify jE fun e=>{ e with key:=kv,val:=a.eval z }) clock) }:=by
     rw[hv];simp only[Instr.mapUpdate,Sem.run_bind,run_underlying (q1o hT),Result.andThen_ok,hobj,hK.check _ w kv hg,a1,aE,bg9,ck9,hek,hK.stays w kv hg,hset]
    rw[this];rfl
  ·rw[hes,bt8] at hi;rw[by8] at he;by_cases hji:j=i
   ·subst hji;rw[if_pos rfl] at he;rw[if_pos rfl,if_pos (by rw[e3];exact(bg8.1 a2).1)] at hi;rw[a2] at he;simp at hi he;subst hi;subst he;exact⟨rfl,.inl hzv⟩
   ·rw[if_neg hji] at hi he;exact⟨(e4 i p e hi he).1,(e4 i p e hi he).2.mono (Mem.le_refl _) (q4m.le_refl _) (fun _ h=>h) (fun x hx=>hkeep x (eB.1 _ x hx))⟩
theorem q0h{T k e:TypeId}{x y z:Operand}{good:Value->Prop}{kv:Value}{id:Nat}{dv:V}{es:List (Value×V)}(es':List (Value×V))(hT:q0s K.P T k e=true)(hK:j6b K.P k good)
  (hw:q1h ops S ⟨none,.mapUpdate T x y z,ty,pos,after,g⟩ true) (hx:evl K S x=.map id) (ho:q1e S.hp id=.map es) (hy:z1f K S y kv) (hg:good kv) (hges:∀p,p∈es->good p.1) (hz:evl K S z=dv)
  (hp:z5q kv dv es es') (kk:q7g K ops rest Q ⟨S.env,(id,.map es')::S.hp,S.nx⟩):q7g K ops (⟨none,.mapUpdate T x y z,ty,pos,after,g⟩::rest) Q S:=j2g (.inl rfl) es' hT hK hw hx ho hy hg hges hz hp kk
theorem j5g{T k e:TypeId}{x y z:Operand}{good:Value->Prop}{kv:Value}{id:Nat}{dv:V}{es:List (Value×V)}(es':List (Value×V))(hT:q0s K.P T k e=true)(hK:j6b K.P k good)
  (hw:q1h ops S ⟨none,.insert T x y z,ty,pos,after,g⟩ true) (hx:evl K S x=.map id) (ho:q1e S.hp id=.map es) (hy:z1f K S y kv) (hg:good kv) (hges:∀p,p∈es->good p.1) (hz:evl K S z=dv)
  (hp:z5q kv dv es es') (kk:q7g K ops rest Q ⟨S.env,(id,.map es')::S.hp,S.nx⟩):q7g K ops (⟨none,.insert T x y z,ty,pos,after,g⟩::rest) Q S:=j2g (.inr rfl) es' hT hK hw hx ho hy hg hges hz hp kk
end
def j9g{α:Type}(d:α):List (Nat×α)->Nat->α
 |[],_=>d
 |(k,v)::e,t=>if k=t then v else j9g d e t
theorem q9v(e:Env)(t:Nat):get e t=j9g .any e t:=by
 induction e with
 |nil=>rfl
 |cons p e ih=>obtain⟨k,v⟩:=p;rw[q9u,j9g,ih]
theorem q1s(e:q0m)(t:Nat):q1e e t=j9g .dead e t:=by
 induction e with
 |nil=>rfl
 |cons p e ih=>obtain⟨k,v⟩:=p;rw[q5d,j9g,ih]
def z9z{α:Type}(t:Nat)(l:List (Nat×α)):Bool:=l.any fun p=>Nat.beq p.1 t
theorem q4v{α:Type}(d:α)(l e:List (Nat×α))(t:Nat):j9g d (l++e) t=if z9z t l=true then j9g d l t else j9g d e t:=by
 induction l with
 |nil=>simp[z9z]
 |cons p l ih=>
  obtain⟨k,v⟩:=p;simp only[List.cons_append,j9g];by_cases h:k=t
  ·subst h;simp[z9z]
  ·have hk:Nat.beq k t=false:=by cases hb:Nat.beq k t;rfl;exact absurd (cx9 hb) h
   have hs:z9z t ((k,v)::l)=z9z t l:=by simp[z9z,hk]
   rw[if_neg h,if_neg h,ih,hs]
theorem z6h{α:Type}(d:α)(l e:List (Nat×α))(t:Nat)(h:z9z t l=true):j9g d (l++e) t=j9g d l t:=by rw[q4v,if_pos h]
def runs{α:Type}(p:Nat->Bool):Nat->List (List (Nat×α))->List (Nat×α)->List (Nat×α)
 |_,[],e=>e
 |i,u::us,e=>runs p (i+1) us (if p i then u++e else e)
theorem z0c{α:Type}(d:α)(p:Nat->Bool)(t:Nat):∀(us:List (List (Nat×α))) (i:Nat) (e:List (Nat×α)),
  (∀j u,us[j]? = some u->z9z t u=true->p (i+j)=false)->j9g d (runs p i us e) t=j9g d e t
 |[],_,_,_=>rfl
 |u::us,i,e,h=>by
  rw[runs,z0c d p t us (i+1) _ (fun j u' hu hs=>by have:=h (j+1) u' (by simpa using hu) hs;rw[<-this];congr 1;omega)];split
  ·rename_i hp;rw[q4v,if_neg];intro hs;have:=h 0 u rfl hs;simp[hp] at this
  ·rfl
theorem q6u{α:Type}(d:α)(p q:Nat->Bool)(t:Nat):∀(us:List (List (Nat×α))) (i:Nat) (e e':List (Nat×α)),j9g d e t=j9g d e' t->
  (∀j u,us[j]? = some u->z9z t u=true->p (i+j)=q (i+j))->j9g d (runs p i us e) t=j9g d (runs q i us e') t
 |[],_,_,_,he,_=>he
 |u::us,i,e,e',he,h=>by
  rw[runs,runs];refine q6u d p q t us (i+1) _ _ ?_ (fun j u' hu hs=>by have:=h (j+1) u' (by simpa using hu) hs;have e1:i+1+j=i+(j+1):=(by omega);rw[e1];exact this);by_cases hs:z9z t u=true
  ·have:=h 0 u rfl hs;simp only[bl8] at this;rw[this];split
   ·rw[z6h _ _ _ _ hs,z6h _ _ _ _ hs]
   ·exact he
  ·have:∀e,j9g d (if p i then u++e else e) t=j9g d e t:=by
    intro e;split
    ·rw[q4v,if_neg hs]
    ·rfl
   rw[this]
   have:∀e,j9g d (if q i then u++e else e) t=j9g d e t:=by
    intro e;split
    ·rw[q4v,if_neg hs]
    ·rfl
   rw[this];exact he
theorem j9c{α:Type}(d:α)(p:Nat->Bool)(t:Nat):∀(us:List (List (Nat×α))) (i:Nat) (e:List (Nat×α)) (j:Nat) (u:List (Nat×α)),us[j]? = some u->z9z t u=true->p (i+j)=true->
  (∀j' u',j<j'->us[j']? = some u'->z9z t u'=true->p (i+j')=false)->j9g d (runs p i us e) t=j9g d u t
 |[],_,_,_,_,h,_,_,_=>by simp at h
 |u0::us,i,e,0,u,hu,hs,hp,hl=>by
  simp at hu;subst hu;simp only[bl8] at hp;rw[runs,if_pos hp,z0c d p t us (i+1) _ (fun j u' hu' hs'=>by have:=hl (j+1) u' (by omega) (by simpa using hu') hs';rw[<-this];congr 1;omega),z6h _ _ _ _ hs]
 |u0::us,i,e,j+1,u,hu,hs,hp,hl=>by
  rw[runs];refine j9c d p t us (i+1) _ j u (by simpa using hu) hs (by rw[<-hp];congr 1;omega) (fun j' u' hj' hu' hs'=>?_);have:=hl (j'+1) u' (by omega) (by simpa using hu') hs';rw[<-this];congr 1;omega
structure OD where
 re:List (Nat×V)
 rh:List (Nat×Ob)
 ue:List (Nat×V)
 uh:List (Nat×Ob)
def RdE(e:Env):List (Nat×V)->Prop
 |[]=>True
 |(t,v)::r=>get e t=v/\RdE e r
def RdH(e:q0m):List (Nat×Ob)->Prop
 |[]=>True
 |(t,v)::r=>q1e e t=v/\RdH e r
theorem RdE.congr{e e':Env}:∀{l:List (Nat×V)},(∀t,z9z t l=true->get e t=get e' t)->RdE e l->RdE e' l
 |[],_,_=>trivial
 |(t,v)::r,h,hr=>⟨by rw[<-h t (by simp[z9z])];exact hr.1,RdE.congr (fun t' ht'=>h t' (by simp only[z9z,List.any_cons,ax9] at *;exact .inr ht')) hr.2⟩
theorem RdH.congr{e e':q0m}:∀{l:List (Nat×Ob)},(∀t,z9z t l=true->q1e e t=q1e e' t)->RdH e l->RdH e' l
 |[],_,_=>trivial
 |(t,v)::r,h,hr=>⟨by rw[<-h t (by simp[z9z])];exact hr.1,RdH.congr (fun t' ht'=>h t' (by simp only[z9z,List.any_cons,ax9] at *;exact .inr ht')) hr.2⟩
def St.upd(S:St)(D:OD):St:=⟨D.ue++S.env,D.uh++S.hp,S.nx⟩
def OStep(K:Ctx)(nx:Nat)(ops:Array Oper)(o:Oper)(D:OD):Prop:=∀S,S.nx=nx->RdE S.env D.re->RdH S.hp D.rh->q7g K ops [o] (fun e T=>e=.normal/\T=S.upd D) S
def v8r(K:Ctx)(A:q0m->Prop)(nx:Nat)(ops:Array Oper)(o:Oper)(D:OD):Prop:=∀S,S.nx=nx->A S.hp->RdE S.env D.re->RdH S.hp D.rh->q7g K ops [o] (fun e T=>e=.normal/\T=S.upd D) S
def v0w:St->List OD->Prop
 |_,[]=>True
 |S,D::ds=>RdE S.env D.re/\RdH S.hp D.rh/\v0w (S.upd D) ds
def j5e:St->List OD->St
 |S,[]=>S
 |S,D::ds=>j5e (S.upd D) ds
theorem y3n:∀(ds:List OD) (S:St) (j:Nat) (D:OD),v0w S ds->ds[j]? = some D->
  RdE (runs (fun i=>Nat.blt i j) 0 (ds.map (·.ue)) S.env) D.re/\RdH (runs (fun i=>Nat.blt i j) 0 (ds.map (·.uh)) S.hp) D.rh:=by
 -- by the number of the first operation
 have key:∀(ds:List OD) (S:St) (k j:Nat) (D:OD),v0w S ds->ds[j]? = some D->
   RdE (runs (fun i=>Nat.blt i (k+j)) k (ds.map (·.ue)) S.env) D.re/\RdH (runs (fun i=>Nat.blt i (k+j)) k (ds.map (·.uh)) S.hp) D.rh:=by
  intro ds
  induction ds with
  |nil=>intro S k j D _ h;simp at h
  |cons D0 ds ih=>
   intro S k j D hl h;obtain⟨h1,h2,h3⟩:=hl;cases j with
   |zero=>
    simp at h;subst h;simp only[bw9,bl8];constructor
    ·refine RdE.congr (fun t _=>?_) h1;rw[q9v,q9v];refine(z0c .any _ t _ k S.env ?_).symm;intro j u _ _;cases hb:Nat.blt (k+j) k;rfl;have:=bd9 hb;omega
    ·refine RdH.congr (fun t _=>?_) h2;rw[q1s,q1s];refine(z0c .dead _ t _ k S.hp ?_).symm;intro j u _ _;cases hb:Nat.blt (k+j) k;rfl;have:=bd9 hb;omega
   |succ j=>
    have hk:Nat.blt k (k+(j+1))=true:=cy9 (by omega);have:=ih (S.upd D0) (k+1) j D h3 (by simpa using h);simp only[bw9,runs,hk,if_true];have e1:k+1+j=k+(j+1):=by omega
    rw[e1] at this;exact this
 intro ds S j D hl h;have:=key ds S 0 j D hl h
 simpa using this
theorem w7b:∀(ds:List OD) (S:St) (k:Nat),j5e S ds=⟨runs (fun _=>true) k (ds.map (·.ue)) S.env,runs (fun _=>true) k (ds.map (·.uh)) S.hp,S.nx⟩
 |[],S,k=>rfl
 |D::ds,S,k=>by
  rw[j5e,w7b ds (S.upd D) (k+1)];simp[runs,St.upd]
def q4z(o:Oper):List Nat:=(o.after.toList.filter fun e=>Region.binds .any e).map (·.on)
def v7w:List Oper->List (List Nat)->List (List Nat)
 |[],acc=>acc
 |o::os,acc=>v7w os (acc++[q4z o++(q4z o).flatMap fun j=>acc.getD j []])
def z2o{α β:Type}(l:List (Nat×α))(l':List (Nat×β)):Bool:=l.any fun p=>l'.any fun q=>Nat.beq p.1 q.1
def z7g(D D':OD):Bool:=z2o D.ue D'.re||z2o D.ue D'.ue||z2o D.re D'.ue||z2o D.uh D'.rh||z2o D.uh D'.uh||z2o D.rh D'.uh
def w6p(os:List Oper)(ds:List OD):Bool:=
 let A:=v7w os []
 Nat.beq os.length ds.length &&
 (List.range os.length).all fun i=>(match os[i]? with|some o=>(q4z o).all fun j=>Nat.blt j i|none=>false) &&
  (List.range i).all fun j=>match ds[j]?,ds[i]? with|some D,some D'=>!z7g D D'||(A.getD i []).any fun k=>Nat.beq k j|_,_=>false
def j1q(os:List Oper)(ds:List OD):Bool:=
 let A:=v7w os []
 Nat.ble ds.length os.length &&
 (List.range os.length).all fun i=>(match os[i]? with|some o=>(q4z o).all (fun j=>Nat.blt j i)|none=>false) &&
  (List.range i).all fun j=>match Nat.blt i ds.length with
   |true=>(match ds[j]?,ds[i]? with|some D,some D'=>!z7g D D'||(A.getD i []).any fun k=>Nat.beq k j|_,_=>false)
   |false=>!Nat.blt j ds.length||(A.getD i []).any fun k=>Nat.beq k j
theorem z8a{α β:Type}{l:List (Nat×α)}{l':List (Nat×β)}{t:Nat}(h:z9z t l=true)(h':z9z t l'=true):z2o l l'=true:=by
 simp only[z9z,cs9] at h h';obtain⟨p,hp,hpt⟩:=h;obtain⟨q,hq,hqt⟩:=h';simp only[z2o,cs9];refine⟨p,hp,q,hq,?_⟩;rw[cx9 hpt,cx9 hqt];exact am8 t
theorem z6m{os:List Oper}{listed:Nat->Bool}:∀(rest:List Oper) (acc:List (List Nat)) (done:List Oper),os=done++rest->acc.length=done.length->
  (∀(i:Nat) (o:Oper),os[i]? = some o->listed i=true->∀j,j∈q4z o->listed j=true)->
  (∀(i:Nat) (l:List Nat),acc[i]? = some l->listed i=true->∀j,j∈l->listed j=true)->
  ∀(i:Nat) (l:List Nat),(v7w rest acc)[i]? = some l->listed i=true->∀j,j∈l->listed j=true:=by
 intro rest
 induction rest with
 |nil=>intro acc done _ _ _ h;exact h
 |cons o rest ih=>
  intro acc done hos hlen hcl hacc;refine ih _ (done++[o]) (by simp[hos]) (by simp[hlen]) hcl ?_;intro i l hi hli j hj;rw[ce9] at hi;split at hi
  ·exact hacc i l hi hli j hj
  ·rename_i hge
   have hi0:i - acc.length=0:=by
    cases hx:i - acc.length with
    |zero=>rfl
    |succ n=>rw[hx] at hi;simp at hi
   rw[hi0] at hi;simp at hi;subst hi;have hil:i=done.length:=by omega
   have ho:os[i]? = some o:=by rw[hos,hil];simp
   rcases cm8.1 hj with hj|hj
   ·exact hcl i o ho hli j hj
   ·simp only[ac9] at hj;obtain⟨k,hk,hjk⟩:=hj;have hlk:=hcl i o ho hli k hk;cases hak:acc[k]? with
    |none=>simp[hak] at hjk
    |some l=>
     simp[hak] at hjk;exact hacc k l hak hlk j hjk
section
variable{K:Ctx}{Q:q5q}{S S':St}
variable{m:Mem}{β:q4m}{w:World}{a:Act}
theorem Rel.congr(r:Rel K m β w a S)(he:∀t,get S'.env t=get S.env t)(hh:∀t,q1e S'.hp t=q1e S.hp t)(hn:S'.nx=S.nx):Rel K m β w a S':=
 ⟨r.imm,r.ext,r.mold,r.frame,r.size,r.same,r.tn,r.df,fun t=>by rw[he];exact r.env t,fun i=>by rw[hh];exact r.own i,fun i b c h=>r.priv i b c (by rw[<-hh];exact h),
  fun i i' b c c' h h'=>r.inj i i' b c c' (by rw[<-hh];exact h) (by rw[<-hh];exact h'),
  fun i x h hx=>let q:=r.hid i x (by rw[<-hh];exact h) hx;⟨q.lt,q.m,q.old,fun i' b c h'=>q.ne i' b c (by rw[<-hh];exact h'),fun i' h'=>q.un i' (by rw[<-hh];exact h')⟩,fun i h=>r.nx i (by rw[<-hn];exact h),fun q hq=>by rw[hn];exact r.pin q hq⟩
theorem z1h{A:q0m->Prop}{rid:Nat}{l:List Oper}(ds:List OD)(hm:K.P.follows .mixedOrders=true)(hlex:v0w S ds)(hok:j1q l ds=true)(hA:∀p:Nat->Bool,A (runs p 0 (ds.map (·.uh)) S.hp))
  (hst:∀(i:Nat) (o:Oper) (D:OD),l[i]? = some o->ds[i]? = some D->v8r K A S.nx l.toArray o D) (hend:∀(listed:Array Bool) (m:Mem) (β:q4m) (w:World) (a:Act),listed.size=l.length->(∀i,listed.getD i false=Nat.blt i ds.length)->Rel K m β w a (j5e S ds)->wpAny K.P .any l.toArray (Q.at K) (l.length - ds.length) listed a w):AWP K (.region rid l.toArray true) Q S:=by
 intro m β w a r;refine wp_region_any hm ?_;have r0:Rel K m β { w with drawn:=w.drawn+1 } a S:=r.drawn (w.drawn+1) (ao8 _)
 -- what 'anyOk' z9z
 simp only[j1q,av8,aw9,da8] at hok;obtain⟨hlen,hall⟩:=hok;have hlen:=bd9 hlen
 have hpre:∀(i:Nat) (o:Oper),l[i]? = some o->∀j,j∈q4z o->j<i:=by
  intro i o ho j hj;have hi:i<l.length:=(bi8.1 ho).1;have:=(hall i hi).1;rw[ho] at this;exact bd9 (aw9.1 this j hj)
 have hclash:∀(i j:Nat) (D D':OD),j<i->ds[j]? = some D->ds[i]? = some D'->z7g D D'=true->j∈(v7w l []).getD i []:=by
  intro i j D D' hji hD hD' hc;have hi0:i<ds.length:=(bi8.1 hD').1;have hi:i<l.length:=by omega
  have:=(hall i hi).2 j hji;rw[show Nat.blt i ds.length=true from cy9 hi0,hD,hD'] at this;simp only[hc,ci9,cs8,cs9] at this;obtain⟨k,hk,hkj⟩:=this;rw[<-cx9 hkj];exact hk
 -- what stands behind
 have hfirst:∀i,ds.length<=i->i<l.length->∀j,j<ds.length->j∈(v7w l []).getD i []:=by
  intro i hge hn j hj;have:=(hall i hn).2 j (by omega)
  have hb:Nat.blt i ds.length=false:=by
   cases hb:Nat.blt i ds.length;rfl;have:=bd9 hb;omega
  rw[hb,show Nat.blt j ds.length=true from cy9 hj] at this;simp only[ci9,cs8,cs9] at this;obtain⟨k,hk,hkj⟩:=this;rw[<-cx9 hkj];exact hk
 let US:=ds.map (·.ue)
 let HS:=ds.map (·.uh)
 let St' (p:Nat->Bool):St:=⟨runs p 0 US S.env,runs p 0 HS S.hp,S.nx⟩
 have key:∀(z7u:Nat) (listed:Array Bool) (a:Act) (w:World),listed.size=l.length->z7u+(listed.toList.filter id).length=l.length->
   (∀(i:Nat) (o:Oper),l[i]? = some o->listed.getD i false=true->∀j,j∈q4z o->listed.getD j false=true)->
   ((∀i,ds.length<=i->listed.getD i false=false)/\∃m β,Rel K m β w a (St' fun i=>listed.getD i false))->wpAny K.P .any l.toArray (Q.at K) z7u listed a w:=by
  -- all are listed: the end
  have fin0:∀(listed:Array Bool) (a:Act) (w:World),(∀i,i<ds.length->listed.getD i false=true)->(∃m β,Rel K m β w a (St' fun i=>listed.getD i false))->∃m β,Rel K m β w a (j5e S ds):=by
   rintro listed a w hl ⟨m,β,r⟩
   refine⟨m,β,?_⟩;rw[w7b ds S 0];refine r.congr (fun t=>?_) (fun t=>?_) rfl
   ·show get (runs (fun _=>true) 0 US S.env) t=get (runs (fun i=>listed.getD i false) 0 US S.env) t
    rw[q9v,q9v];refine q6u _ _ _ t _ 0 _ _ rfl fun j u hu _=>?_;rw[cr9,hl j];have:=(bi8.1 hu).1;simp only[US,br9] at this;omega
   ·show q1e (runs (fun _=>true) 0 HS S.hp) t=q1e (runs (fun i=>listed.getD i false) 0 HS S.hp) t
    rw[q1s,q1s];refine q6u _ _ _ t _ 0 _ _ rfl fun j u hu _=>?_;rw[cr9,hl j];have:=(bi8.1 hu).1;simp only[HS,br9] at this;omega
  have hready:∀(listed:Array Bool) i,i∈Region.ready .any l.toArray listed<->i<l.length/\listed.getD i true=false/\∃o,l[i]? = some o/\∀j,j∈q4z o->listed.getD j false=true:=by
   intro listed i;simp only[Region.ready,cm9,da8,bx8,bo8,av8,aw8];constructor
   ·rintro⟨h1,h2,h3⟩
    refine⟨h1,h2,l[i],be8 h1,fun j hj=>?_⟩;rw[be8 h1] at h3;simp only[bg9,ck9,bn8] at h3;simp only[q4z,bk9,cm9] at hj;obtain⟨e,⟨he,hb⟩,rfl⟩:=hj;obtain⟨k,hk,rfl⟩:=br8 he;have:=h3 k (by simpa using hk);simp only[Array.getElem_toList] at hb ⊢
    simpa[hb] using this
   ·rintro⟨h1,h2,o,ho,h3⟩
    refine⟨h1,h2,?_⟩;rw[ho];simp only[bg9,ck9,bn8];intro k hk;by_cases hb:Region.binds .any o.after[k]=true
    ·have:=h3 o.after[k].on (by
      simp only[q4z,bk9,cm9];exact⟨o.after[k],⟨by simp,hb⟩,rfl⟩)
     simp[hb,this]
    ·simp[Bool.eq_false_iff.2 hb]
  have none_ready:∀(listed:Array Bool),listed.size=l.length->Region.ready .any l.toArray listed=[]->∀i,i<l.length->listed.getD i false=true:=by
   intro listed hsz hr i
   induction i using Nat.strongRecOn with
   |_ i ih=>
    intro hi;cases hli:listed.getD i false with
    |true=>rfl
    |false=>
     exfalso
     have:i∈Region.ready .any l.toArray listed:=by
      rw[hready];refine⟨hi,?_,l[i],be8 hi,fun j hj=>?_⟩
      ·have hi':i<listed.size:=by omega
       simp only[bw8,bh9 hi',ck9] at hli ⊢;exact hli
      ·have:=hpre i _ (be8 hi) j hj;exact ih j this (by omega)
     rw[hr] at this;simp at this
  have step:∀(listed:Array Bool) (i:Nat) (a:Act) (w:World) (K':Act->World->Prop),listed.size=l.length->
    (∀(i:Nat) (o:Oper),l[i]? = some o->listed.getD i false=true->∀j,j∈q4z o->listed.getD j false=true)->
    (∃m β,Rel K m β w a (St' fun i=>listed.getD i false))->i∈Region.ready .any l.toArray listed->i<ds.length->
    (∀a w,(∃m β,Rel K m β w a (St' fun j=>(listed.setIfInBounds i true).getD j false))->K' a w)->wpOp K.P l.toArray (Q.at K) i K' a w:=by
   rintro listed i a w K' hsz hcl ⟨m,β,r⟩ hi hin hK
   rw[hready] at hi;obtain⟨hil,hli,o,ho,hpr⟩:=hi;obtain⟨D,hD⟩:∃D,ds[i]? = some D:=⟨ds[i]'(by omega),be8 (by omega)⟩
   have hlf:listed.getD i false=false:=by
    have hi':i<listed.size:=by omega
    simp only[bw8,bh9 hi',ck9] at hli ⊢;exact hli
   -- who stands ahead
   have anc:∀k,listed.getD k false=true->∀j,j∈(v7w l []).getD k []->listed.getD j false=true:=by
    intro k hk j hj;cases hak:(v7w l [])[k]? with
    |none=>simp[hak] at hj
    |some L=>
     simp[hak] at hj;exact z6m (os:=l) (listed:=fun i=>listed.getD i false) l [] [] rfl rfl hcl (by simp) k L hak hk j hj
   have ancI:∀j,j∈(v7w l []).getD i []->listed.getD j false=true:=by
    intro j hj
    have hcl':∀(k:Nat) (o':Oper),l[k]? = some o'->(listed.getD k false||Nat.beq k i)=true->∀j,j∈q4z o'->(listed.getD j false||Nat.beq j i)=true:=by
     intro k o' ho' hk j hj;rw[ax9] at hk ⊢;rcases hk with hk|hk
     ·exact .inl (hcl k o' ho' hk j hj)
     ·have:=cx9 hk;subst this;rw[ho] at ho';cases ho';exact .inl (hpr j hj)
    cases hak:(v7w l [])[i]? with
    |none=>simp[hak] at hj
    |some L=>
     simp[hak] at hj;have h1:=z6m (os:=l) (listed:=fun k=>listed.getD k false||Nat.beq k i) l [] [] rfl rfl hcl' (by simp) i L hak (by simp[am8]) j hj;simp only[ax9] at h1;rcases h1 with h1|h1
     ·exact h1
     ·exfalso
      -- nothing stands ahead of itself
      have hlt:∀(rest:List Oper) (acc:List (List Nat)) (done:List Oper),l=done++rest->acc.length=done.length->(∀(k:Nat) (L:List Nat),acc[k]? = some L->∀j,j∈L->j<k)->∀(k:Nat) (L:List Nat),(v7w rest acc)[k]? = some L->∀j,j∈L->j<k:=by
       intro rest
       induction rest with
       |nil=>intro acc done _ _ h;exact h
       |cons o' rest ih=>
        intro acc done hos hl2 hacc;refine ih _ (done++[o']) (by simp[hos]) (by simp[hl2]) ?_;intro k L hk j hj;rw[ce9] at hk;split at hk
        ·exact hacc k L hk j hj
        ·have hk0:k - acc.length=0:=by
          cases hx:k - acc.length with
          |zero=>rfl
          |succ n=>rw[hx] at hk;simp at hk
         rw[hk0] at hk;simp at hk;subst hk;have hkl:k=done.length:=by omega
         have ho'':l[k]? = some o':=by rw[hos,hkl];simp
         rcases cm8.1 hj with hj|hj
         ·exact hpre k o' ho'' j hj
         ·simp only[ac9] at hj;obtain⟨q,hq,hjq⟩:=hj;have hqk:=hpre k o' ho'' q hq;cases haq:acc[q]? with
          |none=>simp[haq] at hjq
          |some L=>
           simp[haq] at hjq;have:=hacc q L haq j hjq;omega
      have:=hlt l [] [] rfl rfl (by simp) i L hak j hj;have:=cx9 h1;omega
   -- another one that clashes
   have other:∀(j:Nat) (D':OD),j≠i->ds[j]? = some D'->(z7g D' D=true\/z7g D D'=true)->(j<i->z7g D' D=true)->(i<j->z7g D D'=true)->(listed.getD j false=Nat.blt j i):=by
    intro j D' hne hD' _ h1 h2;rcases Nat.lt_or_gt_of_ne hne with hlt|hgt
    ·rw[ancI j (hclash i j D' D hlt hD' hD (h1 hlt))];exact(cy9 hlt).symm
    ·have hb:Nat.blt j i=false:=by
      cases hb:Nat.blt j i;rfl;have:=bd9 hb;omega
     rw[hb];cases hx:listed.getD j false with
     |false=>rfl
     |true=>
      have:=anc j hx i (hclash j i D D' hgt hD hD' (h2 hgt));rw[hlf] at this;simp at this
   have hblt:Nat.blt i i=false:=by
    cases hb:Nat.blt i i;rfl;have:=bd9 hb;omega
   have clash_l:∀D1 D2:OD,(z2o D1.ue D2.re=true\/z2o D1.ue D2.ue=true\/z2o D1.re D2.ue=true\/z2o D1.uh D2.rh=true\/z2o D1.uh D2.uh=true\/z2o D1.rh D2.uh=true)->z7g D1 D2=true:=by
    intro D1 D2 h;simp only[z7g,ax9];rcases h with h|h|h|h|h|h<;>simp[h]
   obtain⟨lr,lh⟩:=y3n ds S i D hlex hD
   -- the reads
   have hre:RdE (runs (fun i=>listed.getD i false) 0 US S.env) D.re:=by
    refine RdE.congr (fun t ht=>?_) lr;rw[q9v,q9v];refine q6u _ _ _ t _ 0 _ _ rfl fun j u hu hs=>?_;rw[cr9];simp only[bf9] at hu;cases hDj:ds[j]? with
    |none=>simp[hDj] at hu
    |some D'=>
     simp[hDj] at hu;subst hu;by_cases hji:j=i
     ·subst hji;rw[hblt,hlf]
     ·have c1:z7g D' D=true:=clash_l _ _ (.inl (z8a hs ht));have c2:z7g D D'=true:=clash_l _ _ (.inr (.inr (.inl (z8a ht hs))));exact(other j D' hji hDj (.inl c1) (fun _=>c1) (fun _=>c2)).symm
   have hrh:RdH (runs (fun i=>listed.getD i false) 0 HS S.hp) D.rh:=by
    refine RdH.congr (fun t ht=>?_) lh;rw[q1s,q1s];refine q6u _ _ _ t _ 0 _ _ rfl fun j u hu hs=>?_;rw[cr9];simp only[bf9] at hu;cases hDj:ds[j]? with
    |none=>simp[hDj] at hu
    |some D'=>
     simp[hDj] at hu;subst hu;by_cases hji:j=i
     ·subst hji;rw[hblt,hlf]
     ·have c1:z7g D' D=true:=clash_l _ _ (.inr (.inr (.inr (.inl (z8a hs ht)))));have c2:z7g D D'=true:=clash_l _ _ (.inr (.inr (.inr (.inr (.inr (z8a ht hs))))));exact(other j D' hji hDj (.inl c1) (fun _=>c1) (fun _=>c2)).symm
   have hset:∀j,(listed.setIfInBounds i true).getD j false=if j=i then true else listed.getD j false:=by
    intro j;simp only[bw8,bz8];by_cases hji:i=j
    ·subst hji;simp[show i<listed.size by omega]
    ·simp[hji,Ne.symm hji]
   -- the writings
   have hwe:∀t,get (runs (fun j=>(listed.setIfInBounds i true).getD j false) 0 US S.env) t=get (D.ue++runs (fun j=>listed.getD j false) 0 US S.env) t:=by
    intro t;rw[q9v,q9v];by_cases hs:z9z t D.ue=true
    ·rw[z6h _ _ _ _ hs];refine j9c _ _ t _ 0 _ i D.ue (by simp[US,hD]) hs (by rw[cr9,hset,if_pos rfl]) ?_;intro j u hj hu hs';rw[cr9,hset,if_neg (by omega)];simp only[US,bf9] at hu;cases hDj:ds[j]? with
     |none=>simp[hDj] at hu
     |some D'=>
      simp[hDj] at hu;subst hu;have c1:z7g D' D=true:=clash_l _ _ (.inr (.inl (z8a hs' hs)));have c2:z7g D D'=true:=clash_l _ _ (.inr (.inl (z8a hs hs')));rw[other j D' (by omega) hDj (.inl c1) (fun _=>c1) (fun _=>c2)];cases hb:Nat.blt j i;rfl;have:=bd9 hb;omega
    ·rw[q4v,if_neg hs];refine q6u _ _ _ t _ 0 _ _ rfl fun j u hu hs'=>?_;rw[cr9,hset];by_cases hji:j=i
     ·subst hji;simp only[US,bf9,hD,bg9,bc8] at hu;subst hu;exact absurd hs' hs
     ·rw[if_neg hji]
   have hwh:∀t,q1e (runs (fun j=>(listed.setIfInBounds i true).getD j false) 0 HS S.hp) t=q1e (D.uh++runs (fun j=>listed.getD j false) 0 HS S.hp) t:=by
    intro t;rw[q1s,q1s];by_cases hs:z9z t D.uh=true
    ·rw[z6h _ _ _ _ hs];refine j9c _ _ t _ 0 _ i D.uh (by simp[HS,hD]) hs (by rw[cr9,hset,if_pos rfl]) ?_;intro j u hj hu hs';rw[cr9,hset,if_neg (by omega)];simp only[HS,bf9] at hu;cases hDj:ds[j]? with
     |none=>simp[hDj] at hu
     |some D'=>
      simp[hDj] at hu;subst hu;have c1:z7g D' D=true:=clash_l _ _ (.inr (.inr (.inr (.inr (.inl (z8a hs' hs))))));have c2:z7g D D'=true:=clash_l _ _ (.inr (.inr (.inr (.inr (.inl (z8a hs hs'))))));rw[other j D' (by omega) hDj (.inl c1) (fun _=>c1) (fun _=>c2)];cases hb:Nat.blt j i;rfl;have:=bd9 hb;omega
    ·rw[q4v,if_neg hs];refine q6u _ _ _ t _ 0 _ _ rfl fun j u hu hs'=>?_;rw[cr9,hset];by_cases hji:j=i
     ·subst hji;simp only[HS,bf9,hD,bg9,bc8] at hu;subst hu;exact absurd hs' hs
     ·rw[if_neg hji]
   have hstep:=hst i o D ho hD (St' fun i=>listed.getD i false) rfl (hA _) hre hrh m β w a r
   have hcont:∀a w,(∃m β,Rel K m β w a ((St' fun i=>listed.getD i false).upd D))->K' a w:=by
    rintro a w ⟨m,β,r⟩
    exact hK a w ⟨m,β,r.congr hwe hwh rfl⟩
   unfold wpList at hstep;unfold wpOp;simp only[bo8,ho]
   have conv:∀a w,wpList K.P l.toArray (q5q.at K fun e T=>e=.normal/\T=(St' fun i=>listed.getD i false).upd D) [] a w->K' a w:=by
    rintro a w ⟨_,T,m,β,⟨_,rfl⟩,r⟩
    exact hcont a w ⟨m,β,r⟩
   split
   ·rename_i hw;rw[if_pos hw] at hstep
    left
    rcases hstep with hstep|⟨_,a',w',hbad,_⟩
    ·-- the endings that are none
     unfold Oper.wp at hstep ⊢;generalize (execOp a.eval o).run K.P w=res at *;cases res with
     |ok n w'=>
      cases n<;>simp only[Oper.upon] at hstep ⊢
      ·exact conv _ _ hstep
      ·exact conv _ _ hstep
      ·refine hstep.mono fun e w'' he=>?_;cases e with
       |returned v=>exact conv _ _ he
       |panicked ch=>obtain⟨_,T,m,β,⟨h,_⟩,_⟩:=he;simp at h
       |outgrown=>obtain⟨a,w,h,_⟩:=he;simp[q5z] at h
      ·exact conv _ _ hstep
      ·exact hstep.mono fun v w'' he=>conv _ _ he
     |halt x w'=>
      cases x<;>simp only[Oper.upon] at hstep ⊢;obtain⟨_,T,m,β,⟨h,_⟩,_⟩:=hstep;simp at h
    ·simp[q5z] at hbad
   ·rename_i hw;rw[if_neg hw] at hstep;exact conv _ _ hstep
  -- all that stands ahead is listed
  have cnt:∀(listed:Array Bool),listed.size=l.length->(∀i,listed.getD i false=Nat.blt i ds.length)->(listed.toList.filter id).length=ds.length:=by
   intro listed hsz h
   have:listed.toList=List.replicate ds.length true++List.replicate (l.length - ds.length) false:=by
    apply ay8;intro i;have hi:=h i;simp only[bw8] at hi;by_cases h1:i<ds.length
    ·rw[az9 (by simpa using h1),bt9,if_pos h1];have hs:i<listed.size:=by omega
     rw[bh9 hs,ck9,show Nat.blt i ds.length=true from cy9 h1] at hi;simp[hs,hi]
    ·rw[az8 (by simpa using h1),bt9,al9];by_cases h2:i<l.length
     ·rw[if_pos (by omega)];have hs:i<listed.size:=by omega
      have hb:Nat.blt i ds.length=false:=by
       cases hb:Nat.blt i ds.length;rfl;have:=bd9 hb;omega
      rw[bh9 hs,ck9,hb] at hi;simp[hs,hi]
     ·rw[if_neg (by omega)];simp;omega
   rw[this];simp
  have ahead:∀(z7u:Nat) (listed:Array Bool) (a:Act) (w:World),listed.size=l.length->z7u+(listed.toList.filter id).length=l.length->(∀i,i<ds.length->listed.getD i false=true)->(∀i,ds.length<=i->listed.getD i false=false)->
    (∃m β,Rel K m β w a (St' fun i=>listed.getD i false))->wpAny K.P .any l.toArray (Q.at K) z7u listed a w:=by
   intro z7u listed a w hsz hcount h1 h2 h3
   have hl:∀i,listed.getD i false=Nat.blt i ds.length:=by
    intro i;by_cases hi:i<ds.length
    ·rw[h1 i hi];exact(cy9 hi).symm
    ·rw[h2 i (by omega)];cases hb:Nat.blt i ds.length with
     |false=>rfl
     |true=>have:=bd9 hb;omega
   obtain⟨m,β,r⟩:=fin0 listed a w h1 h3;have hf:z7u=l.length - ds.length:=by rw[cnt listed hsz hl] at hcount;omega
   rw[hf];exact hend listed m β w a hsz hl r
  intro z7u
  induction z7u with
  |zero=>
   intro listed a w hsz hcount hcl hr
   have hfull:∀i,i<l.length->listed.getD i false=true:=by
    intro i hi;have h1:(listed.toList.filter id).length=listed.toList.length:=by simp only[bs8];omega
    have h2:=List.length_filter_eq_length_iff.1 h1;have hi':i<listed.size:=by omega
    have:=h2 listed[i] (by simp);simp only[bw8,bh9 hi',ck9];exact this
   exact ahead 0 listed a w hsz hcount (fun i hi=>hfull i (by omega)) hr.1 hr.2
  |succ z7u ih=>
   intro listed a w hsz hcount hcl hr;by_cases hA:∀i,i<ds.length->listed.getD i false=true
   ·exact ahead _ listed a w hsz hcount hA hr.1 hr.2
   refine⟨fun h0=>absurd (fun i hi=>none_ready listed hsz h0 i (by omega)) hA,fun i hi=>?_⟩;have hready_i:=(hready listed i).1 hi
   have hin:i<ds.length:=by
    rcases cb8 i ds.length with h|hge
    ·exact h
    ·exfalso;apply hA;intro j hj;obtain⟨o,ho,hpr⟩:=hready_i.2.2;have hin:=hfirst i hge hready_i.1 j hj
     have hcl':∀(k:Nat) (o':Oper),l[k]? = some o'->(listed.getD k false||Nat.beq k i)=true->∀j,j∈q4z o'->(listed.getD j false||Nat.beq j i)=true:=by
      intro k o' ho' hk j hj;rw[ax9] at hk ⊢;rcases hk with hk|hk
      ·exact .inl (hcl k o' ho' hk j hj)
      ·have:=cx9 hk;subst this;rw[ho] at ho';cases ho';exact .inl (hpr j hj)
     cases hak:(v7w l [])[i]? with
     |none=>simp[hak] at hin
     |some L=>
      simp[hak] at hin;have h1:=z6m (os:=l) (listed:=fun k=>listed.getD k false||Nat.beq k i) l [] [] rfl rfl hcl' (by simp) i L hak (by simp[am8]) j hin;simp only[ax9] at h1;rcases h1 with h1|h1
      ·exact h1
      ·have:=cx9 h1;omega
   refine step listed i a w _ hsz hcl hr.2 hi hin ?_;intro a w hr';have hi2:=(hready listed i).1 hi;have hi':i<listed.size:=by omega
   have hfalse:listed[i]=false:=by
    have:=hi2.2.1;simp only[bw8,bh9 hi',ck9] at this;exact this
   refine ih _ a w (by simp[hsz]) ?_ ?_ ⟨fun j hj=>by
    have hset:(listed.setIfInBounds i true).getD j false=listed.getD j false:=by
     simp only[bw8,bz8];rw[if_neg (by omega)]
    rw[hset];exact hr.1 j hj,hr'⟩
   ·have:((listed.setIfInBounds i true).toList.filter id).length=(listed.toList.filter id).length+1:=by
     rw[Array.toList_setIfInBounds]
     have gen:∀(L:List Bool) (i:Nat) (h:i<L.length),L[i]=false->((L.set i true).filter id).length=(L.filter id).length+1:=by
      intro L
      induction L with
      |nil=>intro i h;simp at h
      |cons b L ihL=>
       intro i h hb;cases i with
       |zero=>simp at hb;subst hb;simp
       |succ i=>
        simp only[List.set_cons_succ,ab9];have:=ihL i (by simpa using h) (by simpa using hb);split<;>simp[this]
     exact gen listed.toList i (by simpa using hi') (by simpa using hfalse)
    omega
   ·intro k o' ho' hk j hj
    have hset:∀j,(listed.setIfInBounds i true).getD j false=if j=i then true else listed.getD j false:=by
     intro j;simp only[bw8,bz8];by_cases hji:i=j
     ·subst hji;simp[hi']
     ·simp[hji,Ne.symm hji]
    rw[hset] at hk ⊢;split
    ·rfl
    ·by_cases hki:k=i
     ·subst hki;obtain⟨_,_,o'',ho'',hpr⟩:=hi2;rw[ho'] at ho'';cases ho'';exact hpr j hj
     ·rw[if_neg hki] at hk;exact hcl k o' ho' hk j hj
 refine key l.length (Array.replicate l.length false) a { w with drawn:=w.drawn+1 } (by simp) (by simp) ?_ ⟨fun i _=>by simp only[bw8,ct9];split<;>rfl,?_⟩
 ·intro i o _ h;simp only[bw8,ct9] at h;split at h<;>simp at h
 ·refine⟨m,β,r0.congr (fun t=>?_) (fun t=>?_) rfl⟩
  ·rw[q9v,q9v];refine z0c _ _ t _ 0 _ fun j u _ _=>?_;simp only[bw8,ct9];split<;>rfl
  ·rw[q1s,q1s];refine z0c _ _ t _ 0 _ fun j u _ _=>?_;simp only[bw8,ct9];split<;>rfl
theorem w6g{os:List Oper}{ds:List OD}(h:w6p os ds=true):j1q os ds=true/\os.length=ds.length:=by
 simp only[w6p,av8,aw9,da8] at h;obtain⟨h1,h2⟩:=h;have h1:=cx9 h1;refine⟨?_,h1⟩;simp only[j1q,av8,aw9,da8];refine⟨cy9 (by omega),fun i hi=>⟨?_,fun j hj=>?_⟩⟩
 ·have:=(h2 i hi).1;rw[be8 hi] at this ⊢;exact this
 ·rw[show Nat.blt i ds.length=true from cy9 (by omega)];exact(h2 i hi).2 j hj
theorem j8f{A:q0m->Prop}{rid:Nat}{l:List Oper}(ds:List OD)(hm:K.P.follows .mixedOrders=true)(hlex:v0w S ds)(hok:w6p l ds=true)(hA:∀p:Nat->Bool,A (runs p 0 (ds.map (·.uh)) S.hp))
  (hst:∀(i:Nat) (o:Oper) (D:OD),l[i]? = some o->ds[i]? = some D->v8r K A S.nx l.toArray o D) (hend:Q .normal (j5e S ds)):AWP K (.region rid l.toArray true) Q S:=
 z1h ds hm hlex (w6g hok).1 hA hst fun listed m β w a hsz hl r=>by
  have hlen:=(w6g hok).2;rw[hlen,Nat.sub_self];refine⟨?_,rfl,_,m,β,hend,r⟩;cases hrd:Region.ready .any l.toArray listed with
  |nil=>rfl
  |cons i is=>
   have hi:i∈Region.ready .any l.toArray listed:=by rw[hrd];simp
   simp only[Region.ready,cm9,da8,bx8,av8,aw8] at hi;have h1:=hl i;have hi':i<listed.size:=by omega
   have h2:=hi.2.1;rw[show Nat.blt i ds.length=true from cy9 (by omega)] at h1;simp only[bw8,bh9 hi',ck9] at h1 h2;rw[h1] at h2;simp at h2
end
end Go.Pv
