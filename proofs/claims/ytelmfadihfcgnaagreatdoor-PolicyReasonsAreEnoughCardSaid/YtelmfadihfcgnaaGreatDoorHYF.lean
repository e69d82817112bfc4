/- Part of the proof. -/
import Derived.Test.YtelmfadihfcgnaaGreatDoorHDX6
import Derived.RangeFuncSeq
set_option linter.unusedSimpArgs false
set_option linter.unusedVariables false
namespace Go.Pv
open Go
section
variable{K:cR}{Q:ca}{S:St}
theorem vc{T k e:Nat}{x y:Operand}{good:Value->Prop}{kv zv vz:Value}{dv:V}{id:Nat}{es:List (Value×V)}{m:bB}{β:ba}{w:World}{a:Act}(r:bX K m β w a S)(hT:eh K.P T k e=true)(hK:ja K.P k good)
  (hz0:(K.P.info? e).bind (·.zero)=some zv) (hx:evl K S x=.map id) (ho:ak S.hp id=.map es) (hy:fg K S y kv) (hg:good kv) (hges:∀p,p∈es->good p.1) (hz:br m β dv vz) (es':List (Value×V)) (hp:ic kv dv es es'):
  ∃(b:Nat) (cap:ol) (mv v1:Value) (st:Int) (w1 w2:World),β id=some (some (b,cap))/\(∀b',b'≠b->w1.heap[b']? = w.heap[b']?/\w2.heap[b']? = w.heap[b']?)/\a.eval x=mv/\a.eval y=kv/\(Instr.mapEntry T mv kv).run K.P w=.ok (.tuple #[v1,.int .i64 st]) w1/\(Instr.entryStore T mv (.int .i64 st) vz).run K.P w1=.ok () w2/\bX K m β w2 a ⟨S.env,(id,.map es')::S.hp,S.nx⟩:=by
 have h:=r.reads x;rw[hx] at h;generalize hv:a.eval x=v at h;cases h with
 |imm h=>cases h
 | @map _ b cap hb=>
 have h0:=r.own id;rw[hb,ho] at h0;obtain⟨ents,clock,bl,⟨E,e2,eP,eW⟩,e3,eB,e4⟩:=h0;have hobj:(getObj b).run K.P w=.ok (.map E clock) w:=by simp[getObj,Sem.run,e2]
 have hset:∀o,(setObj b o).run K.P w=.ok () { w with heap:=w.heap.setIfInBounds b o }:=by intro o;simp[setObj,Sem.run,e2]
 have hbl:=bD e2
 have hzr:∀w:World,(zeroValue e).run K.P w=.ok zv w:=by
  intro w;cases hi:K.P.info? e with
  |none=>simp[hi] at hz0
  |some i=>
   simp[hi] at hz0;simp only[zeroValue,Sem.run_bind,run_typeInfo w hi,Result.andThen_ok,hz0];rfl
 have fin:∀(st:Int) (E1 E2:Array MapEntry) (c1 j:Nat),E1.findIdx? (fun e=>(e.born:Int)==st)=some j->(E1.modify j fun e=>{ e with val:=vz })=E2->
   (∀w':World,w'.heap[b]? = some (.map E2 c1)->(∀x,β.hid id x->w'.heap[x]? = w.heap[x]?)->bn m β w' (β.hid id) (some (some (b,cap))) (.map es'))->
   ∃w2:World,(∀b',b'≠b->w2.heap[b']? = w.heap[b']?)/\(Instr.entryStore T (.map (some b)) (.int .i64 st) vz).run K.P { w with heap:=w.heap.setIfInBounds b (.map E1 c1) }=.ok () w2/\bX K m β w2 a ⟨S.env,(id,.map es')::S.hp,S.nx⟩:=by
  intro st E1 E2 c1 j h2 h3 h4;have g1:({ w with heap:=w.heap.setIfInBounds b (.map E1 c1) }:World).heap[b]? = some (.map E1 c1):=by simp[hbl]
  have hheap:∀b',b'≠b->({ w with heap:=(w.heap.setIfInBounds b (.map E1 c1)).setIfInBounds b (.map E2 c1) }:World).heap[b']? = w.heap[b']?:=by
   intro b' hne;simp only[bq8];rw[if_neg (Ne.symm hne),if_neg (Ne.symm hne)]
  refine⟨{ w with heap:=(w.heap.setIfInBounds b (.map E1 c1)).setIfInBounds b (.map E2 c1) },hheap,?_,?_⟩
  ·have hobj':(getObj b).run K.P { w with heap:=w.heap.setIfInBounds b (.map E1 c1) }=.ok (.map E1 c1) { w with heap:=w.heap.setIfInBounds b (.map E1 c1) }:=by simp[getObj,Sem.run,g1]
   have hset':∀o,(setObj b o).run K.P { w with heap:=w.heap.setIfInBounds b (.map E1 c1) }=.ok () { w with heap:=(w.heap.setIfInBounds b (.map E1 c1)).setIfInBounds b o }:=by intro o;simp[setObj,Sem.run,g1]
   simp only[Instr.entryStore,Sem.run_bind,hobj',Result.andThen_ok,asInt,asIntOf];simp only[pure,Sem.run,Result.andThen_ok,h2];rw[<-h3];exact hset' _
  ·exact r.update (by rw[ho];simp) hb { w with heap:=(w.heap.setIfInBounds b (.map E1 c1)).setIfInBounds b (.map E2 c1) } (.map es') hheap (by simp) ⟨Y,Y,Y,trivial⟩ (fun hkeep=>h4 _ (by simp[hbl]) hkeep)
 have hw1:∀(o:Obj) b',b'≠b->({ w with heap:=w.heap.setIfInBounds b o }:World).heap[b']? = w.heap[b']?:=by
  intro o b' hne;simp only[bq8];rw[if_neg (Ne.symm hne)]
 rcases sO hK hg e3 (fun i p e a b=>(e4 i p e a b).1) hges eP eW (w:=w) with ⟨a1,a2,aK⟩|⟨j,p,en,jE,a1,a2,a3,a4,a5,aE⟩
 ·have eW1:=eW.push kv zv aK;have hes:=hp.none_of a2
  obtain⟨w2,f0,f1,f2⟩:=fin clock (E.push { key:=kv,val:=zv,born:=clock }) (E.push { key:=kv,val:=vz,born:=clock }) (clock+1) E.size (by
   rw[Array.findIdx?_eq_some_iff_getElem];refine⟨by simp,by simp,fun q hq=>?_⟩;rw[Array.getElem_push_lt hq];have:=eW.lt E[q] (by simp);simp;omega) (wV _) (by
   intro w' hw' hkeep;refine⟨ents.push { key:=kv,val:=vz,born:=clock },_,bl,⟨_,hw',by rw[br9,br9];exact eP.append_right _,eW.push _ _ aK⟩,by rw[hes];simp[e3],eB,fun i p e hi he=>?_⟩;rw[hes] at hi;rw[bp8] at he;by_cases hlast:i=ents.size
   ·rw[if_pos hlast] at he;rw[au9 (by omega),hlast,e3] at hi;simp at hi he;subst hi;subst he;exact⟨Y,.inl hz⟩
   ·rw[if_neg hlast] at he;have:i<es.length:=by rw[e3];exact(bb9.1 he).1
    rw[at8 this] at hi;exact⟨(e4 i p e hi he).1,(e4 i p e hi he).2.mono (bB.le_refl _) (ba.le_refl _) (fun _ h=>h) (fun x hx=>hkeep x (eB.1 _ x hx))⟩)
  refine⟨b,cap,.map (some b),zv,clock,{ w with heap:=w.heap.setIfInBounds b (.map (E.push { key:=kv,val:=zv,born:=clock }) (clock+1)) },w2,hb,(fun b' h=>⟨hw1 _ b' h,f0 b' h⟩),Y,hy.read r,?_,f1,f2⟩;simp only[Instr.mapEntry,Sem.run_bind,run_underlying (cU hT),Result.andThen_ok,hobj,hK.check _ w kv hg,a1,hzr w,hset];rfl
 ·have hpp:p=(kv,p.2):=by rw[<-a4]
  rw[hpp] at a3;have hek:en.key=kv:=by rw[(e4 j _ en a3 a2).1]
  have hE1:(E.modify jE fun e=>{ e with key:=kv })=E:=by
   apply Array.ext_getElem?;intro i;rw[bp9];split
   ·rename_i h;subst h;rw[aE];simp[<-hek]
   ·rfl
  have hes:=hp.some_of j p.2 a3 a5
  obtain⟨w2,f0,f1,f2⟩:=fin en.born E (E.modify jE fun e=>{ e with key:=kv,val:=vz }) clock jE (by
   rw[Array.findIdx?_eq_some_iff_getElem];have hjl:=(bb9.1 aE).1;refine⟨hjl,?_,fun q hq=>?_⟩
   ·have:E[jE]=en:=(bb9.1 aE).2;simp[this]
   ·have hql:q<E.size:=by omega
    intro hc;have hc:(E[q].born:Int)=en.born:=by simpa using hc
    have:=Ac eW (bb8 hql) aE (by omega);omega) (by
   conv=>lhs;rw[<-hE1]
   exact GS _ _ _ (fun e=>rfl)) (by
   intro w' hw' hkeep;refine⟨ents.modify j fun e=>{ e with key:=kv,val:=vz },_,bl,⟨_,hw',by rw[br8,br8];exact qg _ eP (by simpa using a2) (by simpa using aE),eW.modify _ (fun _=>rfl) (fun e he=>by rw[aE] at he;simp only[ax9] at he;subst he;exact hek.symm)⟩,by rw[hes];simp[e3],eB,fun i p e hi he=>?_⟩;rw[hes,bl9] at hi;rw[bp9] at he;by_cases hji:j=i
   ·subst hji;rw[if_pos rfl] at he;rw[if_pos rfl,if_pos (by rw[e3];exact(bb9.1 a2).1)] at hi;rw[a2] at he;simp at hi he;subst hi;subst he;exact⟨Y,.inl hz⟩
   ·rw[if_neg hji] at hi he;exact⟨(e4 i p e hi he).1,(e4 i p e hi he).2.mono (bB.le_refl _) (ba.le_refl _) (fun _ h=>h) (fun x hx=>hkeep x (eB.1 _ x hx))⟩)
  refine⟨b,cap,.map (some b),en.val,en.born,{ w with heap:=w.heap.setIfInBounds b (.map E clock) },w2,hb,(fun b' h=>⟨hw1 _ b' h,f0 b' h⟩),Y,hy.read r,?_,f1,f2⟩
  have:(Instr.mapEntry T (.map (some b)) kv).run K.P w=.ok (.tuple #[en.val,.int .i64 en.born]) { w with heap:=w.heap.setIfInBounds b (.map (E.modify jE fun e=>{ e with key:=kv }) clock) }:=by
   simp only[Instr.mapEntry,Sem.run_bind,run_underlying (cU hT),Result.andThen_ok,hobj,hK.check _ w kv hg,a1,aE,ba8,bx8,hek,hK.stays w kv hg,hset];rfl
  rw[this,hE1]
end
section
variable{K:cR}{Q:ca}{S:St}
def OR(K:cR)(T:TypeId)(id:Nat)(P:V)(ob:Ob)(c:V):Prop:=∀(m:bB) (β:ba) (w:World) (a:Act) (S:St) (t:Nat),bX K m β w a S->get S.env t=P->ak S.hp id=ob->
 ∃u b cap,ob≠.dead/\β id=some (some (b,cap))/\br m β c u/\∀(w':World) (ρ:Operand->Value) (d:Nat) (ty:TypeId) (pos:String) (after:Array Edge),ρ (.tmp t)=a.tmps.getD t undef->w'.heap[b]? = w.heap[b]?->(execOp ρ ⟨some d,.load T (.tmp t),ty,pos,after,none⟩).run K.P w'=.ok (.value u) w'
theorem FU{T e:TypeId}{id k i o:Nat}{rows:List (List V)}{row:List V}{c:V}(hT:ri K.P T=true)(hr:rows[i]? = some row)(hc:row[o]? = some c)(hd:c.deep=false):OR K T id (.ptr id k i o) (.arr e k rows) c:=by
 intro m β w a S t r hx ho;have h:=r.reads (.tmp t);rw[show evl K S (.tmp t)=get S.env t from rfl,hx] at h;obtain⟨b,cap,hb,hv⟩:=h.ptr_inv;obtain⟨arr,bl,h1,h2,h3,h4,h5,_,h6⟩:=r.obj hb ho;obtain⟨v,a1,a2,_⟩:=h6 i o row c hr hc;refine⟨v,b,cap,by simp,hb,a2.v hd,fun w' ρ d ty pos after hρ hw=>?_⟩;have hv:a.tmps.getD t undef=_:=hv;simp only[execOp,hρ,hv];exact bk (eY hT (by rw[bW (hw.trans h1)];exact a1))
theorem Ik{T e:TypeId}{id k i o n:Nat}{rows:List (List V)}{row cs:List V}(hT:zy K.P T n=true)(hr:rows[i]? = some row)(hc:(row.drop o).take n=cs)(hn:cs.length=n)(hnd:uQ cs=true):OR K T id (.ptr id k i o) (.arr e k rows) (.agg cs):=by
 intro m β w a S t r hx ho;have h:=r.reads (.tmp t);rw[show evl K S (.tmp t)=get S.env t from rfl,hx] at h;obtain⟨b,cap,hb,hv⟩:=h.ptr_inv;obtain⟨arr,bl,h1,h2,h3,h4,h5,_,h6⟩:=r.obj hb ho
 have hcell:∀j c,cs[j]? = some c->∃v,arr[cap.off+(i*k+o)+j]? = some v/\br m β c v:=by
  intro j c hj;have hd:=jv hnd hj;rw[<-hc,bi9] at hj;split at hj
  ·rw[av9] at hj;obtain⟨v,a1,a2,_⟩:=h6 i (o+j) row c hr hj;exact⟨v,by rw[af9,af9];exact a1,a2.v hd⟩
  ·simp at hj
 refine⟨.agg ((List.range n).map fun j=>arr.getD (cap.off+(i*k+o)+j) undef).toArray,b,cap,by simp,hb,.agg (by simp[hn]) (fun j c v hj hv=>?_),fun w' ρ d ty pos after hρ hw=>?_⟩
 ·obtain⟨v',a1,a2⟩:=hcell j c hj;simp only[bh8,az8] at hv;have hj':j<n:=by rw[<-hn];exact(bd9.1 hj).1
  rw[ba9 hj'] at hv;simp only[ba8,ax9] at hv;rw[<-hv];simp[bm8,a1];exact a2
 ·have hv:a.tmps.getD t undef=_:=hv;simp only[execOp,hρ,hv]
  exact bk (fI (P:=K.P) (w:=w') (b:=b) (o:=cap.off+(i*k+o)) (fun j=>arr.getD (cap.off+(i*k+o)+j) undef) hT (fun j hj=>by
   rw[bW (hw.trans h1)];obtain⟨v,a1,_⟩:=hcell j cs[j] (by simp[hn,hj]);rw[a1];simp[bm8,a1]))
structure zH(a0:Act)(L:List (Nat×Nat×Value))(done:Nat->Bool)(a:Act):Prop where
 p1:∀q,q∈L->done q.1=true->a.tmps.getD q.2.1 undef=q.2.2
 p2:∀t,(∀q,q∈L->t≠q.2.1)->a.tmps.getD t undef=a0.tmps.getD t undef
 sz:a.tmps.size=a0.tmps.size
 df:a.defers=a0.defers
theorem zH.put{a0 a:Act}{L:List (Nat×Nat×Value)}{done done':Nat->Bool}(h:zH a0 L done a)(hL:L.Pairwise fun q q'=>q.1≠q'.1/\q.2.1≠q'.2.1){j d:Nat}{u:Value}(hq:(j,d,u)∈L)(hd:d<a0.tmps.size)(hn:∀k,done' k=true->k≠j->done k=true):zH a0 L done' (a.put (some d) u):=by
 have hd':d<a.tmps.size:=by rw[h.sz];exact hd
 have uniq:∀q,q∈L->q.1=j\/q.2.1=d->q=(j,d,u):=by
  intro q hq' e;obtain⟨i,hi,e1⟩:=bj8 hq';obtain⟨i',hi',e2⟩:=bj8 hq;rcases Nat.lt_trichotomy i i' with c|c|c
  ·have:=aw9.1 hL i i' hi hi' c;rw[e1,e2] at this;exact(e.elim this.1 this.2).elim
  ·subst c;rw[<-e1,e2]
  ·have:=aw9.1 hL i' i hi' hi c;rw[e1,e2] at this;exact(e.elim (fun h=>this.1 h.symm) (fun h=>this.2 h.symm)).elim
 refine⟨fun q hq' hdn=>?_,fun t ht=>?_,by simp only[Act.put,Array.size_setIfInBounds];exact h.sz,h.df⟩
 ·rw[rS a d u _ hd'];by_cases e:d=q.2.1
  ·rw[if_pos e,uniq q hq' (.inr e.symm)]
  ·rw[if_neg e];exact h.p1 q hq' (hn _ hdn fun e2=>e (by rw[uniq q hq' (.inl e2)]))
 ·rw[rS a d u t hd',if_neg (Ne.symm (ht _ hq))];exact h.p2 t ht
theorem zH.skip{a0 a:Act}{L:List (Nat×Nat×Value)}{done done':Nat->Bool}(h:zH a0 L done a){j:Nat}(hj:∀q,q∈L->q.1≠j)(hn:∀k,done' k=true->k≠j->done k=true):zH a0 L done' a:=
 ⟨fun q hq hdn=>h.p1 q hq (hn _ hdn (hj q hq)),h.p2,h.sz,h.df⟩
theorem zH.rel{a0 a a':Act}{L:List (Nat×Nat×Value)}{done done':Nat->Bool}(h:zH a0 L done a)(h':zH a0 L done' a')(hd:∀q,q∈L->done q.1=true/\done' q.1=true){m:bB}{β:ba}{w:World}(r:bX K m β w a S):bX K m β w a' S:=by
 have e:∀t,a'.tmps.getD t undef=a.tmps.getD t undef:=by
  intro t;by_cases ht:∃q,q∈L/\t=q.2.1
  ·obtain⟨q,hq,rfl⟩:=ht;rw[h.p1 q hq (hd q hq).1,h'.p1 q hq (hd q hq).2]
  ·have ht:∀q,q∈L->t≠q.2.1:=fun q hq e=>ht ⟨q,hq,e⟩;rw[h.p2 t ht,h'.p2 t ht]
 exact⟨r.imm,r.ext,r.mold,r.frame,r.size,r.same,by rw[h'.sz,<-h.sz];exact r.tn,by rw[h'.df,<-h.df];exact r.df,fun t=>by rw[e];exact r.env t,r.own,r.priv,r.inj,r.hid,r.nx,r.pin⟩
def JY(W:Nat->World)(b2 b4 b5 b7:Bool):World:=if b7=true then W 4 else if b5=true then W 3 else if b4=true then W 2 else if b2=true then W 1 else W 0
structure FlI(a0:Act)(L:List (Nat×Nat×Value))(W:Nat->World)(n:Nat)(ls s:Nat->Bool)(a:Act)(w:World):Prop where
 lo:∀i,ls i=true->s i=true
 p:zH a0 L (fun k=>s (n+k)) a
 cl:(s (n+3)=true->s (n+2)=true)/\(s (n+4)=true->s (n+3)=true/\s (n+1)=true)/\(s (n+5)=true->s (n+4)=true/\s (n+0)=true)/\(s (n+6)=true->s (n+5)=true)/\(s (n+7)=true->s (n+6)=true)
 w:w=JY W (s (n+2)) (s (n+4)) (s (n+5)) (s (n+7))
def fy(x:Operand)(ts:List Nat):Bool:=match x with | .tmp t=>ts.all fun d=>!Nat.beq t d|_=>true
theorem cW{t:Nat}{ts:List Nat}(h:fy (.tmp t) ts=true):∀d,d∈ts->t≠d:=fun d hd e=>by
 have:=aq8.1 h d hd;subst e;simp[aj9] at this
theorem fg.evl{K:cR}{S S':St}{y:Operand}{kv:Value}(h:fg K S y kv)(e:Go.Pv.evl K S' y=Go.Pv.evl K S y):fg K S' y kv:=by
 cases h with
 |con h=>exact .con (e.trans h)
 |agg xs h=>exact .agg xs (e.trans h)
theorem mO{K:cR}{e:cc}{H:aC}{nx d:Nat}{v:V}{ts:List Nat}{x:Operand}(h:fy x ts=true)(hd:d∈ts):evl K ⟨(d,v)::e,H,nx⟩ x=evl K ⟨e,H,nx⟩ x:=by
 cases x with
 |tmp t=>exact(cn e d v t).trans (if_neg (Ne.symm (cW h d hd)))
 |_=>rfl
theorem zH.eval{a0 a:Act}{L:List (Nat×Nat×Value)}{done:Nat->Bool}(h:zH a0 L done a){x:Operand}(hx:fy x (L.map fun q=>q.2.1)=true):a.eval x=a0.eval x:=by
 cases x with
 |tmp t=>exact h.p2 t fun q hq=>cW hx _ (bo8 (f:=fun q:Nat×Nat×Value=>q.2.1) hq)
 |_=>rfl
theorem nc:∀(A B:List OD) (S:St),ef S (A++B)=ef (ef S A) B
 |[],_,_=>rfl
 |D::A,B,S=>nc A B (S.upd D)
theorem lz{α:Type}(p:Nat->Bool):∀(us vs:List (List (Nat×α))) (i:Nat) (e:List (Nat×α)),runs p i (us++vs) e=runs p (i+us.length) vs (runs p i us e)
 |[],_,_,_=>rfl
 |u::us,vs,i,e=>by
  rw[List.cons_append,runs,lz p us vs (i+1),bx9,runs,show i+1+us.length=i+(us.length+1) by omega]
theorem Ix(W:Nat->World)(a b c d:Bool):∃k,JY W a b c d=W k:=by
 unfold JY;split
 ·exact⟨_,Y⟩
 ·split
  ·exact⟨_,Y⟩
  ·split
   ·exact⟨_,Y⟩
   ·split<;>exact⟨_,rfl⟩
set_option maxHeartbeats 4000000 in
theorem drF{s:List It}(n:Nat){rid nx T1 k1 e1 T2 k2 e2 d0 d1 d2 d3 d5 d6 id0 id1 i1 i2 t0 t1:Nat}{Tf0 Tf1:TypeId}{x1 y1 x2 z2:Operand}{good1 good2:Value->Prop}{kv1 kv2 zv1 zv2:Value}{P0 P1 V0 V1 v2:V}{ob0 ob1:Ob}{es1 es2:List (Value×V)}(es1' es2':List (Value×V)){l:List Oper}{env:cc}{hp:aC}{ds:List OD}{E0:cc}{H:aC}
  {ty0 ty1 ty2 ty3 ty4 ty5 ty6 ty7:TypeId} {ps0 ps1 ps2 ps3 ps4 ps5 ps6 ps7:String} {af0 af1 af2 af3 af4 af5 af6 af7:Array Edge} {re0 re1:List (Nat×V)} {rh0 rh1:List (Nat×Ob)}
  (hm:K.P.follows .mixedOrders=true) (h:Dr K (fun _=>True) nx l.toArray (l.take (n+2)) ⟨env,hp,nx⟩ ds ⟨(d1,V1)::(d0,V0)::E0,H,nx⟩) (hn:ds.drop n=[⟨re0,rh0,[(d0,V0)],[]⟩,⟨re1,rh1,[(d1,V1)],[]⟩]) (hok:nR l ds n=true)
  (hl:l.drop n=[⟨some d0,.load Tf0 (.tmp t0),ty0,ps0,af0,none⟩,⟨some d1,.load Tf1 (.tmp t1),ty1,ps1,af1,none⟩,⟨some d2,.mapEntry T1 x1 y1,ty2,ps2,af2,none⟩,⟨some d3,.extract (.tmp d2) 1,ty3,ps3,af3,none⟩,⟨none,.entryStore T1 x1 (.tmp d3) (.tmp d1),ty4,ps4,af4,none⟩,
   ⟨some d5,.mapEntry T2 x2 (.tmp d0),ty5,ps5,af5,none⟩,⟨some d6,.extract (.tmp d5) 1,ty6,ps6,af6,none⟩,⟨none,.entryStore T2 x2 (.tmp d6) z2,ty7,ps7,af7,none⟩])
  (hpr:([(3,2),(4,3),(4,1),(5,4),(5,0),(6,5),(7,6)].all fun q=>match l[n+q.1]? with|some o=>(eZ o).any fun j=>Nat.beq j (n+q.2)|none=>false)=true)
  (hD:([d0,d1,d2,d3,d5,d6].all (fun d=>Nat.blt d K.N)&&fy (.tmp d0) [d1,d2,d3,d5,d6]&&fy (.tmp d1) [d2,d3,d5,d6]&&fy (.tmp d2) [d3,d5,d6]&&fy (.tmp d3) [d5,d6]&&fy (.tmp d5) [d6])=true)
  (hav:(fy (.tmp t0) [d0,d1,d2,d3,d5,d6]&&fy (.tmp t1) [d0,d1,d2,d3,d5,d6]&&fy x1 [d0,d1,d2,d3,d5,d6]&&fy y1 [d0,d1,d2,d3,d5,d6]&&fy x2 [d0,d1,d2,d3,d5,d6]&&fy z2 [d0,d1,d2,d3,d5,d6])=true)
  (hg0:get E0 t0=P0) (ho0:ak H id0=ob0) (hL0:OR K Tf0 id0 P0 ob0 V0) (hg1:get E0 t1=P1) (ho1:ak H id1=ob1) (hL1:OR K Tf1 id1 P1 ob1 V1) (hid:(Nat.beq id0 i1||Nat.beq id0 i2||Nat.beq id1 i1||Nat.beq id1 i2||Nat.beq i1 i2)=false)
  (hT1:eh K.P T1 k1 e1=true) (hK1:ja K.P k1 good1) (hz1:(K.P.info? e1).bind (·.zero)=some zv1) (hx1:evl K ⟨E0,H,nx⟩ x1=.map i1) (hm1:ak H i1=.map es1) (hy1:fg K ⟨(d1,V1)::(d0,V0)::E0,H,nx⟩ y1 kv1) (hgd1:good1 kv1) (hge1:∀p,p∈es1->good1 p.1) (hp1:ic kv1 V1 es1 es1')
  (hT2:eh K.P T2 k2 e2=true) (hK2:ja K.P k2 good2) (hz2:(K.P.info? e2).bind (·.zero)=some zv2) (hx2:evl K ⟨E0,H,nx⟩ x2=.map i2) (hm2:ak H i2=.map es2) (hy2:fg K ⟨(d1,V1)::(d0,V0)::E0,H,nx⟩ (.tmp d0) kv2) (hgd2:good2 kv2) (hge2:∀p,p∈es2->good2 p.1) (hv2:evl K ⟨E0,H,nx⟩ z2=v2) (hp2:ic kv2 v2 es2 es2')
  (kk:WG K Q s ⟨(d6,.any)::(d5,.any)::(d3,.any)::(d2,.any)::(d1,V1)::(d0,V0)::E0,(i2,.map es2')::(i1,.map es1')::H,nx⟩):WG K Q (.c (.region rid l.toArray true)::s) ⟨env,hp,nx⟩:=by
 obtain⟨h1,h2,h3⟩:=h.fin
 have hdl:ds.length=n+2:=by
  have:=congrArg List.length hn;simp only[am8,bx9,bs9] at this;omega
 have hds:ds=ds.take n++[⟨re0,rh0,[(d0,V0)],[]⟩,⟨re1,rh1,[(d1,V1)],[]⟩]:=by rw[<-hn,ch9]
 have htl:(ds.take n).length=n:=by rw[bk9];omega
 have h3':=h3;rw[hds,nc] at h3';generalize hSA:ef ⟨env,hp,nx⟩ (ds.take n)=SA at h3'
 have eE:SA.env=E0:=by
  have:=congrArg St.env h3'
  simpa[ef,St.upd] using this
 have eH:SA.hp=H:=by
  have:=congrArg St.hp h3'
  simpa[ef,St.upd] using this
 have hlx:=wj (ds.take n) ⟨env,hp,nx⟩ 0;rw[hSA] at hlx;refine kV (A:=fun _=>True) ds hm h1 n (by omega) hok (fun _=>trivial) (fun i o D a b=>h2 i o D ?_ b) ?_
 ·have hi:i<ds.length:=(bd9.1 b).1;rw[bi9,if_pos (by omega)];exact a
 intro fuel listed m β w0 a0 hsz hcount hlo hhi r
 have hlen:l.length=n+8:=by
  have:=congrArg List.length hl;rw[am8] at this;simp only[bx9,bs9] at this;omega
 have hat:∀j,l[n+j]? = (l.drop n)[j]?:=by intro j;rw[av9]
 simp only[hl] at hat;generalize hb0':listed.getD (n+0) false=f0 at *;generalize hb1':listed.getD (n+1) false=f1 at *
 -- the state
 have r':bX K m β w0 a0 ⟨(if f1=true then [(d1,V1)] else [])++((if f0=true then [(d0,V0)] else [])++E0),H,nx⟩:=by
  have he:runs (fun i=>listed.getD i false) 0 (ds.map (·.ue)) env=(if f1=true then [(d1,V1)] else [])++((if f0=true then [(d0,V0)] else [])++runs (fun i=>listed.getD i false) 0 ((ds.take n).map (·.ue)) env):=by
   conv=>lhs;rw[hds]
   rw[cm8,lz,bj9,htl,ce9];simp only[runs,bm9,ap8,show listed.getD n false=f0 from hb0',hb1'];cases f0<;>cases f1<;>rfl
  have hh:runs (fun i=>listed.getD i false) 0 (ds.map (·.uh)) hp=runs (fun i=>listed.getD i false) 0 ((ds.take n).map (·.uh)) hp:=by
   conv=>lhs;rw[hds]
   rw[cm8,lz,bj9,htl,ce9];simp only[runs,bm9,ap8,ad9,ite_self]
  have hp':∀{α:Type} {us:List (List (Nat×α))} {j:Nat} {u:List (Nat×α)},us.length=n->us[j]? = some u->true=listed.getD (0+j) false:=fun hl hu=>by
   rw[ce9,hlo _ (by rw[<-hl];exact(bd9.1 hu).1)]
  refine r.congr (fun t=>?_) (fun t=>?_) Y
  ·show get _ t=get (runs _ _ _ _) t
   have hbase:gO V.any E0 t=gO V.any (runs (fun i=>listed.getD i false) 0 ((ds.take n).map (·.ue)) env) t:=by
    rw[<-eE,hlx];exact dM _ _ _ t _ 0 _ _ Y fun j u hu _=>hp' (by rw[bj9,htl]) hu
   rw[he,dW,dW];simp only[eI,hbase]
  ·show ak H t=ak (runs _ _ _ _) t
   rw[hh,dq,dq,<-eH,hlx];exact dM _ _ _ t _ 0 _ _ Y fun j u hu _=>hp' (by rw[bj9,htl]) hu
 simp only[aq9,ag8,List.all_nil,Bool.and_true] at hD hav;obtain⟨⟨⟨⟨⟨⟨k0,k1',k2',k3,k5,k6⟩,n0⟩,n1⟩,n2⟩,n3⟩,n5⟩:=hD;obtain⟨⟨⟨⟨⟨av0,av1⟩,avx1⟩,avy1⟩,avx2⟩,avz2⟩:=hav;simp only[Bool.or_eq_false_iff] at hid;obtain⟨⟨⟨⟨q1,q2⟩,q3⟩,q4⟩,q5⟩:=hid;have q1:=cl9 q1;have q2:=cl9 q2;have q3:=cl9 q3;have q4:=cl9 q4;have q5:=cl9 q5;have d01:=cW n0 d1 (by simp)
 have getS:∀t,t≠d0->t≠d1->get ((if f1=true then [(d1,V1)] else [])++((if f0=true then [(d0,V0)] else [])++E0)) t=get E0 t:=fun t e0 e1=>by
  cases f0<;>cases f1<;>simp[cn,Ne.symm e0,Ne.symm e1]
 -- what the loads yield
 obtain⟨u0,bb0,cap0,dd0,be0,ve0,run0⟩:=hL0 m β w0 a0 _ t0 r' ((getS t0 (cW av0 d0 (by simp)) (cW av0 d1 (by simp))).trans hg0) ho0;obtain⟨u1,bb1,cap1,dd1,be1,ve1,run1⟩:=hL1 m β w0 a0 _ t1 r' ((getS t1 (cW av1 d0 (by simp)) (cW av1 d1 (by simp))).trans hg1) ho1
 obtain⟨U0,hU0,vU0,sU0⟩:∃U0,(f0=true->a0.tmps.getD d0 undef=U0)/\br m β V0 U0/\(f0=false->U0=u0):=by
  cases f0 with
  |true=>
   refine⟨_,fun _=>rfl,?_,fun h=>by cases h⟩;have:=r'.env d0;cases f1<;>simpa[cn,Ne.symm d01] using this
  |false=>exact⟨u0,(fun h=>by cases h),ve0,fun _=>rfl⟩
 obtain⟨U1,hU1,vU1,sU1⟩:∃U1,(f1=true->a0.tmps.getD d1 undef=U1)/\br m β V1 U1/\(f1=false->U1=u1):=by
  cases f1 with
  |true=>
   refine⟨_,fun _=>rfl,?_,fun h=>by cases h⟩;have:=r'.env d1
   simpa[cn] using this
  |false=>exact⟨u1,(fun h=>by cases h),ve1,fun _=>rfl⟩
 -- one behind the other
 have r1:bX K m β w0 ((a0.put (some d0) U0).put (some d1) U1) ⟨(d1,V1)::(d0,V0)::E0,H,nx⟩:=by
  refine((r'.put k0 vU0).put k1' vU1).congr (fun t=>?_) (fun t=>Y) Y
  show get ((d1,V1)::(d0,V0)::E0) t=get ((d1,V1)::(d0,V0)::_) t
  simp only[cn];by_cases e1:d1=t
  ·rw[if_pos e1,if_pos e1]
  ·rw[if_neg e1,if_neg e1];by_cases e0:d0=t
   ·rw[if_pos e0,if_pos e0]
   ·rw[if_neg e0,if_neg e0,getS t (Ne.symm e0) (Ne.symm e1)]
 obtain⟨B1,cp1,mv1,g1,st1,w1,w2,hb1,hf1,ex1,ey1,hr1,hs1,r2⟩:=vc r1 hT1 hK1 hz1 (by rw[mO avx1 (by simp),mO avx1 (by simp)];exact hx1) hm1 hy1 hgd1 hge1 vU1 es1' hp1;have r3:=(r2.put k2' (.imm (.any (.tuple #[g1,.int .i64 st1])))).put k3 (.imm (.any (.int .i64 st1)));have hm2':ak ((i1,Ob.map es1')::H) i2=.map es2:=by rw[av,if_neg q5];exact hm2
 have ev4:∀(x:Operand) (H':aC),fy x [d0,d1,d2,d3,d5,d6]=true->evl K ⟨(d3,.any)::(d2,.any)::(d1,V1)::(d0,V0)::E0,H',nx⟩ x=evl K ⟨E0,H,nx⟩ x:=fun x H' hx=>by
  rw[mO hx (by simp),mO hx (by simp),mO hx (by simp),mO hx (by simp)];cases x<;>rfl
 have hv2':br m β (evl K ⟨(d3,.any)::(d2,.any)::(d1,V1)::(d0,V0)::E0,(i1,.map es1')::H,nx⟩ z2) _:=r3.reads z2;rw[ev4 z2 _ avz2,hv2] at hv2'
 obtain⟨B2,cp2,mv2,g2,st2,w3,w4,hb2,hf2,ex2,ey2,hr2,hs2,r4⟩:=vc r3 hT2 hK2 hz2 ((ev4 x2 _ avx2).trans hx2) hm2' (hy2.evl (by
  show get ((d3,_)::(d2,_)::(d1,V1)::(d0,V0)::E0) d0=get ((d1,V1)::(d0,V0)::E0) d0
  rw[cn,if_neg (Ne.symm (cW n0 d3 (by simp))),cn,if_neg (Ne.symm (cW n0 d2 (by simp)))])) hgd2 hge2 hv2' es2' hp2
 have r5:=(r4.put k5 (.imm (.any (.tuple #[g2,.int .i64 st2])))).put k6 (.imm (.any (.int .i64 st2)))
 -- the slots
 obtain⟨L,hL⟩:∃L:List (Nat×Nat×Value),L=[(0,d0,U0),(1,d1,U1),(2,d2,.tuple #[g1,.int .i64 st1]),(3,d3,.int .i64 st1),(5,d5,.tuple #[g2,.int .i64 st2]),(6,d6,.int .i64 st2)]:=⟨_,rfl⟩;have hLd:(L.map fun q=>q.2.1)=[d0,d1,d2,d3,d5,d6]:=by rw[hL];rfl
 have hpw:L.Pairwise fun q q'=>q.1≠q'.1/\q.2.1≠q'.2.1:=by
  rw[hL];have m0:=cW n0;have m1:=cW n1;have m2:=cW n2;have m3:=cW n3;have m5:=cW n5;simp only[as9,List.not_mem_nil,or_false,forall_eq_or_imp,forall_eq] at m0 m1 m2 m3 m5;simp[m0,m1,m2,m3,m5]
 have sz:∀{d:Nat},Nat.blt d K.N=true->d<a0.tmps.size:=fun h=>by rw[r'.tn];exact ax8 h
 have hbig:∀k,2<=k->listed.getD (n+k) false=false:=fun k hk=>hhi (n+k) (by omega)
 have P0:zH a0 L (fun k=>listed.getD (n+k) false) a0:=by
  refine⟨fun q hq hd=>?_,fun _ _=>Y,Y,Y⟩;rw[hL] at hq;simp only[as9,List.not_mem_nil,or_false] at hq;rcases hq with rfl|rfl|rfl|rfl|rfl|rfl
  ·exact hU0 (hb0'.symm.trans hd)
  ·exact hU1 (hb1'.symm.trans hd)
  all_goals exact absurd (hd.symm.trans (hbig _ (by simp))) (by decide)
 have P1:=(P0.put hpw (done':=fun k=>k==0||listed.getD (n+k) false) (show(0,d0,U0)∈L by rw[hL];simp) (sz k0) (fun k h e=>by simpa[e] using h)).put hpw (done':=fun k=>k==1||k==0||listed.getD (n+k) false) (show(1,d1,U1)∈L by rw[hL];simp) (sz k1') (fun k h e=>by simpa[e] using h);have P2:=(P1.put hpw (done':=fun k=>k==2||k==1||k==0||listed.getD (n+k) false) (show(2,d2,Value.tuple #[g1,.int .i64 st1])∈L by rw[hL];simp) (sz k2') (fun k h e=>by simpa[e] using h)).put hpw (done':=fun k=>k==3||k==2||k==1||k==0||listed.getD (n+k) false) (show(3,d3,Value.int .i64 st1)∈L by rw[hL];simp) (sz k3) (fun k h e=>by simpa[e] using h);have P3:=(P2.put hpw (done':=fun k=>k==5||k==3||k==2||k==1||k==0||listed.getD (n+k) false) (show(5,d5,Value.tuple #[g2,.int .i64 st2])∈L by rw[hL];simp) (sz k5) (fun k h e=>by simpa[e] using h)).put hpw (done':=fun k=>k==6||k==5||k==3||k==2||k==1||k==0||listed.getD (n+k) false) (show(6,d6,Value.int .i64 st2)∈L by rw[hL];simp) (sz k6) (fun k h e=>by simpa[e] using h);rw[P1.eval (by rw[hLd];exact avx1)] at ex1;rw[P1.eval (by rw[hLd];exact avy1)] at ey1;rw[P2.eval (by rw[hLd];exact avx2)] at ex2;rw[P2.eval (by rw[hLd];exact avz2)] at hs2;have ey2:U0=kv2:=by rw[<-ey2];exact(P2.p1 (0,d0,U0) (by rw[hL];simp) (by simp)).symm
 -- the worlds
 obtain⟨W,hW⟩:∃W:Nat->World,W=fun k=>match k with|0=>w0|1=>w1|2=>w2|3=>w3|_=>w4:=⟨_,rfl⟩
 have ne1:∀{id b cap},ak H id≠.dead->β id=some (some (b,cap))->id≠i1->id≠i2->b≠B1/\b≠B2:=fun {id b cap} hd hb e1 e2=>
  ⟨fun e=>e1 (r'.inj id i1 b cap cp1 hd (by show ak H i1≠_;rw[hm1];simp) hb (by rw[hb1,e])),fun e=>e2 (r'.inj id i2 b cap cp2 hd (by show ak H i2≠_;rw[hm2];simp) hb (by rw[hb2,e]))⟩
 have hWk:∀k b,b≠B1->b≠B2->(W k).heap[b]? = w0.heap[b]?:=fun k b e1 e2=>by
  rw[hW];have a1:=hf1 b e1;have a2:=hf2 b e2
  match k with
  |0=>rfl
  |1=>exact a1.1
  |2=>exact a1.2
  |3=>exact a2.1.trans a1.2
  |k+4=>exact a2.2.trans a1.2
 have wn:∀(o:Oper) (a:Act),o.guard=none->Region.wanted o (yielded l.toArray a.tmps)=true:=by
  intro o a hg;obtain⟨_,_,_,_,_,gg⟩:=o;have hg:gg=none:=hg;subst hg;rfl
 have hpre:∀(i:Nat) (o:Oper),l[i]? = some o->∀j,j∈eZ o->j<i:=by
  intro i o hi j hj;simp only[nR,aq9,aq8,cl8] at hok;have:=(hok.2 i (bd9.1 hi).1).1;rw[hi] at this;exact ax8 (aq8.1 this j hj)
 have hpd:∀{i j o},l[n+i]? = some o->(i,j)∈[(3,2),(4,3),(4,1),(5,4),(5,0),(6,5),(7,6)]->n+j∈eZ o:=fun {i j o} ho hij=>by
  have:=aq8.1 hpr (i,j) hij;dsimp only at this;rw[ho] at this;obtain⟨k,hk,e⟩:=cf9.1 this;rw[<-ci9 e];exact hk
 refine Cr (FlI a0 L W n fun i=>listed.getD i false) hpre ?_ ?_ fuel listed a0 w0 hsz hcount ?_
 ·intro sx i o a w K' hi hsi hpr' I hK';obtain⟨Ilo,Ip,⟨c3,c4,c5,c6,c7⟩,Iw⟩:=I
  have hin:n<=i:=by
   rcases bs8 i n with h|h
   ·rw[Ilo i (hlo i h)] at hsi;cases hsi
   ·exact h
  have hil:i<n+8:=by rw[<-hlen];exact(bd9.1 hi).1
  obtain⟨j,rfl⟩:∃j,i=n+j:=⟨i - n,by omega⟩;have hi':=hi;rw[hat j] at hi;obtain⟨kw,hkw⟩:=Ix W (sx (n+2)) (sx (n+4)) (sx (n+5)) (sx (n+7))
  have es:∀k,(fun j'=>if j'=n+j then true else sx j') (n+k)=if k=j then true else sx (n+k):=fun k=>by
   by_cases e:k=j
   ·subst e;simp
   ·simp[e]
  have up:∀(a':Act) (w':World),zH a0 L (fun k=>if k=j then true else sx (n+k)) a'->(∀b:Nat->Bool,(b=fun k=>if k=j then true else sx (n+k))->((b 3=true->b 2=true)/\(b 4=true->b 3=true/\b 1=true)/\(b 5=true->b 4=true/\b 0=true)/\(b 6=true->b 5=true)/\(b 7=true->b 6=true))/\w'=JY W (b 2) (b 4) (b 5) (b 7))->K' a' w':=by
   intro a' w' hP hb;refine hK' a' w' ⟨fun q hq=>by simp[Ilo q hq],?_,?_,?_⟩
   ·have:(fun k=>(fun j'=>if j'=n+j then true else sx j') (n+k))=fun k=>if k=j then true else sx (n+k):=funext es;rw[this];exact hP
   ·simp only[es];exact(hb _ Y).1
   ·simp only[es];exact(hb _ Y).2
  have pv:∀{u:Value} {d:Nat},(j,d,u)∈L->d<a0.tmps.size->zH a0 L (fun k=>if k=j then true else sx (n+k)) (a.put (some d) u):=fun hq hd=>Ip.put hpw hq hd fun k hk e=>by simpa[e] using hk
  have ps:(∀q,q∈L->q.1≠j)->zH a0 L (fun k=>if k=j then true else sx (n+k)) a:=fun hq=>Ip.skip hq fun k hk e=>by simpa[e] using hk
  unfold wpOpIn;rw[bh8,hi']
  show(if _ then _ else _)
  match j,hil with
  |0,_=>
   simp only[bo9,ax9] at hi;subst hi;rw[if_pos (wn _ a rfl)];refine fY (.inr (fun c h=>by cases h)) ?_;unfold Oper.wp
   have hf:f0=false:=by
    cases hf:f0 with
    |false=>rfl
    |true=>rw[Ilo (n+0) (hb0'.trans hf)] at hsi;cases hsi
   have hr:(execOp a.eval ⟨some d0,.load Tf0 (.tmp t0),ty0,ps0,af0,none⟩).run K.P w=.ok (.value U0) w:=by
    have hne:=ne1 (show ak H id0≠.dead by rw[ho0];exact dd0) be0 q1 q2;rw[Iw,hkw,sU0 hf];exact run0 (W kw) a.eval d0 ty0 ps0 af0 (Ip.eval (x:=.tmp t0) (by rw[hLd];exact av0)) (hWk kw bb0 hne.1 hne.2)
   rw[hr]
   show K' (a.put (some d0) U0) w
   refine up _ _ (pv (by rw[hL];simp) (sz k0)) (fun b hb=>?_);subst hb;exact⟨⟨c3,c4,fun h=>⟨(c5 h).1,Y⟩,c6,c7⟩,Iw⟩
  |1,_=>
   simp only[bt9,bo9,ax9] at hi;subst hi;rw[if_pos (wn _ a rfl)];refine fY (.inr (fun c h=>by cases h)) ?_;unfold Oper.wp
   have hf:f1=false:=by
    cases hf:f1 with
    |false=>rfl
    |true=>rw[Ilo (n+1) (hb1'.trans hf)] at hsi;cases hsi
   have hr:(execOp a.eval ⟨some d1,.load Tf1 (.tmp t1),ty1,ps1,af1,none⟩).run K.P w=.ok (.value U1) w:=by
    have hne:=ne1 (show ak H id1≠.dead by rw[ho1];exact dd1) be1 q3 q4;rw[Iw,hkw,sU1 hf];exact run1 (W kw) a.eval d1 ty1 ps1 af1 (Ip.eval (x:=.tmp t1) (by rw[hLd];exact av1)) (hWk kw bb1 hne.1 hne.2)
   rw[hr]
   show K' (a.put (some d1) U1) w
   refine up _ _ (pv (by rw[hL];simp) (sz k1')) (fun b hb=>?_);subst hb;exact⟨⟨c3,fun h=>⟨(c4 h).1,Y⟩,c5,c6,c7⟩,Iw⟩
  |2,_=>
   simp only[bt9,bo9,ax9] at hi;subst hi;rw[if_pos (wn _ a rfl)];refine fY (.inr (fun c h=>by cases h)) ?_;unfold Oper.wp;have s3:sx (n+3)=false:=by grind
   have s4:sx (n+4)=false:=by grind
   have s5:sx (n+5)=false:=by grind
   have s7:sx (n+7)=false:=by grind
   have hw:w=w0:=by rw[Iw,hsi,s4,s5,s7,hW];rfl
   have hr:(execOp a.eval ⟨some d2,.mapEntry T1 x1 y1,ty2,ps2,af2,none⟩).run K.P w=.ok (.value (.tuple #[g1,.int .i64 st1])) w1:=by
    unfold execOp;simp only[Ip.eval (x:=x1) (by rw[hLd];exact avx1),Ip.eval (x:=y1) (by rw[hLd];exact avy1),ex1,ey1];rw[hw,Sem.run_bind,hr1];rfl
   rw[hr]
   show K' (a.put (some d2) _) w1
   refine up _ _ (pv (by rw[hL];simp) (sz k2')) (fun b hb=>?_);subst hb;refine⟨⟨fun _=>Y,c4,c5,c6,c7⟩,?_⟩
   show w1=JY W true (sx (n+4)) (sx (n+5)) (sx (n+7))
   rw[s4,s5,s7,hW];rfl
  |3,_=>
   simp only[bt9,bo9,ax9] at hi;subst hi;rw[if_pos (wn _ a rfl)];refine fY (.inr (fun c h=>by cases h)) ?_;unfold Oper.wp;have s2:sx (n+2)=true:=hpr' (n+2) (hpd hi' (by simp));have hv:=Ip.p1 (2,d2,Value.tuple #[g1,.int .i64 st1]) (by rw[hL];simp) s2
   have hr:(execOp a.eval ⟨some d3,.extract (.tmp d2) 1,ty3,ps3,af3,none⟩).run K.P w=.ok (.value (.int .i64 st1)) w:=by
    unfold execOp;simp only[show a.eval (.tmp d2)=_ from hv];exact bk Y
   rw[hr]
   show K' (a.put (some d3) _) w
   refine up _ _ (pv (by rw[hL];simp) (sz k3)) (fun b hb=>?_);subst hb;exact⟨⟨fun _=>s2,fun h=>⟨Y,(c4 h).2⟩,c5,c6,c7⟩,Iw⟩
  |4,_=>
   simp only[bt9,bo9,ax9] at hi;subst hi;rw[if_pos (wn _ a rfl)];refine fY (.inr (fun c h=>by cases h)) ?_;unfold Oper.wp;have s3:sx (n+3)=true:=hpr' (n+3) (hpd hi' (by simp));have s1:sx (n+1)=true:=hpr' (n+1) (hpd hi' (by simp));have s2:=c3 s3;have s5:sx (n+5)=false:=by grind
   have s7:sx (n+7)=false:=by grind
   have hw:w=w1:=by rw[Iw,s2,hsi,s5,s7,hW];rfl
   have hv:=Ip.p1 (3,d3,Value.int .i64 st1) (by rw[hL];simp) s3;have hu:=Ip.p1 (1,d1,U1) (by rw[hL];simp) s1
   have hr:(execOp a.eval ⟨none,.entryStore T1 x1 (.tmp d3) (.tmp d1),ty4,ps4,af4,none⟩).run K.P w=.ok .skip w2:=by
    unfold execOp;simp only[Ip.eval (x:=x1) (by rw[hLd];exact avx1),ex1,show a.eval (.tmp d3)=_ from hv,show a.eval (.tmp d1)=_ from hu];rw[hw,Sem.run_bind,hs1];rfl
   rw[hr]
   show K' a w2
   refine up _ _ (ps (by rw[hL];simp)) (fun b hb=>?_);subst hb;refine⟨⟨c3,fun _=>⟨s3,s1⟩,fun h=>⟨Y,(c5 h).2⟩,c6,c7⟩,?_⟩
   show w2=JY W (sx (n+2)) true (sx (n+5)) (sx (n+7))
   rw[s2,s5,s7,hW];rfl
  |5,_=>
   simp only[bt9,bo9,ax9] at hi;subst hi;rw[if_pos (wn _ a rfl)];refine fY (.inr (fun c h=>by cases h)) ?_;unfold Oper.wp;have s4:sx (n+4)=true:=hpr' (n+4) (hpd hi' (by simp));have s0:sx (n+0)=true:=hpr' (n+0) (hpd hi' (by simp));have s7:sx (n+7)=false:=by grind
   have hw:w=w2:=by rw[Iw,s4,hsi,s7,hW];rfl
   have hu:=Ip.p1 (0,d0,U0) (by rw[hL];simp) s0
   have hr:(execOp a.eval ⟨some d5,.mapEntry T2 x2 (.tmp d0),ty5,ps5,af5,none⟩).run K.P w=.ok (.value (.tuple #[g2,.int .i64 st2])) w3:=by
    unfold execOp;simp only[Ip.eval (x:=x2) (by rw[hLd];exact avx2),ex2,show a.eval (.tmp d0)=_ from hu,ey2];rw[hw,Sem.run_bind,hr2];rfl
   rw[hr]
   show K' (a.put (some d5) _) w3
   refine up _ _ (pv (by rw[hL];simp) (sz k5)) (fun b hb=>?_);subst hb;refine⟨⟨c3,c4,fun _=>⟨s4,s0⟩,fun _=>Y,c7⟩,?_⟩
   show w3=JY W (sx (n+2)) (sx (n+4)) true (sx (n+7))
   rw[s7,hW];rfl
  |6,_=>
   simp only[bt9,bo9,ax9] at hi;subst hi;rw[if_pos (wn _ a rfl)];refine fY (.inr (fun c h=>by cases h)) ?_;unfold Oper.wp;have s5:sx (n+5)=true:=hpr' (n+5) (hpd hi' (by simp));have hv:=Ip.p1 (5,d5,Value.tuple #[g2,.int .i64 st2]) (by rw[hL];simp) s5
   have hr:(execOp a.eval ⟨some d6,.extract (.tmp d5) 1,ty6,ps6,af6,none⟩).run K.P w=.ok (.value (.int .i64 st2)) w:=by
    unfold execOp;simp only[show a.eval (.tmp d5)=_ from hv];exact bk Y
   rw[hr]
   show K' (a.put (some d6) _) w
   refine up _ _ (pv (by rw[hL];simp) (sz k6)) (fun b hb=>?_);subst hb;exact⟨⟨c3,c4,c5,fun _=>s5,fun _=>Y⟩,Iw⟩
  |7,_=>
   simp only[bt9,bo9,ax9] at hi;subst hi;rw[if_pos (wn _ a rfl)];refine fY (.inr (fun c h=>by cases h)) ?_;unfold Oper.wp;have s6:sx (n+6)=true:=hpr' (n+6) (hpd hi' (by simp));have s5:=c6 s6;have hw:w=w3:=by rw[Iw,s5,hsi,hW];rfl
   have hv:=Ip.p1 (6,d6,Value.int .i64 st2) (by rw[hL];simp) s6
   have hr:(execOp a.eval ⟨none,.entryStore T2 x2 (.tmp d6) z2,ty7,ps7,af7,none⟩).run K.P w=.ok .skip w4:=by
    unfold execOp;simp only[Ip.eval (x:=x2) (by rw[hLd];exact avx2),Ip.eval (x:=z2) (by rw[hLd];exact avz2),ex2,show a.eval (.tmp d6)=_ from hv];rw[hw,Sem.run_bind,hs2];rfl
   rw[hr]
   show K' a w4
   refine up _ _ (ps (by rw[hL];simp)) (fun b hb=>?_);subst hb;refine⟨⟨c3,c4,c5,c6,fun _=>s6⟩,?_⟩
   show w4=JY W (sx (n+2)) (sx (n+4)) (sx (n+5)) true
   rw[hW];rfl
  |j+8,h=>omega
 ·intro sx a w hall I;obtain⟨Ilo,Ip,_,Iw⟩:=I;have hw:w=w4:=by rw[Iw,hall (n+7) (by omega),hW];rfl
  rw[hw];refine⟨Y,_,m,β,kk,P3.rel Ip (fun q hq=>?_) r5⟩;rw[hL] at hq;have hk:∀k,k<8->sx (n+k)=true:=fun k hk=>hall (n+k) (by omega);simp only[as9,List.not_mem_nil,or_false] at hq;rcases hq with rfl|rfl|rfl|rfl|rfl|rfl<;>exact⟨rfl,hk _ (by simp)⟩
 ·have hz:∀k,2<=k->listed.getD (n+k) false=true->False:=fun k hk h=>by rw[hbig k hk] at h;cases h
  refine⟨fun i h=>h,P0,⟨fun h=>(hz 3 (by omega) h).elim,fun h=>(hz 4 (by omega) h).elim,fun h=>(hz 5 (by omega) h).elim,fun h=>(hz 6 (by omega) h).elim,fun h=>(hz 7 (by omega) h).elim⟩,?_⟩;rw[hbig 2 (by omega),hbig 4 (by omega),hbig 5 (by omega),hbig 7 (by omega),hW];rfl
end
section
variable{K:cR}{S:St}
variable{m:bB}{β:ba}{w:World}{a:Act}
theorem Gy{B:Nat->Prop}{e:Nat}{row:List V}{v:Value}{id0:Nat}(h:gu m w B (.dpt e row) v):
  ∃(loc:Option (Nat×ol)) (Bn:Nat->Prop),(∀β':ba,β' id0=some loc->br m β' (.ptr id0 row.length 0 0) v)/\(∀x,Bn x->B x)/\(∀b' c',loc=some (b',c')->B b'/\¬Bn b')/\∀β':ba,bn m β' w Bn (some loc) (.arr e row.length [row]):=by
 cases h with
 |imm h=>cases h
 | @pt _ b n off _ _ arr bl f hb hbb hB hw hs hn hcap hf h=>
  refine⟨some (b,⟨n,off⟩),fun x=>∃p,bl p x,fun β' h=>?_,fun x ⟨p,hx⟩=>hB.1 p x hx,fun b2 c2 h=>?_,fun β'=>?_⟩
  ·have:=br.ptr (m:=m) (k:=row.length) (i:=0) (off:=0) h
   grind
  ·grind
  ·refine⟨arr,bl,hw,hs,by grind,hcap,by simp,⟨fun p x hx=>⟨p,hx⟩,hB.2⟩,fun i2 j2 row2 c2 h1 h2=>?_⟩;cases i2 with
   |succ i2=>simp at h1
   |zero=>
    simp only[bo9,ax9] at h1;subst h1;obtain⟨f1,f2⟩:=hf j2 c2 h2;simp only[Nat.zero_mul,ce9];exact⟨_,f1,.inr (h j2 c2 h2),f2⟩
theorem AJ(r:bX K m β w a S){e k id2:Nat}{row:List V}{v:Value}(ho2:ak S.hp id2=.arr e k [row])(hkp:i5 row)(hv:br m β (.ptr id2 k 0 0) v):
  gu m w (fun x=>β.hid id2 x\/∃c,β id2=some (some (x,c))) (.dpt e row) v:=by
 have hl2:ak S.hp id2≠.dead:=by rw[ho2];simp
 have hown2:=r.own id2;rw[ho2] at hown2;cases hv with
 |imm h=>cases h
 | @ptr _ _ _ _ b2 cap2 hb2=>
  rw[hb2] at hown2;obtain⟨arr2,bl2,p1,p2,p3,p4,p5,p6,p7⟩:=hown2;have hk:=p5 row (by simp);have e1:Value.pointer (some ⟨b2,cap2.off+(0*k+0),none⟩)=.pointer (some ⟨b2,cap2.off,none⟩):=by simp
  rw[e1]
  have g:∀(j:Nat) (c:V),row[j]? = some c->∃v,arr2[cap2.off+j]? = some v/\eU m β w (bl2 j) c v/\v.oneCell'=true:=fun j c hj=>by
   have:=p7 0 j row c rfl hj
   grind
  refine .pt (n:=cap2.n) bl2 (fun p=>arr2.getD (cap2.off+p) undef) (.inr ⟨cap2,hb2⟩) (fun p hx=>?_) ⟨fun p x hx=>.inl (p6.1 p x hx),p6.2⟩ p1 (by grind) (by grind) p4 (fun j c hj=>?_) (fun j c hj=>?_)
  ·exact(r.hid id2 b2 hl2 (p6.1 p b2 hx)).ne id2 b2 cap2 hl2 hb2 Y
  ·obtain⟨u,u1,_,u3⟩:=g j c hj<;>simp_all
  ·obtain⟨u,u1,u2,_⟩:=g j c hj;have:arr2.getD (cap2.off+j) undef=u:=by simp[bm8,u1]
   simp only[this];rcases u2 with h|h
   ·exact .imm (hkp c (ay9 hj) _ _ _ h)
   ·exact h
theorem wC(id i nx:Nat){es:List (Value×V)}{kv:Value}{e:Nat}{row:List V}(ho:ak S.hp id=.map es)(hi:es[i]? = some (kv,.dpt e row))(hnx:S.nx=nx):
  aY K S ⟨S.env,(id,.map (es.set i (kv,.ptr nx row.length 0 0)))::(nx,.arr e row.length [row])::S.hp,nx+1⟩:=by
 subst hnx;intro m β w a r;have hfree:β S.nx=none:=r.nx _ (ae9 _);have hl0:ak S.hp id≠.dead:=by rw[ho];simp
 obtain⟨b,cap,hb⟩:=mG r ho;have hne0:id≠S.nx:=fun h=>by grind
 have hown:=r.own id;rw[ho,hb] at hown;obtain⟨ents,clock,bl,q1,q2,q6,q7⟩:=hown;have hlt:i<ents.size:=by rw[<-q2];exact(bd9.1 hi).1
 obtain⟨v1,v2⟩:=q7 i _ ents[i] hi (bb8 hlt);generalize hv:ents[i].val=v at v2;obtain⟨loc,Bn,hvr,hBn,hloc,hobj⟩:=Gy (vd rfl v2)
 obtain⟨m',β',rr⟩:=r.takeG S.nx (S.nx+1) hfree (fun q hq e=>by have:=(r.pin q hq).1;omega) (ak8 _) (al9 _) hl0 hne0 (bl i) Bn loc (.map (es.set i (kv,.ptr S.nx row.length 0 0))) (.arr e row.length [row]) (fun x hx=>q6.1 _ x hx) hBn hloc hobj (fun β' hle en=>by
  rw[hb];refine⟨ents,clock,fun p=>if p=i then (fun _=>False) else bl p,q1,by grind,⟨fun p x hx=>?_,fun p p' x hx hx'=>?_⟩,fun i2 p2 en2 h1 h2=>?_⟩
  ·dsimp only at hx;split at hx
   ·grind
   ·rename_i hne;exact⟨q6.1 p x hx,fun h=>hne (q6.2 _ _ x hx h)⟩
  ·dsimp only at hx hx';split at hx
   ·grind
   ·split at hx'
    ·grind
    ·exact q6.2 _ _ x hx hx'
  ·rw[bl9] at h1;by_cases e2:i=i2
   ·subst e2;rw[if_pos rfl,if_pos (by grind)] at h1;simp only[ax9] at h1;subst h1;rw[bb8 hlt,ax9] at h2;subst h2;exact⟨v1,.inl (by rw[hv];exact hvr β' en)⟩
   ·rw[if_neg e2] at h1;obtain⟨u1,u2⟩:=q7 i2 p2 en2 h1 h2;refine⟨u1,?_⟩
    show eU _ _ _ (if _ then _ else _) _ _
    rw[if_neg (Ne.symm e2)];exact u2.mono (bB.le_refl _) hle (fun _ h=>h) (fun _ _=>Y))
 grind
theorem sK(id i id2:Nat){es:List (Value×V)}{kv:Value}{e k:Nat}{row:List V}(ho:ak S.hp id=.map es)(hi:es[i]? = some (kv,.ptr id2 k 0 0))(ho2:ak S.hp id2=.arr e k [row])(hne:Nat.beq id id2=false)(hkp:i5 row):
  aY K S ⟨S.env,(id,.map (es.set i (kv,.dpt e row)))::(id2,.dead)::S.hp,S.nx⟩:=by
 have hne:id≠id2:=fun h=>by grind
 intro m β w a r;have hl0:ak S.hp id≠.dead:=by rw[ho];simp
 have hl2:ak S.hp id2≠.dead:=by rw[ho2];simp
 obtain⟨b,cap,hb⟩:=mG r ho;have hown:=r.own id;rw[ho,hb] at hown;obtain⟨ents,clock,bl,q1,q2,q6,q7⟩:=hown;have hlt:i<ents.size:=by rw[<-q2];exact(bd9.1 hi).1
 obtain⟨v1,v2⟩:=q7 i _ ents[i] hi (bb8 hlt);have v2:=v2.v rfl;have hd:=AJ r ho2 hkp v2
 let Bn:Nat->Prop:=fun x=>β.hid id2 x\/∃c,β id2=some (some (x,c))
 have hBd:∀x,Bn x->¬β.hid id x:=by
  intro x hx hh;rcases hx with hx|⟨c,hx⟩
  ·exact hne ((r.hid id2 x hl2 hx).un id hl0 hh)
  ·exact(r.hid id x hl0 hh).ne id2 x c hl2 hx Y
 obtain⟨m',β',rr⟩:=r.untake hl0 hl2 hne (.map (es.set i (kv,.dpt e row))) (fun β' hle=>by
  rw[hb];refine⟨ents,clock,fun p=>if p=i then Bn else bl p,q1,by grind,⟨fun p x hx=>?_,fun p p' x hx hx'=>?_⟩,fun i2 p2 en2 h1 h2=>?_⟩
  ·dsimp only at hx;split at hx
   ·grind
   ·exact .inl (q6.1 p x hx)
  ·dsimp only at hx hx';split at hx<;>split at hx'
   ·grind
   ·exact absurd (q6.1 _ x hx') (hBd x hx)
   ·exact absurd (q6.1 _ x hx) (hBd x hx')
   ·exact q6.2 _ _ x hx hx'
  ·rw[bl9] at h1;by_cases e2:i=i2
   ·subst e2;rw[if_pos rfl,if_pos (by grind)] at h1;simp only[ax9] at h1;subst h1;rw[bb8 hlt,ax9] at h2;subst h2;refine⟨v1,?_⟩
    show eU _ _ _ (if _ then _ else _) _ _
    rw[if_pos rfl];exact .inr hd
   ·rw[if_neg e2] at h1;obtain⟨u1,u2⟩:=q7 i2 p2 en2 h1 h2;refine⟨u1,?_⟩
    show eU _ _ _ (if _ then _ else _) _ _
    rw[if_neg (Ne.symm e2)];exact u2.mono (bB.le_refl _) hle (fun _ h=>h) (fun _ _=>Y))
 grind
end
def ju{τ:Type}(enc:τ->Value×V):Option (List τ)->V
 |none=>.con (.map none)
 |some l=>.imap (l.map enc)
theorem dh{τ:Type}{enc:τ->Value×V}:∀o:Option (List τ),aw (ju enc o)
 |none=>aw.con _
 |some _=>aw.imap _
theorem Ff{τ:Type}{enc:τ->Value×V}:∀o:Option (List τ),dF (ju enc o)=true
 |none=>rfl
 |some _=>rfl
theorem pG{τ:Type}{enc:τ->Value×V}:∀o:Option (List τ),(ju enc o).deep=false
 |none=>rfl
 |some _=>rfl
section
variable{K:cR}{Q:ca}{S:St}
variable{ops:Array Oper}{rest:List Oper}{ty:TypeId}{pos:String}{after:Array Edge}{g:Option (Nat×Bool)}
theorem qo{τ:Type}{enc:τ->Value×V}{o:Option (List τ)}{d:Nat}{x y:Operand}{T T':TypeId}(hT:xO K.P T=true)(hw:aN ops S ⟨some d,.binOp .eql T x y T',ty,pos,after,g⟩ true)
  (hx:evl K S x=ju enc o) (hy:evl K S y=.con (.map none)) (hN:Nat.blt d K.N=true)
  (k:ay K ops rest Q (S.put d (.con (.bool o.isNone)))):ay K ops (⟨some d,.binOp .eql T x y T',ty,pos,after,g⟩::rest) Q S:=
 aX _ hw hN (fun m β w a r=>by
  have h:=r.reads x;rw[hx] at h
  have key:∃q,a.eval x=.map q/\q.isNone=o.isNone:=by
   cases o with
   |none=>exact⟨none,h.of_con,rfl⟩
   |some l=>
    generalize a.eval x=u at h;cases h with
    |imm h=>cases h with|imap=>grind
  obtain⟨q,ho,hb⟩:=key;have hr:=rY (P:=K.P) (w:=w) (x:=x) (y:=y) false hT q;refine⟨.bool o.isNone,?_,.imm (.con _)⟩;simp only[execOp,ho,r.con hy]
  grind [bk]) k
theorem w5{κ τ:Type}{enc:κ×τ->Value×V}{ev:τ->V}{o:Option (List (κ×τ))}{d:Nat}{T k e:TypeId}{x y:Operand}{good:Value->Prop}{kv zv:Value}(rs:Option τ)(zd dv:V)(hT:eh K.P T k e=true)(hK:ja K.P k good)
  (hz:(K.P.info? e).bind (·.zero)=some zv) (hzd:∀m,bN m zd zv)
  (hw:aN ops S ⟨some d,.lookup T x y false,ty,pos,after,g⟩ true) (hx:evl K S x=ju enc o) (hy:fg K S y kv) (hg:good kv) (hges:∀p,p∈(o.getD []).map enc->good p.1)
  (hl:i4 kv ((o.getD []).map enc) (rs.map ev)) (hd:(rs.map ev).getD zd=dv) (hN:Nat.blt d K.N=true) (hdd:dv.deep=false)
  (kk:ay K ops rest Q (S.put d dv)):ay K ops (⟨some d,.lookup T x y false,ty,pos,after,g⟩::rest) Q S:=by
 cases o with
 |none=>
  have:rs.map ev=none:=hl.none_of (fun p hp=>by simp at hp);rw[this] at hd;subst hd;exact tm zd hT hK hz hzd hw hx hy hg hN kk
 |some l=>exact co (rs.map ev) zd dv hT hK hz hzd hw hx .imm hy hg hges hl hd hN kk hdd
def pi(P:Program)(T:TypeId):Bool:=match P.underlying T with|some (.interface _)=>false|some _=>true|none=>false
theorem xN{P:Program}{T:TypeId}(h:pi P T=true):∃d,P.underlying T=some d/\∀x,d≠.interface x:=by
 grind [pi]
theorem CA{P:Program}{T xT:TypeId}{v:Value}{w:World}(h:pi P T=true):(Instr.typeAssert (.iface T v) xT T true).run P w=.ok (.tuple #[v,.bool true]) w:=by
 obtain⟨d,h1,h2⟩:=xN h<;>simp_all[Instr.typeAssert,run_underlying]
theorem CB{P:Program}{T T' xT:TypeId}{v zv:Value}{w:World}(h:pi P T=true)(hne:T'≠T)(hz:(P.info? T).bind (·.zero)=some zv):(Instr.typeAssert (.iface T' v) xT T true).run P w=.ok (.tuple #[zv,.bool false]) w:=by
 obtain⟨d,h1,h2⟩:=xN h
 have hzr:(zeroValue T).run P w=.ok zv w:=by
  cases hi:P.info? T with
  |none=>grind
  |some i=>
   simp_all[zeroValue,run_typeInfo]
 simp_all[Instr.typeAssert,run_underlying]
theorem fA{τ:Type}{enc:τ->List V}{y:τ}{k:KV}{d:Nat}{T xT:TypeId}{x:Operand}(hT:pi K.P T=true)(hy:gJ enc T k=some y)
  (hw:aN ops S ⟨some d,.typeAssert x xT T true,ty,pos,after,g⟩ true) (hx:evl K S x=.ifc k.t k.d) (hN:Nat.blt d K.N=true)
  (kk:ay K ops rest Q (S.put d (.tup [.agg (enc y),.con (.bool true)]))):ay K ops (⟨some d,.typeAssert x xT T true,ty,pos,after,g⟩::rest) Q S:=by
 obtain⟨e1,e2⟩:=ut hy;refine aX _ hw hN (fun m β w a r=>?_) kk;have h:=r.reads x;rw[hx,e1,e2] at h
 obtain⟨v,hv,hd⟩:∃v,a.eval x=.iface T v/\bN m (.agg (enc y)) v:=by
  generalize a.eval x=u at h;cases h with
  |imm h=>cases h with|ifc h=>exact⟨_,rfl,h⟩
 refine⟨.tuple #[v,.bool true],?_,.imm (.tup Y fun i c u hi hu=>?_)⟩
 ·simp only[execOp,hv];exact bk (CA hT)
 ·match i with
  |0=>simp at hi hu;subst hi;subst hu;exact hd
  |1=>simp at hi hu;subst hi;subst hu;exact .con _
  |i+2=>simp at hi
theorem fB{k:KV}{d:Nat}{T xT:TypeId}{x:Operand}{zv:Value}(zd:V)(hT:pi K.P T=true)(hne:Nat.beq k.t T=false)(hz:(K.P.info? T).bind (·.zero)=some zv)(hzd:∀m,bN m zd zv)
  (hw:aN ops S ⟨some d,.typeAssert x xT T true,ty,pos,after,g⟩ true) (hx:evl K S x=.ifc k.t k.d) (hN:Nat.blt d K.N=true)
  (kk:ay K ops rest Q (S.put d (.tup [zd,.con (.bool false)]))):ay K ops (⟨some d,.typeAssert x xT T true,ty,pos,after,g⟩::rest) Q S:=by
 refine aX _ hw hN (fun m β w a r=>?_) kk;have h:=r.reads x;rw[hx] at h
 obtain⟨v,hv⟩:∃v,a.eval x=.iface k.t v:=by
  generalize a.eval x=u at h;cases h with
  |imm h=>cases h with|ifc h=>exact⟨_,rfl⟩
 refine⟨.tuple #[zv,.bool false],?_,.imm (.tup Y fun i c u hi hu=>?_)⟩
 ·simp only[execOp,hv];exact bk (CB hT (cl9 hne) hz)
 ·match i with
  |0=>simp at hi hu;subst hi;subst hu;exact hzd m
  |1=>simp at hi hu;subst hi;subst hu;exact .con _
  |i+2=>simp at hi
theorem w9{d:Nat}{x:Operand}{src dst:TypeId}{k':IntKind}{n:Int}(hd:jO K.P dst=true)(hs:∃t,K.P.underlying src=some t)
  (hw:aN ops S ⟨some d,.convert src dst x,ty,pos,after,g⟩ true) (hx:evl K S x=.con (.int k' n)) (hN:Nat.blt d K.N=true)
  (kk:ay K ops rest Q (S.put d (.con (str (Utf8.encode n).data.toList)))):ay K ops (⟨some d,.convert src dst x,ty,pos,after,g⟩::rest) Q S:=
 aX _ hw hN (fun m β w a r=>⟨.string (Utf8.encode n),by
  obtain⟨t,ht⟩:=hs;have hd':K.P.underlying dst=some .string:=by unfold jO at hd;grind
  simp only[execOp,r.con hx]
  simp_all[run_convert_int_string],.imm (.con _)⟩) kk
def D8(P:Program)(T:TypeId):Bool:=match P.underlying T with|some (.pointer e)=>Nat.beq e (P.pointee T)|_=>false
theorem ze{d id k i off:Nat}{x y:Operand}{T T':TypeId}(hT:D8 K.P T=true)(hw:aN ops S ⟨some d,.binOp .eql T x y T',ty,pos,after,g⟩ true)
  (hx:evl K S x=.ptr id k i off) (hy:evl K S y=.con (.pointer none)) (hN:Nat.blt d K.N=true)
  (kk:ay K ops rest Q (S.put d (.con (.bool false)))):ay K ops (⟨some d,.binOp .eql T x y T',ty,pos,after,g⟩::rest) Q S:=
 aX _ hw hN (fun m β w a r=>by
  have h:=r.reads x;rw[hx] at h
  obtain⟨q,hq⟩:∃q,a.eval x=.pointer (some q):=by
   generalize a.eval x=u at h;cases h with
   |imm h=>cases h
   |ptr h=>grind
  have hu:K.P.underlying T=some (.pointer (K.P.pointee T)):=by
   unfold D8 at hT;split at hT
   ·simp_all
   ·cases hT
  refine⟨.bool false,?_,.imm (.con _)⟩;simp only[execOp,hq,r.con hy]
  simp_all[eqGuard,binOp,run_equal_pointer_nil]) kk
theorem zf{d:Nat}{x y:Operand}{T T':TypeId}(hT:D8 K.P T=true)(hw:aN ops S ⟨some d,.binOp .eql T x y T',ty,pos,after,g⟩ true)
  (hx:evl K S x=.con (.pointer none)) (hy:evl K S y=.con (.pointer none)) (hN:Nat.blt d K.N=true)
  (kk:ay K ops rest Q (S.put d (.con (.bool true)))):ay K ops (⟨some d,.binOp .eql T x y T',ty,pos,after,g⟩::rest) Q S:=
 aX _ hw hN (fun m β w a r=>by
  have hu:K.P.underlying T=some (.pointer (K.P.pointee T)):=by
   unfold D8 at hT;split at hT
   ·simp_all
   ·cases hT
  refine⟨.bool true,?_,.imm (.con _)⟩;simp only[execOp,r.con hx,r.con hy]
  simp_all[eqGuard,binOp,run_equal_pointer_nil]) kk
end
section
variable{κ τ:Type}[DecidableEq κ]
def qK(e:Nat)(enc:τ->List V):Option τ->V
 |none=>.con (.pointer none)
 |some x=>.dpt e (enc x)
def holeP(E:κ×Option τ->Value×V)(o:V)(k0:κ):List (κ×Option τ)->List (Value×V)
 |[]=>[]
 |p::xs=>if p.1=k0 then ((E p).1,o)::xs.map E else E p::holeP E o k0 xs
variable(E:κ×Option τ->Value×V)(kf:κ->Value)(enc:τ->List V)(e:Nat)(hE:∀p,E p=(kf p.1,qK e enc p.2))(k0:κ)
theorem yz(o:V)(hE:∀p,E p=(kf p.1,qK e enc p.2))(x:τ):∀xs:List (κ×Option τ),aG xs k0=some (some x)->∃i,(xs.map E)[i]? = some (kf k0,.dpt e (enc x))/\holeP E o k0 xs=(xs.map E).set i (kf k0,o)
 |[],h=>by simp[aG] at h
 |p::xs,h=>by
  simp only[holeP];by_cases hp:p.1=k0
  ·rw[if_pos hp];rw[aG,if_pos hp] at h;refine⟨0,?_,?_⟩
   ·simp only[bm9,bo9,hE,hp];rw[ah8 h];rfl
   grind
  ·rw[if_neg hp];rw[aG,if_neg hp] at h;obtain⟨i,h1,h2⟩:=yz o hE x xs h;exact⟨i+1,by grind,by simp[h2]⟩
theorem yA(o:V)(hE:∀p,E p=(kf p.1,qK e enc p.2))(y:τ):∀xs:List (κ×Option τ),(aG xs k0).isSome=true->∃i,(holeP E o k0 xs)[i]? = some (kf k0,o)/\(bM xs k0 (some y)).map E=(holeP E o k0 xs).set i (kf k0,.dpt e (enc y))
 |[],h=>by simp[aG] at h
 |p::xs,h=>by
  obtain⟨q,v⟩:=p;simp only[holeP,bM];by_cases hp:q=k0
  ·rw[if_pos hp,if_pos hp];exact⟨0,by grind,by simp only[bm9,List.set_cons_zero,hE];rfl⟩
  ·rw[if_neg hp,if_neg hp];rw[aG,if_neg hp] at h;obtain⟨i,h1,h2⟩:=yA o hE y xs h;exact⟨i+1,by grind,by simp[h2]⟩
theorem sG(o:V)(hE:∀p,E p=(kf p.1,qK e enc p.2))(hk:∀a b,kf a=kf b->a=b):∀xs:List (κ×Option τ),(aG xs k0).isSome=true->i4 (kf k0) (holeP E o k0 xs) (some o)
 |[],h=>by simp[aG] at h
 |p::xs,h=>by
  simp only[holeP];by_cases hp:p.1=k0
  ·rw[if_pos hp,show(E p).1=kf k0 by rw[hE,hp]];exact .here
  ·rw[if_neg hp];rw[aG,if_neg hp] at h;rw[hE p];exact .there (fun e=>hp (hk _ _ e)) (sG o hE hk xs h)
theorem sw(hE:∀p,E p=(kf p.1,qK e enc p.2))(hk:∀a b,kf a=kf b->a=b):∀xs:List (κ×Option τ),aG xs k0=none->i4 (kf k0) (xs.map E) none
 |[],_=>.nil
 |p::xs,h=>by
  rw[bm9,hE p];by_cases hp:p.1=k0
  ·simp_all[aG]
  ·rw[aG,if_neg hp] at h;exact .there (fun e=>hp (hk _ _ e)) (sw hE hk xs h)
theorem uz(o:V)(v:Option τ)(hE:∀p,E p=(kf p.1,qK e enc p.2))(hk:∀a b,kf a=kf b->a=b):∀xs:List (κ×Option τ),aG xs k0=none->ic (kf k0) o (xs.map E) (holeP E o k0 (bM xs k0 v))
 |[],_=>by simp only[bM,holeP,ap8,if_pos,hE];exact .nil
 |p::xs,h=>by
  obtain⟨q,u⟩:=p;by_cases hp:q=k0
  ·simp_all[aG]
  ·rw[aG,if_neg hp] at h;simp only[bM,if_neg hp,holeP,bm9];rw[hE (q,u)];exact .there (fun e=>hp (hk _ _ e)) (uz o v hE hk xs h)
theorem sH(o:V){good:Value->Prop}(hg:∀p,good (E p).1):∀(xs:List (κ×Option τ)) (p:Value×V),p∈holeP E o k0 xs->good p.1
 |[],p,h=>by simp[holeP] at h
 |q::xs,p,h=>by
  simp only[holeP] at h;split at h
  ·grind
  ·rcases as9.1 h with h|h
   ·grind
   ·exact sH o hg xs p h
theorem ag.holeP{Yo:Hy}[jI Yo]{o o':V}(ho:jb Yo o o')(hk:∀p,jb Yo (E p).2 (E p).2):∀xs:List (κ×Option τ),ag Yo (.map (holeP E o k0 xs)) (.map (Go.Pv.holeP E o' k0 xs))
 |[]=>⟨rfl,fun i p p' h=>by simp[Go.Pv.holeP] at h⟩
 |q::xs=>by
  have same:∀(l:List (κ×Option τ)) (i:Nat) (p p':Value×V),(l.map E)[i]? = some p->(l.map E)[i]? = some p'->p.1=p'.1/\jb Yo p.2 p'.2:=fun l i p p' h1 h2=>by
   rw[h1,ax9] at h2;subst h2;obtain⟨z,_,rfl⟩:=bf9.1 (ay9 h1);exact⟨Y,hk z⟩
  obtain⟨g1,g2⟩:=ag.holeP ho hk xs;simp only[Go.Pv.holeP];split
  ·refine⟨by simp,fun i p p' h1 h2=>?_⟩;cases i with
   |zero=>simp at h1 h2;subst h1;subst h2;exact⟨Y,ho⟩
   |succ i=>simp only[bt9] at h1 h2;exact same xs i p p' h1 h2
  ·refine⟨by simp[g1],fun i p p' h1 h2=>?_⟩;cases i with
   |zero=>simp at h1 h2;subst h1;subst h2;exact⟨Y,hk q⟩
   |succ i=>simp only[bt9] at h1 h2;exact g2 i p p' h1 h2
end
section
variable{K:cR}{S:St}
variable{κ τ:Type}[DecidableEq κ]
theorem yC(id nx:Nat){xs:List (κ×Option τ)}{k0:κ}{x:τ}(E:κ×Option τ->Value×V)(kf:κ->Value)(enc:τ->List V)(e k:Nat)(hE:∀p,E p=(kf p.1,qK e enc p.2))(hlen:(enc x).length=k)
  (hs:aG xs k0=some (some x)) (ho:ak S.hp id=.map (xs.map E)) (hnx:S.nx=nx):
  aY K S ⟨S.env,(id,.map (holeP E (.ptr nx k 0 0) k0 xs))::(nx,.arr e k [enc x])::S.hp,nx+1⟩:=by
 subst hlen;obtain⟨i,h1,h2⟩:=yz E kf enc e k0 (.ptr nx (enc x).length 0 0) hE x xs hs
 grind [wC]
theorem Av(id id2:Nat){xs:List (κ×Option τ)}{k0:κ}{y:τ}(E:κ×Option τ->Value×V)(kf:κ->Value)(enc:τ->List V)(e k:Nat)(hE:∀p,E p=(kf p.1,qK e enc p.2))
  (hs:(aG xs k0).isSome=true) (ho:ak S.hp id=.map (holeP E (.ptr id2 k 0 0) k0 xs)) (ho2:ak S.hp id2=.arr e k [enc y]) (hne:Nat.beq id id2=false) (hi:i5 (enc y)):
  aY K S ⟨S.env,(id,.map ((bM xs k0 (some y)).map E))::(id2,.dead)::S.hp,S.nx⟩:=by
 obtain⟨i,h1,h2⟩:=yA E kf enc e k0 (.ptr id2 k 0 0) hE y xs hs
 grind [sK]
end
section
variable{α τ:Type}
def NU(P:Program)(l:Nat)(k:Nat)(hp0:aC)(m0:bB)(β0:ba)(w0:World)(hpf:α->aC)(enc:τ->V)(R:α->τ->Option α):Prop:=
 ∀(p:α) (x:τ) (r:α) (m:bB) (β:ba) (w:World) (v:Value),R p x=some r->qx m0 β0 w0 k hp0 m β w k (hpf p)->bN m (enc x) v->
  YieldAt Fence.wide 0 P l #[v] w fun e w'=>e=.returned (.bool true)/\∃m' β',qx m β w k (hpf p) m' β' w' k (hpf r)
abbrev yV(l:Nat):V:=.con (.func (.yield l) #[] #[])
def Hq(gl:Gl)(P:Program)(f:FuncId)(first:List V)(k:Nat)(hpf:α->aC)(enc:τ->V)(R:α->τ->Option α)(p0 pE:α):Prop:=
 ∀(m:bB) (β:ba) (w:World) (vs:Array Value) (l:Nat),(∀(b:Nat) o,m b=some o->w.heap[b]? = some o)->fU gl m->iY m β first vs->Hs m β w k (hpf p0)->
  NU P l k (hpf p0) m β w hpf enc R->Calls P f (vs++#[.func (.yield l) #[] #[]]) w fun e w'=>∃v m' β',e=.returned v/\qx m β w k (hpf p0) m' β' w' k (hpf pE)
end
section
variable{K:cR}{Q:ca}{S:St}{s:List It}
variable{m:bB}{β:ba}{w:World}{a:Act}
variable{ops:Array Oper}{rest:List Oper}{ty:TypeId}{pos:String}{after:Array Edge}{g:Option (Nat×Bool)}
variable{α τ:Type}
theorem Am{gl:Gl}{P:Program}{f:FuncId}{fn:Func}{c:Code}{N k:Nat}{first:List V}{hpf:α->aC}{enc:τ->V}{R:α->τ->Option α}{p0 pE:α}(hf:P.funcs[f]? = some fn)(hb:fn.body=some c)(hN:fn.ntmps=N)
  (hl:fn.results=#[]) (ha:Nat.ble (first.length+1) N=true) (env:Nat->cc) (henv:∀l,gk 0 (first++[yV l])=env l)
  (h:∀(w0:World) (m0:bB) (β0:ba) (hg:fU gl m0) (l:Nat),NU P l k (hpf p0) m0 β0 w0 hpf enc R->iC (pw gl P N k (hpf p0) w0 m0 β0 hg) c (M4 (pw gl P N k (hpf p0) w0 m0 β0 hg) [] [] k (hpf pE)) ⟨env l,hpf p0,k⟩):
  Hq gl P f first k hpf enc R p0 pE:=by
 intro m β w vs l himm hgl hargs hh hY;have hm:fV gl P f (first++[yV l]) k (hpf p0) (ep []) k (hpf pE)->True:=fun _=>trivial;have ha:=ax8 ha
 have hargs':iY m β (first++[yV l]) (vs++#[.func (.yield l) #[] #[]]):=by
  refine⟨by simp[hargs.len],fun i c v h1 h2=>?_⟩;rw[bu9] at h1;rw[cd9,<-hargs.len] at h2;split at h1
  ·rename_i hlt;rw[if_pos hlt] at h2;exact hargs.at' i c v h1 h2
  ·rename_i hlt;rw[if_neg hlt] at h2;cases hj:i - first.length with
   |zero=>rw[hj] at h1 h2;simp at h1 h2;subst h1;subst h2;exact .imm (.con _)
   |succ j=>grind
 refine jA hf hb ?_
 have hsz:((vs++#[Value.func (.yield l) #[] #[]])++Array.replicate (fn.ntmps - (vs++#[Value.func (.yield l) #[] #[]]).size) undef).size=N:=by
  have:=hargs'.len;simp only[cc9,cc8,hN,bi8,List.length_singleton] at this ⊢;omega
 have r:bX (pw gl P N k (hpf p0) w m β hgl) m β w ⟨(vs++#[Value.func (.yield l) #[] #[]])++Array.replicate (fn.ntmps - (vs++#[Value.func (.yield l) #[] #[]]).size) undef,[]⟩ ⟨env l,hpf p0,k⟩:=by
  constructor
  ·exact himm
  ·exact bB.le_refl _
  ·grind
  ·grind
  ·grind
  ·exact⟨Y,Y,Y,trivial⟩
  ·exact hsz
  ·exact k7.nil
  ·intro t
   show br _ _ (get (env l) t) _
   rw[<-henv,kC];simp only[ai8,if_true,Nat.sub_zero];by_cases ht:t<(first++[yV l]).length
   ·have ht':t<(vs++#[Value.func (.yield l) #[] #[]]).size:=by rw[<-hargs'.len];exact ht
    simp only[cm9,az9 ht,bx8,bm8];rw[cd9,if_pos ht',bb8 ht'];exact hargs'.at' t _ _ (az9 ht) (bb8 ht')
   ·simp only[cm9,av8 (au8 ht),Option.getD_none];exact .imm (.any _)
  ·exact hh.own
  ·exact fun id b cap hl hb=>⟨hh.priv id b cap hl hb,fun _ hF=>(hF id hl).1 cap hb⟩
  ·exact hh.inj
  ·exact fun id x hl hx=>let q:=hh.hid id x hl hx;⟨q.1,q.2.1,fun _ hF=>(hF id hl).2 hx,q.2.2.1,q.2.2.2⟩
  ·exact hh.nx
  ·grind
 refine wpIn_mono (h w m β hgl l hY m _ w _ r) ?_
 rintro e a' w1 ⟨_,S1,m1,β1,⟨he,env',hg',hres⟩,r1⟩
 obtain⟨m2,β',r2⟩:=hg' _ _ _ _ r1;refine⟨he,bX.leave _ m2 w1 a' Y r2 (fun m' w' r'=>?_)⟩;obtain⟨v,h1,h2⟩:=hres.runs (fn:=fn) (by rw[hl]) r';exact⟨v,h1,v,m',β',Y,r'.ext,r'.imm,fun b hb hF=>⟨r'.mold b hb hF,r'.frame b hb hF⟩,r'.size,r'.same,r'.own,r'.priv,r'.inj,fun id x hl hx=>let q:=r'.hid id x hl hx;⟨q.lt,q.m,q.old,q.ne,q.un⟩,r'.nx,r'.pin⟩
theorem bX.since{gl:Gl}{P:Program}{N k:Nat}{hp0 hp:aC}{w0:World}{m0:bB}{β0:ba}{hg:fU gl m0}(r:bX (pw gl P N k hp0 w0 m0 β0 hg) m β w a S)(hhp:Hr (Ren k (fun i=>i)) k (fun i=>i) S.hp hp):
  qx m0 β0 w0 k hp0 m (β.sub k (fun i=>i)) w k hp:=by
 have H:=r.hand hhp (fun i j _ _ e=>e)
 have hlive:∀id,ak hp id≠.dead->id<k/\ak S.hp id≠.dead:=by
  intro id h;obtain⟨h1,h2⟩:=hhp id;refine⟨h1.resolve_left h,fun hd=>?_⟩;rw[hd] at h2;cases ho:ak hp id with
  |dead=>exact h ho
  |arr=>simp_all[ag]
  |res=>simp_all[ag]
  |map=>simp_all[ag]
  |iter=>simp_all[ag]
  |bld=>simp_all[ag]
 have e0:∀id,id<k->(β.sub k (fun i=>i)) id=β id:=fun id h=>by show(if _ then _ else _)=_;grind
 refine⟨r.ext,r.imm,fun b hb hF=>⟨r.mold b hb hF,r.frame b hb hF⟩,r.size,r.same,H.own,fun id b cap hl hb=>⟨H.priv id b cap hl hb,?_⟩,H.inj,fun id x hl hx=>?_,H.nx,fun q hq=>⟨hq,?_⟩⟩
 ·obtain⟨h1,h2⟩:=hlive id hl;rw[e0 id h1] at hb;exact(r.priv id b cap h2 hb).2
 ·obtain⟨q1,q2,q3,q4⟩:=H.hid id x hl hx;obtain⟨h1,h2⟩:=hlive id hl;exact⟨q1,q2,(r.hid id x h2 hx).old,q3,q4⟩
 ·rw[e0 q hq];exact(r.pin q hq).2
theorem gm{gl:Gl}{P:Program}{N k:Nat}{hp0:aC}{w0:World}{m0:bB}{β0:ba}{hg:fU gl m0}{d l:Nat}{x y:Operand}{at':Array TypeId}{hpf:α->aC}{enc:τ->V}{R:α->τ->Option α}{p r:α}{z:τ}(τi:Nat->Nat)(u:aC)
  (hY:NU P l k hp0 m0 β0 w0 hpf enc R) (hR:R p z=some r)
  (hw:aN ops S ⟨some d,.call ⟨.value x,#[y],at'⟩,ty,pos,after,g⟩ true) (hN:Nat.blt d N=true) (hx:evl (pw gl P N k hp0 w0 m0 β0 hg) S x=yV l) (hy:evl (pw gl P N k hp0 w0 m0 β0 hg) S y=enc z) (hi:aw (enc z))
  (hτi:∀i,i<k->τi i=i) (hhp:bJ (Ren k (fun i=>i)) k (fun i=>i) S.hp (hpf p)) (hto:Cv k k S.nx S.nx (fun i=>i) τi (fun _=>false)=true) (hτ:qG k τi=true)
  (hu:kS (To k τi) τi (hpf r) k 0 u)
  (kk:ay (pw gl P N k hp0 w0 m0 β0 hg) ops rest Q ⟨(d,.con (.bool true))::S.env,u++S.hp,S.nx⟩):
  ay (pw gl P N k hp0 w0 m0 β0 hg) ops (⟨some d,.call ⟨.value x,#[y],at'⟩,ty,pos,after,g⟩::rest) Q S:=by
 intro m β w a rr;unfold wpListIn;rw[if_pos (hw.at rr)];have hv:=rr.reads x;rw[hx] at hv;have hfv:=hv.of_con;have hyv:=rr.reads y;rw[hy] at hyv;have hyi:bN m (enc z) (a.eval y):=hi.2 _ _ _ hyv;obtain⟨fn,tmps,assign,body,e1,hR2⟩:=hY p z r m _ w (a.eval y) hR (rr.since (bJ.get hhp)) hyi
 have hop:(Oper.semAt none a.eval ⟨some d,.call ⟨.value x,#[y],at'⟩,ty,pos,after,g⟩).run P w=.ok (.round l fn tmps assign body) w:=by
  rw[Oper.semAt_none];simp only[execOp,resolve,hfv,Deferred.ofValue,invoke,Sem.run_bind,pure,Sem.run,Result.andThen_ok]
  simpa using e1
 refine⟨fun _ _=>trivial,?_⟩
 show Oper.uponIn _ _ _ _ _ _ _ ((Oper.semAt none a.eval _).run P w)
 rw[hop];simp only[Oper.uponIn];refine⟨fun h=>by simp[Fence.wide] at h,RoundIn.mono hR2 ?_⟩
 rintro e w' ⟨rfl,m',β',ga⟩
 obtain⟨β2,r2,_⟩:=rr.back (fun i=>i) τi S.nx u (fun _=>false) (bJ.get hhp) (fun _ h=>by simp at h) hto hτ (cj9 (ae9 _)) (cj9 (ae9 _)) (fun _ h=>by simp at h) hu ga;exact kk m' β2 w' _ (r2.put hN (.imm (.con _)))
end
end Go.Pv
