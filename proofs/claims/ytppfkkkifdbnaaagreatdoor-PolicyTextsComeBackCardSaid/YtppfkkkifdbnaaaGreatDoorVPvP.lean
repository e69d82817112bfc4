/- Part of the proof. -/
import Derived.Test.YtppfkkkifdbnaaaGreatDoorVPvL
import Derived.Lib.Strings
set_option linter.unusedSimpArgs false
set_option linter.unusedVariables false
namespace Go.Pv
open Go
section
variable{K:Ctx}{Q:Post}{S S':St}{ops:Array Oper}{rest:List Oper}{op:Op}{ty:TypeId}{pos:String}{after:Array Edge}{g:Option (Nat×Bool)}
variable{m:Mem}{β:Locs}{w:World}{a:Act}
structure KeyT(P:Program)(T:TypeId)(good:Value->Prop):Prop where
 check:∀(b:Bool) (w:World) (v:Value),good v->(Instr.checkKey b 10000 T v).run P w=.ok () w
 find:∀(w:World) (x:Value),good x->∀es:List MapEntry,(∀e,e∈es->good e.key)->
  ((Instr.findKey T x es).run P w=.ok none w/\∀e,e∈es->e.key≠x) ∨
  ∃j e,(Instr.findKey T x es).run P w=.ok (some (j,e.val)) w/\es[j]? = some e/\e.key=x/\∀i e',i<j->es[i]? = some e'->e'.key≠x
 stays:∀(w:World) (v:Value),good v->(Instr.keyThatStays v v).run P w=.ok v w
theorem find_now{kind:TypeDesc}{good:Value->Prop}{x:Value}(h:∀v,good v->(v=x/\Instr.sameNow kind x v=some true)\/(v≠x/\Instr.sameNow kind x v=some false)):
  ∀(es:List MapEntry) (n:Nat),(∀e,e∈es->good e.key)->
  (Instr.findNow kind x es n=some none/\∀e,e∈es->e.key≠x) ∨
  ∃j e,Instr.findNow kind x es n=some (some (n+j,e.val))/\es[j]? = some e/\e.key=x/\∀i e',i<j->es[i]? = some e'->e'.key≠x
 |[],n,_=>.inl ⟨rfl,by simp⟩
 |e::es,n,hg=>by
  rcases h e.key (hg e (by simp)) with ⟨h1,h2⟩|⟨h1,h2⟩
  ·exact .inr ⟨0,e,by simp[Instr.findNow,h2],rfl,h1,by simp⟩
  ·rcases find_now h es (n+1) (fun e' he'=>hg e' (by simp[he'])) with ⟨a1,a2⟩|⟨j,e',a1,a2,a3,a4⟩
   ·simp_all[Instr.findNow]
   ·refine .inr ⟨j+1,e',by grind [Instr.findNow],by grind,a3,fun i e'' hi he''=>?_⟩
    grind
theorem keyT_of_now{P:Program}{T:TypeId}{kind:TypeDesc}{good:Value->Prop}(hu:P.underlying T=some kind)
  (hc:∀(b:Bool) (w:World) (v:Value),good v->(Instr.checkKey b 10000 T v).run P w=.ok () w)
  (h:∀x,good x->∀v,good v->(v=x/\Instr.sameNow kind x v=some true)\/(v≠x/\Instr.sameNow kind x v=some false))
  (hs:∀v,good v->Instr.sameBits 10000 v v=true):KeyT P T good where
 check:=hc
 find:=by
  intro w x hx es hes
  rcases find_now (h x hx) es 0 hes with ⟨a1,a2⟩|⟨j,e,a1,a2,a3,a4⟩
  ·simp_all[Instr.findKey,run_underlying]
  ·exact .inr ⟨j,e,by simp_all[Instr.findKey,run_underlying],a2,a3,a4⟩
 stays:=by
  simp_all[Instr.keyThatStays]
def isInt(k:IntKind)(v:Value):Prop:=∃n,v=.int k n
def isStr(v:Value):Prop:=∃s,v=.string s
theorem bytes_beq(a b:ByteArray):(a==b)=decide (a=b):=by
 obtain⟨a⟩:=a
 obtain⟨b⟩:=b
 show(a==b)=_
 grind
theorem keyT_str{P:Program}{T:TypeId}(hu:P.underlying T=some .string):KeyT P T isStr:=by
 refine keyT_of_now hu ?_ ?_ ?_
 ·rintro b w v ⟨n,rfl⟩
  have:(10000:Nat)=9999+1:=rfl
  rw[this,Instr.checkKey]
  simp_all[run_underlying]
 ·rintro x ⟨n,rfl⟩ v ⟨n',rfl⟩
  grind [Instr.sameNow,bytes_beq]
 ·rintro v ⟨n,rfl⟩;simp[Instr.sameBits,bytes_beq]
inductive Look(x:Value):List (Value×V)->Option V->Prop
 |nil:Look x [] none
 |here {v:V} {es:List (Value×V)}:Look x ((x,v)::es) (some v)
 |there {k:Value} {v:V} {es:List (Value×V)} {r:Option V} (h:k≠x) (h':Look x es r):Look x ((k,v)::es) r
theorem Look.none_of{x:Value}{es:List (Value×V)}{r:Option V}(h:Look x es r)(hn:∀p,p∈es->p.1≠x):r=none:=by
 induction h<;>simp_all
theorem Look.some_of{x:Value}{es:List (Value×V)}{r:Option V}(h:Look x es r):∀(j:Nat) (v:V),es[j]? = some (x,v)->(∀i p,i<j->es[i]? = some p->p.1≠x)->r=some v:=by
 induction h with
 |nil=>grind
 |here=>
  intro j v hj hi
  cases j with
  |zero=>grind
  |succ j=>exact absurd rfl (hi 0 _ (by omega) rfl)
 |there h _ ih=>
  intro j v hj hi
  cases j<;>grind
inductive Puts(x:Value)(v:V):List (Value×V)->List (Value×V)->Prop
 |nil:Puts x v [] [(x,v)]
 |here {v':V} {es:List (Value×V)}:Puts x v ((x,v')::es) ((x,v)::es)
 |there {k:Value} {v':V} {es es':List (Value×V)} (h:k≠x) (h':Puts x v es es'):Puts x v ((k,v')::es) ((k,v')::es')
theorem Puts.none_of{x:Value}{v:V}{es es':List (Value×V)}(h:Puts x v es es')(hn:∀p,p∈es->p.1≠x):es'=es++[(x,v)]:=by
 induction h<;>simp_all
theorem Puts.some_of{x:Value}{v:V}{es es':List (Value×V)}(h:Puts x v es es'):∀(j:Nat) (v':V),es[j]? = some (x,v')->(∀i p,i<j->es[i]? = some p->p.1≠x)->es'=es.set j (x,v):=by
 induction h with
 |nil=>grind
 |here=>
  intro j v' hj hi
  cases j with
  |zero=>rfl
  |succ j=>exact absurd rfl (hi 0 _ (by omega) rfl)
 |there h _ ih=>
  intro j v' hj hi
  cases j<;>grind
def tyMap(P:Program)(T k e:TypeId):Bool:=match P.underlying T with|some (.map k' e')=>k'==k&&e'==e|_=>false
theorem tyMap_inv{P:Program}{T k e:TypeId}(h:tyMap P T k e=true):P.underlying T=some (.map k e):=by
 unfold tyMap at h
 grind
theorem modify_cons{α:Type}(f:α->α)(e:α):∀(l:List α) (j:Nat),l[j]? = some e->(l.modify j f).Perm (f e::l.eraseIdx j)
 |[],j,h=>by simp at h
 |x::l,0,h=>by simp_all
 |x::l,j+1,h=>by
  simp only[List.modify_succ_cons,List.eraseIdx_cons_succ]
  exact((modify_cons f e l j (by simpa using h)).cons x).trans (List.Perm.swap _ _ _)
theorem cons_erase{α:Type}(e:α):∀(l:List α) (j:Nat),l[j]? = some e->l.Perm (e::l.eraseIdx j)
 |[],j,h=>by simp at h
 |x::l,0,h=>by simp_all
 |x::l,j+1,h=>by
  simp only[List.eraseIdx_cons_succ]
  exact((cons_erase e l j (by simpa using h)).cons x).trans (List.Perm.swap _ _ _)
theorem modify_perm{α:Type}(f:α->α){e:α}{l L:List α}{j k:Nat}(h:l.Perm L)(h1:l[j]? = some e)(h2:L[k]? = some e):(l.modify j f).Perm (L.modify k f):=
 (modify_cons f e l j h1).trans ((((((cons_erase e l j h1).symm.trans h).trans (cons_erase e L k h2)).cons_inv).cons (f e)).trans (modify_cons f e L k h2).symm)
theorem map_modify{α β:Type}(f:α->α)(g:α->β):∀(l:List α) (k:Nat),(∀e,l[k]? = some e->g (f e)=g e)->(l.modify k f).map g=l.map g
 |[],k,_=>by simp
 |x::l,0,h=>by grind
 |x::l,k+1,h=>by simp_all[map_modify]
theorem MWf.push{E:Array MapEntry}{clock:Nat}(q:MWf E clock)(k v:Value)(hk:∀e,e∈E.toList->e.key≠k):MWf (E.push { key:=k,val:=v,born:=clock }) (clock+1) where
 born:=by
  rw[bh9,ca8,List.nodup_append]
  refine⟨q.born,by simp,fun a ha b hb=>?_⟩
  obtain⟨e,he,rfl⟩:=ax9.1 ha
  simp at hb;subst hb
  have:=q.lt e he;omega
 lt:=fun e he=>by
  rw[bh9,bo9] at he
  rcases he with he|he
  ·have:=q.lt e he;omega
  grind
 key:=by
  rw[bh9,ca8,List.nodup_append]
  refine⟨q.key,by simp,fun a ha b hb=>?_⟩
  grind
theorem MWf.modify{E:Array MapEntry}{clock j:Nat}(q:MWf E clock)(f:MapEntry->MapEntry)(hb:∀e,(f e).born=e.born)(hk:∀e,E[j]? = some e->(f e).key=e.key):MWf (E.modify j f) clock:=by
 have e1:(E.modify j f).toList.map (·.born)=E.toList.map (·.born):=by rw[Array.toList_modify];exact map_modify f _ _ _ (fun e _=>hb e)
 have e2:(E.modify j f).toList.map (·.key)=E.toList.map (·.key):=by rw[Array.toList_modify];exact map_modify f _ _ _ (fun e he=>hk e (by grind))
 refine⟨by rw[e1];exact q.born,fun e he=>?_,by rw[e2];exact q.key⟩
 have:e.born∈(E.modify j f).toList.map (·.born):=ax9.2 ⟨e,he,rfl⟩
 rw[e1] at this
 obtain⟨e',h1,h2⟩:=ax9.1 this
 rw[<-h2];exact q.lt e' h1
theorem MWf.nil:MWf #[] 0:=⟨by simp,by simp,by simp⟩
theorem mapAt_nil{o:Option Obj}(h:o=some (.map #[] 0)):MapAt o #[] 0:=⟨#[],h,.refl _,.nil⟩
theorem aops_makeMap{d:Nat}{T:TypeId}(hw:Wants ops S ⟨some d,.makeMap T none,ty,pos,after,g⟩ true)(hN:Nat.blt d K.N=true)
  (kk:AOps K ops rest Q ⟨(d,.map S.nx)::S.env,(S.nx,.map [])::S.hp,S.nx+1⟩):AOps K ops (⟨some d,.makeMap T none,ty,pos,after,g⟩::rest) Q S:=by
 refine aops_runs hw (fun m β w a r=>?_) kk
 obtain⟨β',hle,hnx,r2⟩:=r.alloc (.map #[] 0) (.map []) ⟨0,0⟩ _ rfl (fun β' hle=>⟨#[],0,fun _ _=>False,mapAt_nil (by simp),rfl,bls_none,by simp⟩)
 refine⟨.map (some w.heap.size),{ w with heap:=w.heap.push (.map #[] 0) },m,β',.inl ?_,Rel.put r2 hN (.map hnx)⟩
 simp only[execOp,ag9]
 rw[Sem.run_bind]
 rfl
theorem VRel.conAgg{vs:List Value}{x:Value}(h:VRel m β (.agg (vs.map .con)) x):x=.agg vs.toArray:=by
 have key:∀us:Array Value,(vs.map V.con).length=us.size->(∀(i:Nat) (c:V) (v:Value),(vs.map V.con)[i]? = some c->us[i]? = some v->VRel m β c v)->us=vs.toArray:=by
  intro us hl hh
  apply an9
  apply an8
  intro i
  simp only[bb8] at hl
  cases hv:vs[i]? with
  |none=>
   grind
  |some v=>
   have hi:=(aw8.1 hv).1
   have hu:us[i]? = some (us[i]'(by omega)):=av9 (by omega)
   have:=(hh i (.con v) _ (by simp[hv]) hu).of_con
   grind
 cases h with
 |imm h=>cases h with|agg hl hh=>rw[key _ hl fun i c v a b=>.imm (hh i c v a b)]
 |agg hl hh=>grind
theorem irel_con(v:Value):∀m:Mem,IRel m (.con v) v:=fun _=>.con v
inductive KeyIs(K:Ctx)(S:St)(y:Operand):Value->Prop
 |con {kv:Value} (h:evl K S y=.con kv):KeyIs K S y kv
 |agg (xs:List Value) (h:evl K S y=.agg (xs.map .con)):KeyIs K S y (.agg xs.toArray)
theorem KeyIs.read{y:Operand}{kv:Value}(h:KeyIs K S y kv)(r:Rel K m β w a S):a.eval y=kv:=by
 cases h with
 |con h=>exact r.con h
 |agg xs h=>
  have:=r.reads y
  rw[h] at this
  exact this.conAgg
inductive MapIs(S:St):V->List (Value×V)->Prop
 |own {id:Nat} {es:List (Value×V)} (h:hget S.hp id=.map es):MapIs S (.map id) es
 |imm {es:List (Value×V)}:MapIs S (.imap es) es
theorem MapIs.read{x:V}{es:List (Value×V)}(h:MapIs S x es)(r:Rel K m β w a S){v:Value}(hv:VRel m β x v):
  ∃b ents clock,v=.map (some b)/\MapAt (w.heap[b]?) ents clock/\es.length=ents.size/\∀(i:Nat) (p:Value×V) (e:MapEntry),es[i]? = some p->ents[i]? = some e->e.key=p.1/\(p.2.deep=false->VRel m β p.2 e.val):=by
 cases h with
 | @own id _ ho=>
  cases hv with
  |imm h=>cases h
  | @map _ b cap hb=>
   have:=r.own id
   rw[hb,ho] at this
   obtain⟨ents,clock,bl,h1,h2,_,h3⟩:=this
   exact⟨b,ents,clock,rfl,h1,h2,fun i p e a b=>⟨(h3 i p e a b).1,fun hd=>(h3 i p e a b).2.v hd⟩⟩
 |imm=>
  cases hv with
  |imm h=>cases h with
   |imap hm hl hk h=>exact⟨_,_,_,rfl,hm.mono (r.imm _),hl,fun i p e a b=>⟨hk i p e a b,fun _=>.imm (h i p e a b)⟩⟩
theorem found{P:Program}{T:TypeId}{good:Value->Prop}(hK:KeyT P T good){w:World}{x:Value}(hx:good x){es:List (Value×V)}{ents E:Array MapEntry}{clock:Nat}(hl:es.length=ents.size)
  (hr:∀(i:Nat) (p:Value×V) (e:MapEntry),es[i]? = some p->ents[i]? = some e->e.key=p.1) (hg:∀p,p∈es->good p.1) (hp:ents.toList.Perm E.toList) (hwf:MWf E clock):
  ((Instr.findKey T x E.toList).run P w=.ok none w/\(∀p,p∈es->p.1≠x)/\∀e,e∈E.toList->e.key≠x) ∨
  ∃(j:Nat) (p:Value×V) (e:MapEntry) (jE:Nat),(Instr.findKey T x E.toList).run P w=.ok (some (jE,e.val)) w/\ents[j]? = some e/\es[j]? = some p/\p.1=x/\(∀i p',i<j->es[i]? = some p'->p'.1≠x)/\E[jE]? = some e:=by
 have corr:∀(i:Nat) (e:MapEntry),ents[i]? = some e->∃p,es[i]? = some p/\e.key=p.1:=by
  intro i e he
  have:i<es.length:=by rw[hl];exact(au8.1 he).1
  exact⟨es[i],as8 this,hr i _ e (as8 this) he⟩
 have corr':∀(i:Nat) p,es[i]? = some p->∃e,ents[i]? = some e/\e.key=p.1:=by
  intro i p hp
  have:i<ents.size:=by rw[<-hl];exact(aw8.1 hp).1
  exact⟨ents[i],av9 this,hr i p _ hp (av9 this)⟩
 have hge:∀e,e∈E.toList->good e.key:=by
  intro e he
  obtain⟨i,hi⟩:=aw9 (hp.mem_iff.2 he)
  obtain⟨p,h1,h2⟩:=corr i e (by grind)
  rw[h2];exact hg p (ar8 h1)
 rcases hK.find w x hx E.toList hge with ⟨a1,a2⟩|⟨jE,e,a1,a2,a3,a4⟩
 ·grind [List.getElem?_of_mem]
 ·obtain⟨j,hj⟩:=aw9 (hp.mem_iff.2 (ar8 a2))
  have hj:ents[j]? = some e:=by simpa using hj
  obtain⟨p,h1,h2⟩:=corr j e hj
  refine .inr ⟨j,p,e,jE,a1,hj,h1,by grind,fun i p' hi hp' hpx=>?_,by grind⟩
  obtain⟨e',h3,h4⟩:=corr' i p' hp'
  have hn:(ents.toList.map (·.key)).Nodup:=(hp.map _).nodup_iff.2 hwf.key
  have e1:(ents.toList.map (·.key))[i]? = some x:=by simp[h3,h4,hpx]
  have e2:(ents.toList.map (·.key))[j]? = some x:=by simp[hj,a3]
  grind [List.getElem?_inj]
theorem aops_lookup{d:Nat}{T k e:TypeId}{x y:Operand}{good:Value->Prop}{kv zv:Value}{mv:V}{es:List (Value×V)}(res:Option V)(zd dv:V)(hT:tyMap K.P T k e=true)(hK:KeyT K.P k good)
  (hz:(K.P.info? e).bind (·.zero)=some zv) (hzd:∀m,IRel m zd zv)
  (hw:Wants ops S ⟨some d,.lookup T x y false,ty,pos,after,g⟩ true) (hx:evl K S x=mv) (hm:MapIs S mv es) (hy:KeyIs K S y kv) (hg:good kv) (hges:∀p,p∈es->good p.1)
  (hl:Look kv es res) (hd:res.getD zd=dv) (hN:Nat.blt d K.N=true)
  (kk:AOps K ops rest Q (S.put d dv)) (hdd:dv.deep=false:=by rfl):AOps K ops (⟨some d,.lookup T x y false,ty,pos,after,g⟩::rest) Q S:=
 aops_val _ hw hN (fun m β w a r=>by
  have h:=r.reads x
  rw[hx] at h
  obtain⟨b,ents,clock,e1,⟨E,e2,eP,eW⟩,e3,e4⟩:=hm.read r h
  have hobj:(getObj b).run K.P w=.ok (.map E clock) w:=by simp[getObj,Sem.run,e2]
  have hzr:(zeroValue e).run K.P w=.ok zv w:=by
   cases hi:K.P.info? e with
   |none=>grind
   |some i=>
    simp_all[zeroValue,run_typeInfo]
  rcases found hK hg e3 (fun i p e a b=>(e4 i p e a b).1) hges eP eW (w:=w) with ⟨a1,a2,_⟩|⟨j,p,en,jE,a1,a2,a3,a4,a5,aE⟩
  ·refine⟨zv,?_,?_⟩
   ·simp only[execOp,e1,hy.read r]
    refine run_value ?_
    simp only[Instr.lookup,Sem.run_bind,run_underlying (tyMap_inv hT),Result.andThen_ok,hobj,pure,Sem.run,hK.check _ w kv hg,a1,hzr]
    rfl
   ·rw[<-hd,hl.none_of a2];exact .imm (hzd m)
  ·refine⟨en.val,?_,?_⟩
   ·simp only[execOp,e1,hy.read r]
    refine run_value ?_
    simp only[Instr.lookup,Sem.run_bind,run_underlying (tyMap_inv hT),Result.andThen_ok,hobj,pure,Sem.run,hK.check _ w kv hg,a1]
    rfl
   ·have:p=(kv,p.2):=by rw[<-a4]
    rw[this] at a3
    have hr:=hl.some_of j p.2 a3 a5
    grind) kk
theorem aops_lookup_ok{d:Nat}{T k e:TypeId}{x y:Operand}{good:Value->Prop}{kv zv:Value}{mv:V}{es:List (Value×V)}(res:Option V)(zd dv:V)(hT:tyMap K.P T k e=true)(hK:KeyT K.P k good)
  (hz:(K.P.info? e).bind (·.zero)=some zv) (hzd:∀m,IRel m zd zv)
  (hw:Wants ops S ⟨some d,.lookup T x y true,ty,pos,after,g⟩ true) (hx:evl K S x=mv) (hm:MapIs S mv es) (hy:KeyIs K S y kv) (hg:good kv) (hges:∀p,p∈es->good p.1)
  (hl:Look kv es res) (hd:res.getD zd=dv) (hN:Nat.blt d K.N=true)
  (kk:AOps K ops rest Q (S.put d (.tup [dv,.con (.bool res.isSome)]))) (hdd:dv.deep=false:=by rfl):AOps K ops (⟨some d,.lookup T x y true,ty,pos,after,g⟩::rest) Q S:=
 aops_val _ hw hN (fun m β w a r=>by
  have h:=r.reads x
  rw[hx] at h
  obtain⟨b,ents,clock,e1,⟨E,e2,eP,eW⟩,e3,e4⟩:=hm.read r h
  have hobj:(getObj b).run K.P w=.ok (.map E clock) w:=by simp[getObj,Sem.run,e2]
  have hzr:(zeroValue e).run K.P w=.ok zv w:=by
   cases hi:K.P.info? e with
   |none=>simp[hi] at hz
   |some i=>
    simp[hi] at hz
    simp only[zeroValue,Sem.run_bind,run_typeInfo w hi,Result.andThen_ok,hz];rfl
  have tup:∀v b,VRel m β dv v->res.isSome=b->VRel m β (.tup [dv,.con (.bool res.isSome)]) (.tuple #[v,.bool b]):=by
   rintro v b hv rfl
   refine .tup rfl fun i c u hi hu=>?_
   match i with
   |0=>simp at hi hu;subst hi;subst hu;exact hv
   |1=>simp at hi hu;subst hi;subst hu;exact .imm (.con _)
   |i+2=>simp at hi
  rcases found hK hg e3 (fun i p e a b=>(e4 i p e a b).1) hges eP eW (w:=w) with ⟨a1,a2,_⟩|⟨j,p,en,jE,a1,a2,a3,a4,a5,aE⟩
  ·have hres:=hl.none_of a2
   refine⟨.tuple #[zv,.bool false],?_,tup _ _ (by rw[<-hd,hres];exact .imm (hzd m)) (by rw[hres];rfl)⟩
   simp only[execOp,e1,hy.read r]
   refine run_value ?_
   simp only[Instr.lookup,Sem.run_bind,run_underlying (tyMap_inv hT),Result.andThen_ok,hobj,pure,Sem.run,hK.check _ w kv hg,a1,hzr]
   rfl
  ·have:p=(kv,p.2):=by rw[<-a4]
   rw[this] at a3
   have hres:=hl.some_of j p.2 a3 a5
   refine⟨.tuple #[en.val,.bool true],?_,tup _ _ (by rw[hres] at hd;have hd:p.2=dv:=hd;rw[<-hd];exact(e4 j _ en a3 a2).2 (by rw[<-hd] at hdd;exact hdd)) (by rw[hres];rfl)⟩
   simp only[execOp,e1,hy.read r]
   refine run_value ?_
   simp only[Instr.lookup,Sem.run_bind,run_underlying (tyMap_inv hT),Result.andThen_ok,hobj,pure,Sem.run,hK.check _ w kv hg,a1]
   rfl) kk
theorem aops_mapPut{T k e:TypeId}{x y z:Operand}{good:Value->Prop}{kv:Value}{id:Nat}{dv:V}{es:List (Value×V)}{op:Op}(hop:op=.mapUpdate T x y z\/op=.insert T x y z)(es':List (Value×V))(hT:tyMap K.P T k e=true)(hK:KeyT K.P k good)
  (hw:Wants ops S ⟨none,op,ty,pos,after,g⟩ true) (hx:evl K S x=.map id) (ho:hget S.hp id=.map es) (hy:KeyIs K S y kv) (hg:good kv) (hges:∀p,p∈es->good p.1) (hz:evl K S z=dv)
  (hp:Puts kv dv es es') (kk:AOps K ops rest Q ⟨S.env,(id,.map es')::S.hp,S.nx⟩):AOps K ops (⟨none,op,ty,pos,after,g⟩::rest) Q S:=by
 refine aops_runs hw (fun m β w a r=>?_) kk
 have h:=r.reads x
 rw[hx] at h
 have hzv:=r.reads z
 rw[hz] at hzv
 generalize hv:a.eval x=v at h
 cases h with
 |imm h=>cases h
 | @map _ b cap hb=>
 have h0:=r.own id
 rw[hb,ho] at h0
 obtain⟨ents,clock,bl,⟨E,e2,eP,eW⟩,e3,eB,e4⟩:=h0
 have hobj:(getObj b).run K.P w=.ok (.map E clock) w:=by simp[getObj,Sem.run,e2]
 have hset:∀o,(setObj b o).run K.P w=.ok () { w with heap:=w.heap.setIfInBounds b o }:=by intro o;simp[setObj,Sem.run,e2]
 have hbl:=lt_of_some e2
 have heap':∀o b',b'≠b->({ w with heap:=w.heap.setIfInBounds b o }:World).heap[b']? = w.heap[b']?:=by
  intro o b' hne;simp only[bg8];grind
 have self':∀o,({ w with heap:=w.heap.setIfInBounds b o }:World).heap[b]? = some o:=by
  intro o;simp[hbl]
 rcases found hK hg e3 (fun i p e a b=>(e4 i p e a b).1) hges eP eW (w:=w) with ⟨a1,a2,aK⟩|⟨j,p,en,jE,a1,a2,a3,a4,a5,aE⟩
 ·have hes:=hp.none_of a2
  refine⟨undef,{ w with heap:=w.heap.setIfInBounds b (.map (E.push { key:=kv,val:=a.eval z,born:=clock }) (clock+1)) },m,β,.inr ⟨rfl,?_⟩,
   r.update (by grind) hb _ (.map es') (heap' _) (by simp) ⟨rfl,rfl,rfl,trivial⟩ (fun hkeep=>⟨ents.push { key:=kv,val:=a.eval z,born:=clock },_,bl,⟨_,self' _,by rw[bh9,bh9];exact eP.append_right _,eW.push _ _ aK⟩,by grind,eB,fun i p e hi he=>?_⟩)⟩
  ·rcases hop with rfl|rfl<;>simp only[execOp,hy.read r]<;>rw[Sem.run_bind]
   all_goals
    have:(Instr.mapUpdate T (a.eval x) kv (a.eval z)).run K.P w=.ok () { w with heap:=w.heap.setIfInBounds b (.map (E.push { key:=kv,val:=a.eval z,born:=clock }) (clock+1)) }:=by
     rw[hv]
     simp only[Instr.mapUpdate,Sem.run_bind,run_underlying (tyMap_inv hT),Result.andThen_ok,hobj,hK.check _ w kv hg,a1,hset]
    simp_all
  ·rw[hes] at hi
   rw[bg9] at he
   by_cases hlast:i=ents.size
   ·rw[if_pos hlast] at he
    rw[ao8 (by omega),hlast,e3] at hi
    simp at hi he
    subst hi;subst he
    exact⟨rfl,.inl hzv⟩
   ·rw[if_neg hlast] at he
    have:i<es.length:=by rw[e3];exact(au8.1 he).1
    rw[ao9 this] at hi
    exact⟨(e4 i p e hi he).1,(e4 i p e hi he).2.mono (Mem.le_refl _) (Locs.le_refl _) (fun _ h=>h) (fun x hx=>hkeep x (eB.1 _ x hx))⟩
 ·have hpp:p=(kv,p.2):=by rw[<-a4]
  rw[hpp] at a3
  have hes:=hp.some_of j p.2 a3 a5
  have hek:en.key=kv:=by grind
  refine⟨undef,{ w with heap:=w.heap.setIfInBounds b (.map (E.modify jE fun e=>{ e with key:=kv,val:=a.eval z }) clock) },m,β,.inr ⟨rfl,?_⟩,
   r.update (by grind) hb _ (.map es') (heap' _) (by simp) ⟨rfl,rfl,rfl,trivial⟩ (fun hkeep=>⟨ents.modify j fun e=>{ e with key:=kv,val:=a.eval z },_,bl,⟨_,self' _,by grind [modify_perm],eW.modify _ (fun _=>rfl) (fun e he=>by grind)⟩,by grind,eB,fun i p e hi he=>?_⟩)⟩
  ·rcases hop with rfl|rfl<;>simp only[execOp,hy.read r]<;>rw[Sem.run_bind]
   all_goals
    have:(Instr.mapUpdate T (a.eval x) kv (a.eval z)).run K.P w=.ok () { w with heap:=w.heap.setIfInBounds b (.map (E.modify jE fun e=>{ e with key:=kv,val:=a.eval z }) clock) }:=by
     rw[hv]
     simp only[Instr.mapUpdate,Sem.run_bind,run_underlying (tyMap_inv hT),Result.andThen_ok,hobj,hK.check _ w kv hg,a1,aE,au9,bm9,hek,hK.stays w kv hg,hset]
    rw[this];rfl
  ·rw[hes,List.getElem?_set] at hi
   rw[bf8] at he
   by_cases hji:j=i
   ·subst hji
    rw[if_pos rfl] at he
    rw[if_pos rfl,if_pos (by grind)] at hi
    rw[a2] at he
    simp at hi he
    subst hi;subst he
    exact⟨rfl,.inl hzv⟩
   ·rw[if_neg hji] at hi he
    exact⟨(e4 i p e hi he).1,(e4 i p e hi he).2.mono (Mem.le_refl _) (Locs.le_refl _) (fun _ h=>h) (fun x hx=>hkeep x (eB.1 _ x hx))⟩
theorem aops_mapUpdate{T k e:TypeId}{x y z:Operand}{good:Value->Prop}{kv:Value}{id:Nat}{dv:V}{es:List (Value×V)}(es':List (Value×V))(hT:tyMap K.P T k e=true)(hK:KeyT K.P k good)
  (hw:Wants ops S ⟨none,.mapUpdate T x y z,ty,pos,after,g⟩ true) (hx:evl K S x=.map id) (ho:hget S.hp id=.map es) (hy:KeyIs K S y kv) (hg:good kv) (hges:∀p,p∈es->good p.1) (hz:evl K S z=dv)
  (hp:Puts kv dv es es') (kk:AOps K ops rest Q ⟨S.env,(id,.map es')::S.hp,S.nx⟩):AOps K ops (⟨none,.mapUpdate T x y z,ty,pos,after,g⟩::rest) Q S:=aops_mapPut (.inl rfl) es' hT hK hw hx ho hy hg hges hz hp kk
end
def aget{α:Type}(d:α):List (Nat×α)->Nat->α
 |[],_=>d
 |(k,v)::e,t=>if k=t then v else aget d e t
theorem get_aget(e:Env)(t:Nat):get e t=aget .any e t:=by
 induction e with
 |nil=>rfl
 |cons p e ih=>grind [get_put,aget]
theorem hget_aget(e:Heap)(t:Nat):hget e t=aget .dead e t:=by
 induction e with
 |nil=>rfl
 |cons p e ih=>grind [hget_put,aget]
def says{α:Type}(t:Nat)(l:List (Nat×α)):Bool:=l.any fun p=>Nat.beq p.1 t
theorem aget_append{α:Type}(d:α)(l e:List (Nat×α))(t:Nat):aget d (l++e) t=if says t l=true then aget d l t else aget d e t:=by
 induction l with
 |nil=>simp[says]
 |cons p l ih=>
  obtain⟨k,v⟩:=p
  simp only[List.cons_append,aget]
  by_cases h:k=t
  ·subst h;simp[says]
  ·have hk:Nat.beq k t=false:=by cases hb:Nat.beq k t;rfl;exact absurd (bw8 hb) h
   have hs:says t ((k,v)::l)=says t l:=by simp[says,hk]
   grind
theorem aget_says{α:Type}(d:α)(l e:List (Nat×α))(t:Nat)(h:says t l=true):aget d (l++e) t=aget d l t:=by rw[aget_append,if_pos h]
def runs{α:Type}(p:Nat->Bool):Nat->List (List (Nat×α))->List (Nat×α)->List (Nat×α)
 |_,[],e=>e
 |i,u::us,e=>runs p (i+1) us (if p i then u++e else e)
theorem runs_base{α:Type}(d:α)(p:Nat->Bool)(t:Nat):∀(us:List (List (Nat×α))) (i:Nat) (e:List (Nat×α)),
  (∀j u,us[j]? = some u->says t u=true->p (i+j)=false)->aget d (runs p i us e) t=aget d e t
 |[],_,_,_=>rfl
 |u::us,i,e,h=>by
  rw[runs,runs_base d p t us (i+1) _ (fun j u' hu hs=>by have:=h (j+1) u' (by grind) hs;grind)]
  split
  ·rename_i hp
   rw[aget_append,if_neg]
   intro hs
   have:=h 0 u rfl hs
   grind
  ·rfl
theorem runs_congr{α:Type}(d:α)(p q:Nat->Bool)(t:Nat):∀(us:List (List (Nat×α))) (i:Nat) (e e':List (Nat×α)),aget d e t=aget d e' t->
  (∀j u,us[j]? = some u->says t u=true->p (i+j)=q (i+j))->aget d (runs p i us e) t=aget d (runs q i us e') t
 |[],_,_,_,he,_=>he
 |u::us,i,e,e',he,h=>by
  rw[runs,runs]
  refine runs_congr d p q t us (i+1) _ _ ?_ (fun j u' hu hs=>by have:=h (j+1) u' (by grind) hs;grind)
  by_cases hs:says t u=true
  ·have:=h 0 u rfl hs
   simp only[az9] at this
   grind [aget_says]
  ·have:∀e,aget d (if p i then u++e else e) t=aget d e t:=by
    intro e
    split
    ·rw[aget_append,if_neg hs]
    ·rfl
   rw[this]
   have:∀e,aget d (if q i then u++e else e) t=aget d e t:=by
    intro e
    split
    ·rw[aget_append,if_neg hs]
    ·rfl
   grind
theorem runs_last{α:Type}(d:α)(p:Nat->Bool)(t:Nat):∀(us:List (List (Nat×α))) (i:Nat) (e:List (Nat×α)) (j:Nat) (u:List (Nat×α)),us[j]? = some u->says t u=true->p (i+j)=true->
  (∀j' u',j<j'->us[j']? = some u'->says t u'=true->p (i+j')=false)->aget d (runs p i us e) t=aget d u t
 |[],_,_,_,_,h,_,_,_=>by simp at h
 |u0::us,i,e,0,u,hu,hs,hp,hl=>by
  simp at hu;subst hu
  simp only[az9] at hp
  rw[runs,if_pos hp,runs_base d p t us (i+1) _ (fun j u' hu' hs'=>by have:=hl (j+1) u' (by omega) (by grind) hs';grind),aget_says _ _ _ _ hs]
 |u0::us,i,e,j+1,u,hu,hs,hp,hl=>by
  rw[runs]
  refine runs_last d p t us (i+1) _ j u (by grind) hs (by grind) (fun j' u' hj' hu' hs'=>?_)
  have:=hl (j'+1) u' (by omega) (by grind) hs'
  grind
structure OD where
 re:List (Nat×V)
 rh:List (Nat×Ob)
 ue:List (Nat×V)
 uh:List (Nat×Ob)
def RdE(e:Env):List (Nat×V)->Prop
 |[]=>True
 |(t,v)::r=>get e t=v/\RdE e r
def RdH(e:Heap):List (Nat×Ob)->Prop
 |[]=>True
 |(t,v)::r=>hget e t=v/\RdH e r
theorem RdE.congr{e e':Env}:∀{l:List (Nat×V)},(∀t,says t l=true->get e t=get e' t)->RdE e l->RdE e' l
 |[],_,_=>trivial
 |(t,v)::r,h,hr=>⟨by rw[<-h t (by simp[says])];exact hr.1,RdE.congr (fun t' ht'=>h t' (by simp_all[says])) hr.2⟩
theorem RdH.congr{e e':Heap}:∀{l:List (Nat×Ob)},(∀t,says t l=true->hget e t=hget e' t)->RdH e l->RdH e' l
 |[],_,_=>trivial
 |(t,v)::r,h,hr=>⟨by rw[<-h t (by simp[says])];exact hr.1,RdH.congr (fun t' ht'=>h t' (by simp_all[says])) hr.2⟩
def St.upd(S:St)(D:OD):St:=⟨D.ue++S.env,D.uh++S.hp,S.nx⟩
def OStep(K:Ctx)(nx:Nat)(ops:Array Oper)(o:Oper)(D:OD):Prop:=∀S,S.nx=nx->RdE S.env D.re->RdH S.hp D.rh->AOps K ops [o] (fun e T=>e=.normal/\T=S.upd D) S
def OStepA(K:Ctx)(A:Heap->Prop)(nx:Nat)(ops:Array Oper)(o:Oper)(D:OD):Prop:=∀S,S.nx=nx->A S.hp->RdE S.env D.re->RdH S.hp D.rh->AOps K ops [o] (fun e T=>e=.normal/\T=S.upd D) S
def LexOk:St->List OD->Prop
 |_,[]=>True
 |S,D::ds=>RdE S.env D.re/\RdH S.hp D.rh/\LexOk (S.upd D) ds
def lexEnd:St->List OD->St
 |S,[]=>S
 |S,D::ds=>lexEnd (S.upd D) ds
theorem lex_at:∀(ds:List OD) (S:St) (j:Nat) (D:OD),LexOk S ds->ds[j]? = some D->
  RdE (runs (fun i=>Nat.blt i j) 0 (ds.map (·.ue)) S.env) D.re/\RdH (runs (fun i=>Nat.blt i j) 0 (ds.map (·.uh)) S.hp) D.rh:=by
 -- by the number of the first operation
 have key:∀(ds:List OD) (S:St) (k j:Nat) (D:OD),LexOk S ds->ds[j]? = some D->
   RdE (runs (fun i=>Nat.blt i (k+j)) k (ds.map (·.ue)) S.env) D.re/\RdH (runs (fun i=>Nat.blt i (k+j)) k (ds.map (·.uh)) S.hp) D.rh:=by
  intro ds
  induction ds with
  |nil=>grind
  |cons D0 ds ih=>
   intro S k j D hl h
   obtain⟨h1,h2,h3⟩:=hl
   cases j with
   |zero=>
    simp at h;subst h
    simp only[bd8,az9]
    constructor
    ·refine RdE.congr (fun t _=>?_) h1
     rw[get_aget,get_aget]
     refine(runs_base .any _ t _ k S.env ?_).symm
     intro j u _ _
     cases hb:Nat.blt (k+j) k;rfl
     have:=ar9 hb;omega
    ·refine RdH.congr (fun t _=>?_) h2
     rw[hget_aget,hget_aget]
     refine(runs_base .dead _ t _ k S.hp ?_).symm
     intro j u _ _
     cases hb:Nat.blt (k+j) k;rfl
     have:=ar9 hb;omega
   |succ j=>
    have hk:Nat.blt k (k+(j+1))=true:=bx8 (by omega)
    have:=ih (S.upd D0) (k+1) j D h3 (by grind)
    simp only[bd8,runs,hk,if_true]
    have e1:k+1+j=k+(j+1):=by omega
    rw[e1] at this
    exact this
 grind
theorem lex_end:∀(ds:List OD) (S:St) (k:Nat),lexEnd S ds=⟨runs (fun _=>true) k (ds.map (·.ue)) S.env,runs (fun _=>true) k (ds.map (·.uh)) S.hp,S.nx⟩
 |[],S,k=>rfl
 |D::ds,S,k=>by
  rw[lexEnd,lex_end ds (S.upd D) (k+1)]
  simp[runs,St.upd]
def preds(o:Oper):List Nat:=(o.after.toList.filter fun e=>Region.binds .any e).map (·.on)
def ancs:List Oper->List (List Nat)->List (List Nat)
 |[],acc=>acc
 |o::os,acc=>ancs os (acc++[preds o++(preds o).flatMap fun j=>acc.getD j []])
def meets{α β:Type}(l:List (Nat×α))(l':List (Nat×β)):Bool:=l.any fun p=>l'.any fun q=>Nat.beq p.1 q.1
def clash(D D':OD):Bool:=meets D.ue D'.re||meets D.ue D'.ue||meets D.re D'.ue||meets D.uh D'.rh||meets D.uh D'.uh||meets D.rh D'.uh
def anyOk(os:List Oper)(ds:List OD):Bool:=
 let A:=ancs os []
 Nat.beq os.length ds.length &&
 (List.range os.length).all fun i=>(match os[i]? with|some o=>(preds o).all fun j=>Nat.blt j i|none=>false) &&
  (List.range i).all fun j=>match ds[j]?,ds[i]? with|some D,some D'=>!clash D D'||(A.getD i []).any fun k=>Nat.beq k j|_,_=>false
def anyOkT(os:List Oper)(ds:List OD):Bool:=
 let A:=ancs os []
 Nat.ble ds.length os.length &&
 (List.range os.length).all fun i=>(match os[i]? with|some o=>(preds o).all (fun j=>Nat.blt j i)|none=>false) &&
  (List.range i).all fun j=>match Nat.blt i ds.length with
   |true=>(match ds[j]?,ds[i]? with|some D,some D'=>!clash D D'||(A.getD i []).any fun k=>Nat.beq k j|_,_=>false)
   |false=>!Nat.blt j ds.length||(A.getD i []).any fun k=>Nat.beq k j
theorem meets_of{α β:Type}{l:List (Nat×α)}{l':List (Nat×β)}{t:Nat}(h:says t l=true)(h':says t l'=true):meets l l'=true:=by
 grind [says,meets,Nat.eq_of_beq_eq_true]
theorem ancs_closed{os:List Oper}{listed:Nat->Bool}:∀(rest:List Oper) (acc:List (List Nat)) (done:List Oper),os=done++rest->acc.length=done.length->
  (∀(i:Nat) (o:Oper),os[i]? = some o->listed i=true->∀j,j∈preds o->listed j=true)->
  (∀(i:Nat) (l:List Nat),acc[i]? = some l->listed i=true->∀j,j∈l->listed j=true)->
  ∀(i:Nat) (l:List Nat),(ancs rest acc)[i]? = some l->listed i=true->∀j,j∈l->listed j=true:=by
 intro rest
 induction rest with
 |nil=>intro acc done _ _ _ h;exact h
 |cons o rest ih=>
  intro acc done hos hlen hcl hacc
  refine ih _ (done++[o]) (by simp[hos]) (by simp[hlen]) hcl ?_
  grind
section
variable{K:Ctx}{Q:Post}{S S':St}
variable{m:Mem}{β:Locs}{w:World}{a:Act}
theorem Rel.congr(r:Rel K m β w a S)(he:∀t,get S'.env t=get S.env t)(hh:∀t,hget S'.hp t=hget S.hp t)(hn:S'.nx=S.nx):Rel K m β w a S':=
 ⟨r.imm,r.ext,r.mold,r.frame,r.size,r.same,r.tn,r.df,fun t=>by rw[he];exact r.env t,fun i=>by rw[hh];exact r.own i,fun i b c h=>r.priv i b c (by grind),
  fun i i' b c c' h h'=>r.inj i i' b c c' (by grind) (by grind),
  fun i x h hx=>let q:=r.hid i x (by grind) hx;⟨q.lt,q.m,q.old,fun i' b c h'=>q.ne i' b c (by grind),fun i' h'=>q.un i' (by grind)⟩,fun i h=>r.nx i (by grind),fun q hq=>by rw[hn];exact r.pin q hq⟩
set_option maxHeartbeats 4000000 in
theorem awp_region_anyT{A:Heap->Prop}{rid:Nat}{l:List Oper}(ds:List OD)(hm:K.P.follows .mixedOrders=true)(hlex:LexOk S ds)(hok:anyOkT l ds=true)(hA:∀p:Nat->Bool,A (runs p 0 (ds.map (·.uh)) S.hp))
  (hst:∀(i:Nat) (o:Oper) (D:OD),l[i]? = some o->ds[i]? = some D->OStepA K A S.nx l.toArray o D) (hend:∀(listed:Array Bool) (m:Mem) (β:Locs) (w:World) (a:Act),listed.size=l.length->(∀i,listed.getD i false=Nat.blt i ds.length)->Rel K m β w a (lexEnd S ds)->wpAnyIn K.fc 0 K.P .any l.toArray (Q.at K) (l.length - ds.length) listed a w):AWP K (.region rid l.toArray true) Q S:=by
 intro m β w a r
 refine wpIn_region_any hm ?_
 have r0:Rel K m β { w with drawn:=w.drawn+1 } a S:=r.drawn (w.drawn+1) (ah8 _)
 -- what 'anyOk' says
 simp only[anyOkT,al9,al8,bz8] at hok
 obtain⟨hlen,hall⟩:=hok
 have hlen:=ar9 hlen
 have hpre:∀(i:Nat) (o:Oper),l[i]? = some o->∀j,j∈preds o->j<i:=by
  intro i o ho j hj
  have hi:i<l.length:=(aw8.1 ho).1
  have:=(hall i hi).1
  rw[ho] at this
  exact ar9 (al8.1 this j hj)
 have hclash:∀(i j:Nat) (D D':OD),j<i->ds[j]? = some D->ds[i]? = some D'->clash D D'=true->j∈(ancs l []).getD i []:=by
  intro i j D D' hji hD hD' hc
  have hi0:i<ds.length:=(aw8.1 hD').1
  have hi:i<l.length:=by omega
  have:=(hall i hi).2 j hji
  rw[show Nat.blt i ds.length=true from bx8 hi0,hD,hD'] at this
  simp only[hc,bk9,bt8,bt9] at this
  obtain⟨k,hk,hkj⟩:=this
  rw[<-bw8 hkj];exact hk
 -- what stands behind
 have hfirst:∀i,ds.length<=i->i<l.length->∀j,j<ds.length->j∈(ancs l []).getD i []:=by
  intro i hge hn j hj
  have:=(hall i hn).2 j (by omega)
  have hb:Nat.blt i ds.length=false:=by
   cases hb:Nat.blt i ds.length;rfl
   have:=ar9 hb;omega
  rw[hb,show Nat.blt j ds.length=true from bx8 hj] at this
  simp only[bk9,bt8,bt9] at this
  obtain⟨k,hk,hkj⟩:=this
  rw[<-bw8 hkj];exact hk
 let US:=ds.map (·.ue)
 let HS:=ds.map (·.uh)
 let St' (p:Nat->Bool):St:=⟨runs p 0 US S.env,runs p 0 HS S.hp,S.nx⟩
 have key:∀(fuel:Nat) (listed:Array Bool) (a:Act) (w:World),listed.size=l.length->fuel+(listed.toList.filter id).length=l.length->
   (∀(i:Nat) (o:Oper),l[i]? = some o->listed.getD i false=true->∀j,j∈preds o->listed.getD j false=true)->
   ((∀i,ds.length<=i->listed.getD i false=false)/\∃m β,Rel K m β w a (St' fun i=>listed.getD i false))->wpAnyIn K.fc 0 K.P .any l.toArray (Q.at K) fuel listed a w:=by
  -- all are listed: the end
  have fin0:∀(listed:Array Bool) (a:Act) (w:World),(∀i,i<ds.length->listed.getD i false=true)->(∃m β,Rel K m β w a (St' fun i=>listed.getD i false))->∃m β,Rel K m β w a (lexEnd S ds):=by
   rintro listed a w hl ⟨m,β,r⟩
   refine⟨m,β,?_⟩
   rw[lex_end ds S 0]
   refine r.congr (fun t=>?_) (fun t=>?_) rfl
   ·show get (runs (fun _=>true) 0 US S.env) t=get (runs (fun i=>listed.getD i false) 0 US S.env) t
    rw[get_aget,get_aget]
    refine runs_congr _ _ _ t _ 0 _ _ rfl fun j u hu _=>?_
    grind
   ·show hget (runs (fun _=>true) 0 HS S.hp) t=hget (runs (fun i=>listed.getD i false) 0 HS S.hp) t
    rw[hget_aget,hget_aget]
    refine runs_congr _ _ _ t _ 0 _ _ rfl fun j u hu _=>?_
    grind
  have hready:∀(listed:Array Bool) i,i∈Region.ready .any l.toArray listed<->i<l.length/\listed.getD i true=false/\∃o,l[i]? = some o/\∀j,j∈preds o->listed.getD j false=true:=by
   intro listed i
   simp only[Region.ready,bn8,bz8,be8,az8,al9,Bool.not_eq_true']
   constructor
   ·rintro⟨h1,h2,h3⟩
    refine⟨h1,h2,l[i],as8 h1,fun j hj=>?_⟩
    rw[as8 h1] at h3
    simp only[au9,bm9,Array.all_eq_true] at h3
    simp only[preds,ax9,bn8] at hj
    grind [List.getElem_of_mem]
   ·rintro⟨h1,h2,o,ho,h3⟩
    refine⟨h1,h2,?_⟩
    rw[ho]
    simp only[au9,bm9,Array.all_eq_true]
    grind [preds]
  have none_ready:∀(listed:Array Bool),listed.size=l.length->Region.ready .any l.toArray listed=[]->∀i,i<l.length->listed.getD i false=true:=by
   intro listed hsz hr i
   induction i using Nat.strongRecOn with
   |_ i ih=>
    grind
  have step:∀(listed:Array Bool) (i:Nat) (a:Act) (w:World) (K':Act->World->Prop),listed.size=l.length->
    (∀(i:Nat) (o:Oper),l[i]? = some o->listed.getD i false=true->∀j,j∈preds o->listed.getD j false=true)->
    (∃m β,Rel K m β w a (St' fun i=>listed.getD i false))->i∈Region.ready .any l.toArray listed->i<ds.length->
    (∀a w,(∃m β,Rel K m β w a (St' fun j=>(listed.setIfInBounds i true).getD j false))->K' a w)->wpOpIn K.fc 0 K.P l.toArray (Q.at K) i K' a w:=by
   rintro listed i a w K' hsz hcl ⟨m,β,r⟩ hi hin hK
   rw[hready] at hi
   obtain⟨hil,hli,o,ho,hpr⟩:=hi
   obtain⟨D,hD⟩:∃D,ds[i]? = some D:=⟨ds[i]'(by omega),as8 (by omega)⟩
   have hlf:listed.getD i false=false:=by
    have hi':i<listed.size:=by omega
    simp only[be9,av9 hi',bm9] at hli ⊢
    exact hli
   -- who stands ahead
   have anc:∀k,listed.getD k false=true->∀j,j∈(ancs l []).getD k []->listed.getD j false=true:=by
    intro k hk j hj
    cases hak:(ancs l [])[k]? with
    |none=>grind
    |some L=>
     simp[hak] at hj
     exact ancs_closed (os:=l) (listed:=fun i=>listed.getD i false) l [] [] rfl rfl hcl (by simp) k L hak hk j hj
   have ancI:∀j,j∈(ancs l []).getD i []->listed.getD j false=true:=by
    intro j hj
    have hcl':∀(k:Nat) (o':Oper),l[k]? = some o'->(listed.getD k false||Nat.beq k i)=true->∀j,j∈preds o'->(listed.getD j false||Nat.beq j i)=true:=by
     intro k o' ho' hk j hj
     rw[am9] at hk ⊢
     rcases hk with hk|hk
     ·grind
     ·grind [Nat.eq_of_beq_eq_true]
    cases hak:(ancs l [])[i]? with
    |none=>grind
    |some L=>
     simp[hak] at hj
     have h1:=ancs_closed (os:=l) (listed:=fun k=>listed.getD k false||Nat.beq k i) l [] [] rfl rfl hcl' (by simp) i L hak (by simp[Nat.beq_refl]) j hj
     simp only[am9] at h1
     rcases h1 with h1|h1
     ·exact h1
     ·exfalso
      -- nothing stands ahead of itself
      have hlt:∀(rest:List Oper) (acc:List (List Nat)) (done:List Oper),l=done++rest->acc.length=done.length->(∀(k:Nat) (L:List Nat),acc[k]? = some L->∀j,j∈L->j<k)->∀(k:Nat) (L:List Nat),(ancs rest acc)[k]? = some L->∀j,j∈L->j<k:=by
       intro rest
       induction rest with
       |nil=>intro acc done _ _ h;exact h
       |cons o' rest ih=>
        intro acc done hos hl2 hacc
        refine ih _ (done++[o']) (by simp[hos]) (by simp[hl2]) ?_
        intro k L hk j hj
        rw[bj9] at hk
        split at hk
        ·grind
        ·have hk0:k - acc.length=0:=by
          cases hx:k - acc.length with
          |zero=>rfl
          |succ n=>grind
         rw[hk0] at hk
         simp at hk
         subst hk
         have hkl:k=done.length:=by omega
         have ho'':l[k]? = some o':=by rw[hos,hkl];simp
         rcases bo9.1 hj with hj|hj
         ·grind
         ·simp only[List.mem_flatMap] at hj
          obtain⟨q,hq,hjq⟩:=hj
          have hqk:=hpre k o' ho'' q hq
          cases haq:acc[q]?<;>grind
      have:=hlt l [] [] rfl rfl (by simp) i L hak j hj
      grind [Nat.eq_of_beq_eq_true]
   -- another one that clashes
   have other:∀(j:Nat) (D':OD),j≠i->ds[j]? = some D'->(clash D' D=true\/clash D D'=true)->(j<i->clash D' D=true)->(i<j->clash D D'=true)->(listed.getD j false=Nat.blt j i):=by
    intro j D' hne hD' _ h1 h2
    rcases Nat.lt_or_gt_of_ne hne with hlt|hgt
    ·rw[ancI j (hclash i j D' D hlt hD' hD (h1 hlt))]
     exact(bx8 hlt).symm
    ·grind [Nat.blt,Nat.le_of_ble_eq_true]
   have hblt:Nat.blt i i=false:=by
    cases hb:Nat.blt i i;rfl
    have:=ar9 hb;omega
   have clash_l:∀D1 D2:OD,(meets D1.ue D2.re=true\/meets D1.ue D2.ue=true\/meets D1.re D2.ue=true\/meets D1.uh D2.rh=true\/meets D1.uh D2.uh=true\/meets D1.rh D2.uh=true)->clash D1 D2=true:=by
    intro D1 D2 h
    simp only[clash,am9]
    grind
   obtain⟨lr,lh⟩:=lex_at ds S i D hlex hD
   -- the reads
   have hre:RdE (runs (fun i=>listed.getD i false) 0 US S.env) D.re:=by
    refine RdE.congr (fun t ht=>?_) lr
    rw[get_aget,get_aget]
    refine runs_congr _ _ _ t _ 0 _ _ rfl fun j u hu hs=>?_
    rw[br9]
    simp only[at9] at hu
    cases hDj:ds[j]? with
    |none=>grind
    |some D'=>
     grind [meets_of]
   have hrh:RdH (runs (fun i=>listed.getD i false) 0 HS S.hp) D.rh:=by
    refine RdH.congr (fun t ht=>?_) lh
    rw[hget_aget,hget_aget]
    refine runs_congr _ _ _ t _ 0 _ _ rfl fun j u hu hs=>?_
    rw[br9]
    simp only[at9] at hu
    cases hDj:ds[j]? with
    |none=>grind
    |some D'=>
     grind [meets_of]
   have hset:∀j,(listed.setIfInBounds i true).getD j false=if j=i then true else listed.getD j false:=by
    intro j
    simp only[be9,bg8]
    by_cases hji:i=j
    ·grind
    ·grind
   -- the writings
   have hwe:∀t,get (runs (fun j=>(listed.setIfInBounds i true).getD j false) 0 US S.env) t=get (D.ue++runs (fun j=>listed.getD j false) 0 US S.env) t:=by
    intro t
    rw[get_aget,get_aget]
    by_cases hs:says t D.ue=true
    ·rw[aget_says _ _ _ _ hs]
     refine runs_last _ _ t _ 0 _ i D.ue (by grind) hs (by grind) ?_
     intro j u hj hu hs'
     rw[br9,hset,if_neg (by omega)]
     grind [meets_of]
    ·rw[aget_append,if_neg hs]
     refine runs_congr _ _ _ t _ 0 _ _ rfl fun j u hu hs'=>?_
     rw[br9,hset]
     grind
   have hwh:∀t,hget (runs (fun j=>(listed.setIfInBounds i true).getD j false) 0 HS S.hp) t=hget (D.uh++runs (fun j=>listed.getD j false) 0 HS S.hp) t:=by
    intro t
    rw[hget_aget,hget_aget]
    by_cases hs:says t D.uh=true
    ·rw[aget_says _ _ _ _ hs]
     refine runs_last _ _ t _ 0 _ i D.uh (by grind) hs (by grind) ?_
     intro j u hj hu hs'
     rw[br9,hset,if_neg (by omega)]
     grind [meets_of]
    ·rw[aget_append,if_neg hs]
     refine runs_congr _ _ _ t _ 0 _ _ rfl fun j u hu hs'=>?_
     rw[br9,hset]
     grind
   have hstep:=hst i o D ho hD (St' fun i=>listed.getD i false) rfl (hA _) hre hrh m β w a r
   have hcont:∀a w,(∃m β,Rel K m β w a ((St' fun i=>listed.getD i false).upd D))->K' a w:=by
    rintro a w ⟨m,β,r⟩
    exact hK a w ⟨m,β,r.congr hwe hwh rfl⟩
   unfold wpListIn at hstep
   unfold wpOpIn
   simp only[az8,ho]
   have conv:∀a w,wpListIn K.fc 0 K.P l.toArray (Post.at K fun e T=>e=.normal/\T=(St' fun i=>listed.getD i false).upd D) [] a w->K' a w:=by
    rintro a w ⟨_,T,m,β,⟨_,rfl⟩,r⟩
    exact hcont a w ⟨m,β,r⟩
   split
   ·rename_i hw
    rw[if_pos hw] at hstep
    obtain⟨hab,hstep⟩:=hstep
    refine⟨hab,?_⟩
    generalize (o.semAt K.fc.round a.eval).run K.P w=res at *
    cases res with
    |ok n w'=>
     cases n<;>simp only[Oper.uponIn] at hstep ⊢
     ·grind
     ·grind
     ·exact⟨hstep.1,hstep.2.mono fun e w'' he=>by
       cases e with
       |returned v=>grind
       |panicked ch=>obtain⟨_,T,m,β,⟨h,_⟩,_⟩:=he;simp at h
       |outgrown=>obtain⟨a,w,h,_⟩:=he<;>grind⟩
     ·exact⟨hstep.1,hstep.2.mono fun e w'' he=>by
       cases e with
       |returned v=>grind
       |panicked ch=>obtain⟨_,T,m,β,⟨h,_⟩,_⟩:=he;simp at h
       |outgrown=>obtain⟨a,w,h,_⟩:=he<;>grind⟩
     ·grind
     ·exact⟨hstep.1,hstep.2.mono fun v w'' he=>conv _ _ he⟩
    |halt x w'=>
     cases x<;>simp only[Oper.uponIn] at hstep ⊢
     obtain⟨_,T,m,β,⟨h,_⟩,_⟩:=hstep
     simp at h
   ·grind
  -- all that stands ahead is listed
  have cnt:∀(listed:Array Bool),listed.size=l.length->(∀i,listed.getD i false=Nat.blt i ds.length)->(listed.toList.filter id).length=ds.length:=by
   intro listed hsz h
   have:listed.toList=List.replicate ds.length true++List.replicate (l.length - ds.length) false:=by
    apply an8
    intro i
    have hi:=h i
    simp only[be9] at hi
    by_cases h1:i<ds.length
    ·rw[ao9 (by grind),List.getElem?_replicate,if_pos h1]
     grind [Nat.blt,Nat.ble_eq_true_of_le]
    ·rw[ao8 (by grind),List.getElem?_replicate,af9]
     by_cases h2:i<l.length
     ·rw[if_pos (by omega)]
      have hs:i<listed.size:=by omega
      have hb:Nat.blt i ds.length=false:=by
       cases hb:Nat.blt i ds.length;rfl
       have:=ar9 hb;omega
      grind
     grind
   rw[this]
   simp
  have ahead:∀(fuel:Nat) (listed:Array Bool) (a:Act) (w:World),listed.size=l.length->fuel+(listed.toList.filter id).length=l.length->(∀i,i<ds.length->listed.getD i false=true)->(∀i,ds.length<=i->listed.getD i false=false)->
    (∃m β,Rel K m β w a (St' fun i=>listed.getD i false))->wpAnyIn K.fc 0 K.P .any l.toArray (Q.at K) fuel listed a w:=by
   intro fuel listed a w hsz hcount h1 h2 h3
   have hl:∀i,listed.getD i false=Nat.blt i ds.length:=by
    intro i
    by_cases hi:i<ds.length
    ·rw[h1 i hi];exact(bx8 hi).symm
    ·grind [Nat.blt,Nat.le_of_ble_eq_true]
   obtain⟨m,β,r⟩:=fin0 listed a w h1 h3
   have hf:fuel=l.length - ds.length:=by rw[cnt listed hsz hl] at hcount;omega
   rw[hf]
   exact hend listed m β w a hsz hl r
  intro fuel
  induction fuel with
  |zero=>
   intro listed a w hsz hcount hcl hr
   have hfull:∀i,i<l.length->listed.getD i false=true:=by
    intro i hi
    have h1:(listed.toList.filter id).length=listed.toList.length:=by simp only[bc8];omega
    have h2:=List.length_filter_eq_length_iff.1 h1
    have hi':i<listed.size:=by omega
    have:=h2 listed[i] (by simp)
    simp only[be9,av9 hi',bm9]
    exact this
   grind
  |succ fuel ih=>
   intro listed a w hsz hcount hcl hr
   by_cases hA:∀i,i<ds.length->listed.getD i false=true
   ·grind
   refine⟨fun h0=>absurd (fun i hi=>none_ready listed hsz h0 i (by omega)) hA,fun i hi=>?_⟩
   have hready_i:=(hready listed i).1 hi
   have hin:i<ds.length:=by
    rcases Nat.lt_or_ge i ds.length with h|hge
    ·exact h
    ·exfalso
     apply hA
     intro j hj
     obtain⟨o,ho,hpr⟩:=hready_i.2.2
     have hin:=hfirst i hge hready_i.1 j hj
     have hcl':∀(k:Nat) (o':Oper),l[k]? = some o'->(listed.getD k false||Nat.beq k i)=true->∀j,j∈preds o'->(listed.getD j false||Nat.beq j i)=true:=by
      intro k o' ho' hk j hj
      rw[am9] at hk ⊢
      rcases hk with hk|hk
      ·grind
      ·grind [Nat.eq_of_beq_eq_true]
     cases hak:(ancs l [])[i]? with
     |none=>grind
     |some L=>
      simp[hak] at hin
      have h1:=ancs_closed (os:=l) (listed:=fun k=>listed.getD k false||Nat.beq k i) l [] [] rfl rfl hcl' (by simp) i L hak (by simp[Nat.beq_refl]) j hin
      simp only[am9] at h1
      grind [Nat.eq_of_beq_eq_true]
   refine step listed i a w _ hsz hcl hr.2 hi hin ?_
   intro a w hr'
   have hi2:=(hready listed i).1 hi
   have hi':i<listed.size:=by omega
   have hfalse:listed[i]=false:=by
    have:=hi2.2.1
    simp only[be9,av9 hi',bm9] at this
    exact this
   refine ih _ a w (by simp[hsz]) ?_ ?_ ⟨fun j hj=>by
    have hset:(listed.setIfInBounds i true).getD j false=listed.getD j false:=by
     simp only[be9,bg8]
     rw[if_neg (by omega)]
    grind,hr'⟩
   ·have:((listed.setIfInBounds i true).toList.filter id).length=(listed.toList.filter id).length+1:=by
     rw[Array.toList_setIfInBounds]
     have gen:∀(L:List Bool) (i:Nat) (h:i<L.length),L[i]=false->((L.set i true).filter id).length=(L.filter id).length+1:=by
      intro L
      induction L with
      |nil=>grind
      |cons b L ihL=>
       intro i h hb
       cases i with
       |zero=>grind
       |succ i=>
        simp only[List.set_cons_succ,List.filter_cons]
        have:=ihL i (by grind) (by grind)
        split<;>grind
     exact gen listed.toList i (by grind) (by grind)
    omega
   ·intro k o' ho' hk j hj
    have hset:∀j,(listed.setIfInBounds i true).getD j false=if j=i then true else listed.getD j false:=by
     intro j
     simp only[be9,bg8]
     by_cases hji:i=j
     ·grind
     ·grind
    rw[hset] at hk ⊢
    split
    ·rfl
    ·by_cases hki:k=i
     ·subst hki
      obtain⟨_,_,o'',ho'',hpr⟩:=hi2<;>grind
     grind
 refine key l.length (Array.replicate l.length false) a { w with drawn:=w.drawn+1 } (by simp) (by simp) ?_ ⟨fun i _=>by simp only[be9,bu9];grind,?_⟩
 ·intro i o _ h
  simp only[be9,bu9] at h
  grind
 ·refine⟨m,β,r0.congr (fun t=>?_) (fun t=>?_) rfl⟩
  ·rw[get_aget,get_aget]
   refine runs_base _ _ t _ 0 _ fun j u _ _=>?_
   simp only[be9,bu9];grind
  ·rw[hget_aget,hget_aget]
   refine runs_base _ _ t _ 0 _ fun j u _ _=>?_
   simp only[be9,bu9];grind
theorem anyOk_T{os:List Oper}{ds:List OD}(h:anyOk os ds=true):anyOkT os ds=true/\os.length=ds.length:=by
 simp only[anyOk,al9,al8,bz8] at h
 obtain⟨h1,h2⟩:=h
 have h1:=bw8 h1
 refine⟨?_,h1⟩
 simp only[anyOkT,al9,al8,bz8]
 grind [Nat.ble_eq_true_of_le,Nat.blt]
theorem awp_region_anyA{A:Heap->Prop}{rid:Nat}{l:List Oper}(ds:List OD)(hm:K.P.follows .mixedOrders=true)(hlex:LexOk S ds)(hok:anyOk l ds=true)(hA:∀p:Nat->Bool,A (runs p 0 (ds.map (·.uh)) S.hp))
  (hst:∀(i:Nat) (o:Oper) (D:OD),l[i]? = some o->ds[i]? = some D->OStepA K A S.nx l.toArray o D) (hend:Q .normal (lexEnd S ds)):AWP K (.region rid l.toArray true) Q S:=
 awp_region_anyT ds hm hlex (anyOk_T hok).1 hA hst fun listed m β w a hsz hl r=>by
  have hlen:=(anyOk_T hok).2
  rw[hlen,Nat.sub_self]
  refine⟨?_,rfl,_,m,β,hend,r⟩
  cases hrd:Region.ready .any l.toArray listed with
  |nil=>rfl
  |cons i is=>
   have hi:i∈Region.ready .any l.toArray listed:=by rw[hrd];simp
   simp only[Region.ready,bn8,bz8,be8,al9,Bool.not_eq_true'] at hi
   grind [Nat.blt,Nat.ble_eq_true_of_le]
theorem awp_region_any{rid:Nat}{l:List Oper}(ds:List OD)(hm:K.P.follows .mixedOrders=true)(hlex:LexOk S ds)(hok:anyOk l ds=true)
  (hst:∀(i:Nat) (o:Oper) (D:OD),l[i]? = some o->ds[i]? = some D->OStep K S.nx l.toArray o D) (hend:Q .normal (lexEnd S ds)):AWP K (.region rid l.toArray true) Q S:=
 awp_region_anyA (A:=fun _=>True) ds hm hlex hok (fun _=>trivial) (fun i o D h1 h2 S hn _=>hst i o D h1 h2 S hn) hend
end
section
variable{K:Ctx}{Q:Post}{S S':St}{ops:Array Oper}{rest:List Oper}{op:Op}{ty:TypeId}{pos:String}{after:Array Edge}{g:Option (Nat×Bool)}
variable{m:Mem}{β:Locs}{w:World}{a:Act}
abbrev str(l:List UInt8):Value:=.string ⟨l.toArray⟩
def binT(op:BinOp)(a b:List UInt8):Option Value:=
 match op with
 | .add=>if a.length+b.length<=9223372036854775807 then some (str (a++b)) else none
 | .eql=>some (.bool (a==b))
 | .neq=>some (.bool (!(a==b)))
 | .lss=>some (.bool (Op.bytesLess a b))
 | .leq=>some (.bool (Op.bytesLess a b||a==b))
 | .gtr=>some (.bool (!(Op.bytesLess a b||a==b)))
 | .geq=>some (.bool (!Op.bytesLess a b))
 |_=>none
theorem run_binT{P:Program}{w:World}{op:BinOp}{T:TypeId}{x y:Operand}{a b:List UInt8}{v:Value}(h:binT op a b=some v):
  (do eqGuard op T x y (str a) (str b);binOp op T (str a) (str b):Sem Value).run P w=.ok v w:=by
 have hg:(eqGuard op T x y (str a) (str b)).run P w=.ok () w:=by
  unfold eqGuard;simp_all
 rw[Sem.run_bind,hg,Result.andThen_ok]
 cases op<;>simp only[binT,reduceCtorEq,aq8] at h
 all_goals simp only[binOp,Op.stringOp,ByteArray.toList_mk]
 case add=>
  split at h
  ·rename_i hl
   simp only[aq8] at h
   subst h
   rw[if_neg]
   ·have:(⟨a.toArray⟩:ByteArray)++⟨b.toArray⟩=⟨(a++b).toArray⟩:=by
     apply ByteArray.ext;simp
    simp_all
   grind [ByteArray.size,IntKind.max,IntKind.bits]
  grind
 all_goals simp_all
theorem aops_binT{d:Nat}{bop:BinOp}{x y:Operand}{T T':TypeId}{la lb:List UInt8}(v:Value)(hw:Wants ops S ⟨some d,.binOp bop T x y T',ty,pos,after,g⟩ true)
  (hx:evl K S x=.con (str la)) (hy:evl K S y=.con (str lb)) (hv:binT bop la lb=some v) (hN:Nat.blt d K.N=true)
  (k:AOps K ops rest Q (S.put d (.con v))):AOps K ops (⟨some d,.binOp bop T x y T',ty,pos,after,g⟩::rest) Q S:=
 aops_val (.con v) hw hN (fun m β w a r=>⟨v,by
  simp only[execOp,r.con hx,r.con hy]
  exact run_value (run_binT hv),.imm (.con v)⟩) k
theorem aops_lenT{d:Nat}{x:Operand}{T:TypeId}{l:List UInt8}(hT:tyStr K.P T=true)
  (hw:Wants ops S ⟨some d,.call ⟨.builtin .len,#[x],#[T]⟩,ty,pos,after,g⟩ true) (hx:evl K S x=.con (str l)) (hN:Nat.blt d K.N=true)
  (kk:AOps K ops rest Q (S.put d (.con (.int .i64 l.length)))):
  AOps K ops (⟨some d,.call ⟨.builtin .len,#[x],#[T]⟩,ty,pos,after,g⟩::rest) Q S:=
 aops_len_str hT hw hx hN (by simp_all[ByteArray.size])
theorem aops_indexT{d:Nat}{x y:Operand}{T:TypeId}{l:List UInt8}{ik:IntKind}{n:Int}(b:UInt8)(hT:tyStr K.P T=true)
  (hw:Wants ops S ⟨some d,.index T x y,ty,pos,after,g⟩ true) (hx:evl K S x=.con (str l)) (hy:evl K S y=.con (.int ik n)) (h0:0<=n) (hb:l[n.toNat]? = some b)
  (hN:Nat.blt d K.N=true) (kk:AOps K ops rest Q (S.put d (.con (.int .u8 b.toNat)))):
  AOps K ops (⟨some d,.index T x y,ty,pos,after,g⟩::rest) Q S:=
 aops_val _ hw hN (fun m β w a r=>⟨.int .u8 b.toNat,by
  simp only[execOp,r.con hx,r.con hy]
  refine run_value ?_
  simp only[Instr.index,asIntOf,Sem.run_bind,pure,Sem.run,Result.andThen_ok,run_underlying (tyStr_inv hT)]
  rw[if_pos h0]
  have:(⟨l.toArray⟩:ByteArray)[n.toNat]? = some b:=by
   have hl:n.toNat<(⟨l.toArray⟩:ByteArray).size:=by
    have:=(aw8.1 hb).1;simpa[ByteArray.size] using this
   rw[getElem?_pos (⟨l.toArray⟩:ByteArray) n.toNat hl]
   obtain⟨h1,h2⟩:=aw8.1 hb
   rw[<-h2];rfl
  simp_all,.imm (.con _)⟩) kk
theorem aops_sliceT{d:Nat}{x:Operand}{lo hi:Option Operand}{T:TypeId}{l:List UInt8}(a0 b0:Nat)(l':List UInt8)(hT:tyStr K.P T=true)
  (hw:Wants ops S ⟨some d,.slice T x lo hi none,ty,pos,after,g⟩ true) (hx:evl K S x=.con (str l))
  (hlo:match lo with|none=>a0=0|some y=>∃ik,evl K S y=.con (.int ik a0)) (hhi:match hi with|none=>b0=l.length|some y=>∃ik,evl K S y=.con (.int ik b0))
  (h1:a0<=b0) (h2:b0<=l.length) (hl:(l.drop a0).take (b0 - a0)=l') (hN:Nat.blt d K.N=true) (kk:AOps K ops rest Q (S.put d (.con (str l')))):
  AOps K ops (⟨some d,.slice T x lo hi none,ty,pos,after,g⟩::rest) Q S:=
 aops_val _ hw hN (fun m β w a r=>⟨str l',by
  have hsz:(⟨l.toArray⟩:ByteArray).size=l.length:=by simp[ByteArray.size]
  have hu:=tyStr_inv hT
  have hext:(⟨l.toArray⟩:ByteArray).extract a0 b0=⟨l'.toArray⟩:=by
   apply ByteArray.ext
   have:=Lib.extract_toList (⟨l.toArray⟩:ByteArray) a0 b0
   rw[ByteArray.toList_eq] at this
   apply an9
   grind
  have bnd:∀(n y:Nat) (c:BoundsCode) (ik:IntKind),n<=y->(Instr.sliceBound (.int ik n) y c).run K.P w=.ok n w:=by
   intro n y c ik h
   simp only[Instr.sliceBound,asIntOf,Sem.run_bind,pure,Sem.run,Result.andThen_ok]
   rw[if_pos ⟨by omega,by omega⟩]
   simp
  simp only[execOp,r.con hx]
  refine run_value ?_
  have hs:(Instr.slice T (str l) (lo.map a.eval) (hi.map a.eval) none).run K.P w=.ok (str l') w:=by
   simp only[Instr.slice,Sem.run_bind,run_underlying hu,Result.andThen_ok,Option.isSome_none,by9,if_false,hsz]
   have hb:(Instr.sliceBounds false l.length l.length (lo.map a.eval) (hi.map a.eval) none).run K.P w=.ok (a0,b0,l.length) w:=by
    cases lo with
    |none=>
     simp only at hlo;subst hlo
     cases hi with
     |none=>simp_all[Instr.sliceBounds]
     |some y=>
      obtain⟨ik,hy⟩:=hhi
      simp only[Instr.sliceBounds,ag9,au9,r.con hy,Sem.run_bind,pure,Sem.run,Result.andThen_ok,bnd b0 _ _ ik h2,by9,if_false]
    |some z=>
     obtain⟨ik,hz⟩:=hlo
     cases hi with
     |none=>simp only at hhi;subst hhi;simp[Instr.sliceBounds,pure,r.con hz,bnd a0 _ _ ik h1]
     |some y=>
      obtain⟨ik',hy⟩:=hhi
      simp[Instr.sliceBounds,pure,r.con hz,r.con hy,bnd a0 _ _ ik h1,bnd b0 _ _ ik' h2]
   rw[hb]
   simp only[Result.andThen_ok,hext];rfl
  simp_all[Instr.sliceAt,run_underlying],.imm (.con _)⟩) kk
theorem aops_slice_lst{d k:Nat}{x:Operand}{lo hi:Option Operand}{T:TypeId}{rows:List (List V)}(a0 b0:Nat)(rows':List (List V))(hT:tySl K.P T k=true)
  (hw:Wants ops S ⟨some d,.slice T x lo hi none,ty,pos,after,g⟩ true) (hx:evl K S x=.lst k rows)
  (hlo:match lo with|none=>a0=0|some y=>∃ik,evl K S y=.con (.int ik a0)) (hhi:match hi with|none=>b0=rows.length|some y=>∃ik,evl K S y=.con (.int ik b0))
  (h1:a0<=b0) (h2:b0<=rows.length) (hl:(rows.drop a0).take (b0 - a0)=rows') (hN:Nat.blt d K.N=true) (kk:AOps K ops rest Q (S.put d (.lst k rows'))):
  AOps K ops (⟨some d,.slice T x lo hi none,ty,pos,after,g⟩::rest) Q S:=
 aops_val _ hw hN (fun m β w a r=>by
  obtain⟨e,i,hu,hi',hs⟩:=tySl_inv hT
  have hk:K.P.cellsOf e=k:=by simp[Program.cellsOf,hi',hs]
  have h:=r.reads x
  rw[hx] at h
  have bnd:∀(n y:Nat) (c:BoundsCode) (ik:IntKind),n<=y->(Instr.sliceBound (.int ik n) y c).run K.P w=.ok n w:=by
   intro n y c ik h
   simp only[Instr.sliceBound,asIntOf,Sem.run_bind,pure,Sem.run,Result.andThen_ok]
   rw[if_pos ⟨by omega,by omega⟩]
   simp
  have hb:∀cap,rows.length<=cap->(Instr.sliceBounds true rows.length cap (lo.map a.eval) (hi.map a.eval) none).run K.P w=.ok (a0,b0,cap) w:=by
   intro cap hcap
   cases lo with
   |none=>
    simp only at hlo;subst hlo
    cases hi with
    |none=>simp_all[Instr.sliceBounds]
    |some y=>
     obtain⟨ik,hy⟩:=hhi
     simp[Instr.sliceBounds,pure,r.con hy,bnd b0 cap _ ik (by omega)]
   |some z=>
    obtain⟨ik,hz⟩:=hlo
    cases hi with
    |none=>simp only at hhi;subst hhi;simp[Instr.sliceBounds,pure,r.con hz,bnd a0 _ _ ik h1]
    |some y=>
     obtain⟨ik',hy⟩:=hhi
     simp[Instr.sliceBounds,pure,r.con hz,r.con hy,bnd a0 _ _ ik h1,bnd b0 cap _ ik' (by omega)]
  have hrun:∀ad n cap,a.eval x=.slice ad n cap->n=rows.length->rows.length<=cap->
    (execOp a.eval ⟨some d,.slice T x lo hi none,ty,pos,after,g⟩).run K.P w=.ok (.value (.slice (if cap=a0 then ad else ad.map (·.add (a0*k))) (b0 - a0) (cap - a0))) w:=by
   intro ad n cap hv hn hcap
   subst hn
   simp only[execOp,hv]
   refine run_value ?_
   simp only[Instr.sliceAt,Sem.run_bind,run_underlying hu,Result.andThen_ok,ag9,Instr.slice,hb cap hcap,run_sizeOf w hi',hk]
   rfl
  generalize hv:a.eval x=v at h
  cases h with
  |imm h=>
   cases h with
   |nil _ ad cap=>
    have:rows'=[]:=by rw[<-hl];simp
    subst this
    simp only[bh8] at h2
    have:b0 - a0=0:=by omega
    exact⟨_,hrun ad 0 cap hv rfl (by simp),by rw[this];exact .imm (.nil k _ _)⟩
   | @lst _ _ ad n cap arr T' fr f hm hsp hn hcap hbd hkk hf h=>
    subst hn
    refine⟨_,hrun (some ad) _ cap hv rfl hcap,?_⟩
    by_cases hc:cap=a0
    ·have h3:b0 - a0=0:=by omega
     have:rows'=[]:=by rw[<-hl,h3];simp
     subst this
     rw[h3]
     exact .imm (.nil k _ _)
    ·rw[if_neg hc]
     have had:(some ad).map (·.add (a0*k))=some ⟨ad.block,ad.off+a0*k,none⟩:=by
      simp only[au9];rw[addr_eta hsp,add_spot]
     rw[had]
     have hlen:rows'.length=b0 - a0:=by rw[<-hl];simp;omega
     refine .imm (.lst (fun p=>f (a0*k+p)) hm rfl hlen (by omega) (by omega) (fun row hr=>hkk row (by grind)) ?_ ?_)
     ·intro p hp
      simp only
      rw[ac8]
      refine hf _ ?_
      calc a0*k+p<a0*k+rows'.length*k:=by omega
       _=(a0+rows'.length)*k:=by grind
       _<=rows.length*k:=ay9 _ (by omega)
     grind) kk
theorem aops_convInt{d:Nat}{x:Operand}{src dst:TypeId}{k k':IntKind}{n:Int}(hd:K.P.underlying dst=some (.int k))(hs:∃t,K.P.underlying src=some t)
  (hw:Wants ops S ⟨some d,.convert src dst x,ty,pos,after,g⟩ true) (hx:evl K S x=.con (.int k' n)) (hN:Nat.blt d K.N=true)
  (kk:AOps K ops rest Q (S.put d (.con (.int k (k.wrap n))))):AOps K ops (⟨some d,.convert src dst x,ty,pos,after,g⟩::rest) Q S:=
 aops_val _ hw hN (fun m β w a r=>⟨.int k (k.wrap n),by
  obtain⟨t,ht⟩:=hs
  simp only[execOp,r.con hx]
  simp_all[convert,run_underlying,Conv.intToInt],.imm (.con _)⟩) kk
theorem aops_min{d:Nat}{x y:Operand}{T T':TypeId}{k:IntKind}{n n':Int}(hw:Wants ops S ⟨some d,.call ⟨.builtin .min,#[x,y],#[T,T']⟩,ty,pos,after,g⟩ true)
  (hx:evl K S x=.con (.int k n)) (hy:evl K S y=.con (.int k n')) (hN:Nat.blt d K.N=true) (kk:AOps K ops rest Q (S.put d (.con (.int k (if n'<n then n' else n))))):
  AOps K ops (⟨some d,.call ⟨.builtin .min,#[x,y],#[T,T']⟩,ty,pos,after,g⟩::rest) Q S:=
 aops_val _ hw hN (fun m β w a r=>⟨_,run_builtin rfl (by
  simp only[builtin,bd9,bd8,ak8,r.con hx,r.con hy]
  simp_all[Builtin.min_,Builtin.min2]),.imm (.con _)⟩) kk
theorem aops_max{d:Nat}{x y:Operand}{T T':TypeId}{k:IntKind}{n n':Int}(hw:Wants ops S ⟨some d,.call ⟨.builtin .max,#[x,y],#[T,T']⟩,ty,pos,after,g⟩ true)
  (hx:evl K S x=.con (.int k n)) (hy:evl K S y=.con (.int k n')) (hN:Nat.blt d K.N=true) (kk:AOps K ops rest Q (S.put d (.con (.int k (if n'>n then n' else n))))):
  AOps K ops (⟨some d,.call ⟨.builtin .max,#[x,y],#[T,T']⟩,ty,pos,after,g⟩::rest) Q S:=
 aops_val _ hw hN (fun m β w a r=>⟨_,run_builtin rfl (by
  simp only[builtin,bd9,bd8,ak8,r.con hx,r.con hy]
  simp_all[Builtin.max_,Builtin.max2]),.imm (.con _)⟩) kk
theorem aops_eqA{d:Nat}{x y:Operand}{T T':TypeId}{xs ys:List Value}{cx cy:List V}{b:Bool}(neg:Bool)(hm:K.P.eqGuardType K.P.depth T=false)
  (heq:∀w,(Op.equalIn 10000 T (.agg xs.toArray) (.agg ys.toArray)).run K.P w=.ok b w)
  (hw:Wants ops S ⟨some d,.binOp (if neg then .neq else .eql) T x y T',ty,pos,after,g⟩ true)
  (hx:evl K S x=.agg cx) (hy:evl K S y=.agg cy) (hcx:xs.map .con=cx) (hcy:ys.map .con=cy) (hN:Nat.blt d K.N=true)
  (k:AOps K ops rest Q (S.put d (.con (.bool (if neg then !b else b))))):AOps K ops (⟨some d,.binOp (if neg then .neq else .eql) T x y T',ty,pos,after,g⟩::rest) Q S:=
 aops_val _ hw hN (fun m β w a' r=>⟨.bool (if neg then !b else b),by
  have h1:=r.reads x
  rw[hx,<-hcx] at h1
  have h2:=r.reads y
  rw[hy,<-hcy] at h2
  simp only[execOp,h1.conAgg,h2.conAgg]
  refine run_value ?_
  rw[Sem.run_bind,run_eqGuard_agg _ _ _ _ _ _ _ hm,Result.andThen_ok]
  cases neg
  ·simp only[by9,if_false,run_eql_struct,heq,Result.andThen_ok]
  ·simp only[if_true,run_neq_struct,heq,Result.andThen_ok],.imm (.con _)⟩) k
theorem aops_fieldC{d f off:Nat}{x:Operand}{T:TypeId}{cs:List V}(c:V)(hF:tyF K.P T f off=true)(hC:∃fs fl,K.P.underlying T=some (.struct fs)/\fs[f]? = some fl/\tyC K.P fl.type=true)
  (hw:Wants ops S ⟨some d,.field T x f,ty,pos,after,g⟩ true) (hx:evl K S x=.agg cs) (hc:cs[off]? = some c) (hN:Nat.blt d K.N=true)
  (kk:AOps K ops rest Q (S.put d c)):AOps K ops (⟨some d,.field T x f,ty,pos,after,g⟩::rest) Q S:=
 aops_val _ hw hN (fun m β w a r=>by
  have h:=r.reads x
  rw[hx] at h
  obtain⟨fs,fl,hu,hf,hcell⟩:=hC
  have hoff:fl.offset=off:=by
   unfold tyF at hF
   rw[hu] at hF
   simp only[hf,al9,beq_iff_eq] at hF
   exact hF.1
  have key:∃vs:Array Value,a.eval x=.agg vs/\∃v,vs[off]? = some v/\VRel m β c v:=by
   generalize a.eval x=u at h
   have get:∀vs:Array Value,cs.length=vs.size->∃v,vs[off]? = some v:=by
    intro vs hl
    have:off<vs.size:=by rw[<-hl];exact(aw8.1 hc).1
    exact⟨vs[off],by simp[this]⟩
   cases h with
   |imm h=>cases h with
    |agg hl hh=>obtain⟨v,hv⟩:=get _ hl;exact⟨_,rfl,v,hv,.imm (hh _ _ _ hc hv)⟩
   |agg hl hh=>grind
  obtain⟨vs,e1,v,e2,e3⟩:=key<;>simp_all[execOp,Instr.field,run_underlying,asAgg,part,tyC_run]) kk
end
end Go.Pv
