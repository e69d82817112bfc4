/- Part of the proof: DX5, DX6. -/
import Derived.Test.YtcihpgamojpcnaaGreatCutZS
import Derived.Test.YtcihpgamojpcnaaGreatCutWA
import Derived.Test.YtcihpgamojpcnaaGreatCutEI
set_option linter.unusedSimpArgs false
set_option linter.unusedVariables false
namespace Go.Pv
open Go
section
variable{K:Ctx}{Q:q5q}{S:St}
variable{ops:Array Oper}{rest:List Oper}
theorem w7o{E:Array MapEntry}{j:Nat}(f g h:MapEntry->MapEntry)(hh:∀e,g (f e)=h e):(E.modify j f).modify j g=E.modify j h:=by
 apply bo9;intro i;simp only[by8];split
 ·rw[Option.map_map];congr 1;funext e;exact hh e
 ·rfl
theorem v2b{E:Array MapEntry}{x:MapEntry}(f:MapEntry->MapEntry):(E.push x).modify E.size f=E.push (f x):=by
 apply bo9;intro i;simp only[by8,bz9];by_cases h:E.size=i
 ·subst h;simp
 ·rw[if_neg h,if_neg (Ne.symm h),if_neg (Ne.symm h)]
theorem v3u{E:Array MapEntry}{clock i j:Nat}{e e':MapEntry}(q:MWf E clock)(hi:E[i]? = some e)(hj:E[j]? = some e')(h:e.born=e'.born):i=j:=by
 have e1:(E.toList.map (·.born))[i]? = some e.born:=by simp[hi]
 have e2:(E.toList.map (·.born))[j]? = some e.born:=by simp[hj,h]
 exact(List.getElem?_inj (bi8.1 e1).1 q.born).1 (e1.trans e2.symm)
theorem v1l{T k e:Nat}{x y:Operand}{good:Value->Prop}{kv zv v7:Value}{id:Nat}{es:List (Value×V)}{res:Option V}{m:Mem}{β:q4m}{w:World}{a:Act}(r:Rel K m β w a S)(hT:q0s K.P T k e=true)(hK:j6b K.P k good)
  (hz0:(K.P.info? e).bind (·.zero)=some zv) (hx:evl K S x=.map id) (ho:q1e S.hp id=.map es) (hy:z1f K S y kv) (hg:good kv) (hges:∀p,p∈es->good p.1) (hl:z8m kv es res) (hd:res.getD (.con zv)=.con v7):
  ∃(mv v1:Value) (st:Int) (w1:World),a.eval x=mv/\a.eval y=kv/\(Instr.mapEntry T mv kv).run K.P w=.ok (.tuple #[v1,.int .i64 st]) w1/\
   (Instr.lookup T mv kv false).run K.P w=.ok v7 w/\(Instr.lookup T mv kv false).run K.P w1=.ok v7 w1/\
   ∀(v8:Value) (es':List (Value×V)),z5q kv (.con v8) es es'->∃w2,(Instr.entryStore T mv (.int .i64 st) v8).run K.P w1=.ok () w2/\Rel K m β w2 a ⟨S.env,(id,.map es')::S.hp,S.nx⟩:=by
 have h:=r.reads x;rw[hx] at h;generalize hv:a.eval x=v at h;cases h with
 |imm h=>cases h
 | @map _ b cap hb=>
 have h0:=r.own id;rw[hb,ho] at h0;obtain⟨ents,clock,bl,⟨E,e2,eP,eW⟩,e3,eB,e4⟩:=h0;have hobj:(getObj b).run K.P w=.ok (.map E clock) w:=by simp[getObj,Sem.run,e2]
 have hset:∀o,(setObj b o).run K.P w=.ok () { w with heap:=w.heap.setIfInBounds b o }:=by intro o;simp[setObj,Sem.run,e2]
 have hbl:=q9h e2
 have hzr:∀w:World,(zeroValue e).run K.P w=.ok zv w:=by
  intro w;cases hi:K.P.info? e with
  |none=>simp[hi] at hz0
  |some i=>
   simp[hi] at hz0;simp only[zeroValue,Sem.run_bind,run_typeInfo w hi,Result.andThen_ok,hz0];rfl
 have hgE:∀en,en∈E.toList->good en.key:=by
  intro en hen;obtain⟨i,hi⟩:=bi9 (eP.mem_iff.2 hen);have hil:i<es.length:=by rw[e3];simpa using (bi8.1 hi).1
  rw[(e4 i _ en (be8 hil) (by simpa using hi)).1];exact hges _ (bh8 hil)
 -- a lookup in a map whose entries are known
 have look:∀(w1:World) (E1:Array MapEntry) (c1:Nat) (u:Value),w1.heap[b]? = some (.map E1 c1)->MWf E1 c1->(∀en,en∈E1.toList->good en.key)->((∀en,en∈E1.toList->en.key≠kv)->u=zv)->(∀en,en∈E1.toList->en.key=kv->en.val=u)->
   (Instr.lookup T (.map (some b)) kv false).run K.P w1=.ok u w1:=by
  intro w1 E1 c1 u q1 q2 q3 q4 q5;have hobj1:(getObj b).run K.P w1=.ok (.map E1 c1) w1:=by simp[getObj,Sem.run,q1]
  rcases v4a hK hg (es:=E1.toList.map fun en=>(en.key,V.any)) (ents:=E1) (E:=E1) (clock:=c1) (w:=w1) (by simp) (fun i p en hi he=>by
   rw[bf9] at hi;have he':E1.toList[i]? = some en:=by simpa using he
   rw[he'] at hi;simp at hi;rw[<-hi]) (fun p hp=>by
   obtain⟨en,hen,rfl⟩:=bk9.1 hp;exact q3 en hen) (.refl _) q2 with ⟨a1,a2,aK⟩|⟨j,p,en,jE,a1,a2,a3,a4,a5,aE⟩
  ·rw[q4 aK];simp only[Instr.lookup,Sem.run_bind,run_underlying (q1o hT),Result.andThen_ok,hobj1,pure,Sem.run,hK.check _ w1 kv hg,a1,hzr w1];rfl
  ·have hk:en.key=kv:=by
    have h1:E1.toList[j]? = some en:=by simpa using a2
    rw[bf9,h1] at a3;simp at a3;rw[<-a4,<-a3]
   have:en.val=u:=q5 en (bd8 (by simpa using a2)) hk;rw[<-this];simp only[Instr.lookup,Sem.run_bind,run_underlying (q1o hT),Result.andThen_ok,hobj1,pure,Sem.run,hK.check _ w1 kv hg,a1];rfl
 -- what both ways end with
 have fin:∀(st:Int) (E1 E2:Array MapEntry) (c1 j:Nat) (u:Value) (es':List (Value×V)),E1.findIdx? (fun e=>(e.born:Int)==st)=some j->(E1.modify j fun e=>{ e with val:=u })=E2->
   (∀w':World,w'.heap[b]? = some (.map E2 c1)->(∀x,β.hid id x->w'.heap[x]? = w.heap[x]?)->q4l m β w' (β.hid id) (some (some (b,cap))) (.map es'))->
   ∃w2,(Instr.entryStore T (.map (some b)) (.int .i64 st) u).run K.P { w with heap:=w.heap.setIfInBounds b (.map E1 c1) }=.ok () w2/\Rel K m β w2 a ⟨S.env,(id,.map es')::S.hp,S.nx⟩:=by
  intro st E1 E2 c1 j u es' h2 h3 h4;have g1:({ w with heap:=w.heap.setIfInBounds b (.map E1 c1) }:World).heap[b]? = some (.map E1 c1):=by simp[hbl]
  refine⟨{ w with heap:=(w.heap.setIfInBounds b (.map E1 c1)).setIfInBounds b (.map E2 c1) },?_,?_⟩
  ·have hobj':(getObj b).run K.P { w with heap:=w.heap.setIfInBounds b (.map E1 c1) }=.ok (.map E1 c1) { w with heap:=w.heap.setIfInBounds b (.map E1 c1) }:=by simp[getObj,Sem.run,g1]
   have hset':∀o,(setObj b o).run K.P { w with heap:=w.heap.setIfInBounds b (.map E1 c1) }=.ok () { w with heap:=(w.heap.setIfInBounds b (.map E1 c1)).setIfInBounds b o }:=by intro o;simp[setObj,Sem.run,g1]
   simp only[Instr.entryStore,Sem.run_bind,hobj',Result.andThen_ok,asInt,asIntOf];simp only[pure,Sem.run,Result.andThen_ok,h2];rw[<-h3];exact hset' _
  ·have hheap:∀b',b'≠b->({ w with heap:=(w.heap.setIfInBounds b (.map E1 c1)).setIfInBounds b (.map E2 c1) }:World).heap[b']? = w.heap[b']?:=by
    intro b' hne;simp only[bz8];rw[if_neg (Ne.symm hne),if_neg (Ne.symm hne)]
   exact r.update (by rw[ho];simp) hb { w with heap:=(w.heap.setIfInBounds b (.map E1 c1)).setIfInBounds b (.map E2 c1) } (.map es') hheap (by simp) ⟨rfl,rfl,rfl,ae8 _⟩ (fun hkeep=>h4 _ (by simp[hbl]) hkeep)
 rcases v4a hK hg e3 (fun i p e a b=>(e4 i p e a b).1) hges eP eW (w:=w) with ⟨a1,a2,aK⟩|⟨j,p,en,jE,a1,a2,a3,a4,a5,aE⟩
 ·have hv7:v7=zv:=by
   have:=hl.none_of a2;rw[this] at hd;simpa using hd.symm
  subst hv7;have eW1:=eW.push kv v7 aK;refine⟨.map (some b),v7,clock,{ w with heap:=w.heap.setIfInBounds b (.map (E.push { key:=kv,val:=v7,born:=clock }) (clock+1)) },rfl,hy.read r,?_,look w E clock v7 e2 eW hgE (fun _=>rfl) (fun en hen hk=>absurd hk (aK en hen)),look _ (E.push { key:=kv,val:=v7,born:=clock }) (clock+1) v7 (by simp[hbl]) eW1 (fun en hen=>?_) (fun _=>rfl) (fun en hen hk=>?_),fun v8 es' hp=>?_⟩
  ·simp only[Instr.mapEntry,Sem.run_bind,run_underlying (q1o hT),Result.andThen_ok,hobj,hK.check _ w kv hg,a1,hzr w,hset];rfl
  ·rw[ca9] at hen;rcases cm8.1 hen with h|h
   ·exact hgE en h
   ·simp at h;subst h;exact hg
  ·rw[ca9] at hen;rcases cm8.1 hen with h|h
   ·exact absurd hk (aK en h)
   ·simp at h;subst h;rfl
  ·have hes:=hp.none_of a2;refine fin clock (E.push { key:=kv,val:=v7,born:=clock }) (E.push { key:=kv,val:=v8,born:=clock }) (clock+1) E.size v8 es' ?_ (v2b _) ?_
   ·rw[Array.findIdx?_eq_some_iff_getElem];refine⟨by simp,by simp,fun q hq=>?_⟩;rw[Array.getElem_push_lt hq];have:=eW.lt E[q] (by simp);simp;omega
   ·intro w' hw' hkeep;refine⟨ents.push { key:=kv,val:=v8,born:=clock },_,bl,⟨_,hw',by rw[ca9,ca9];exact eP.append_right _,eW.push _ _ aK⟩,by rw[hes];simp[e3],eB,fun i p e hi he=>?_⟩;rw[hes] at hi;rw[bz9] at he;by_cases hlast:i=ents.size
    ·rw[if_pos hlast] at he;rw[az8 (by omega),hlast,e3] at hi;simp at hi he;subst hi;subst he;exact⟨rfl,.inl (.imm (.con _))⟩
    ·rw[if_neg hlast] at he;have:i<es.length:=by rw[e3];exact(bg8.1 he).1
     rw[az9 this] at hi;exact⟨(e4 i p e hi he).1,(e4 i p e hi he).2.mono (Mem.le_refl _) (q4m.le_refl _) (fun _ h=>h) (fun x hx=>hkeep x (eB.1 _ x hx))⟩
 ·have hpp:p=(kv,p.2):=by rw[<-a4]
  rw[hpp] at a3;have hek:en.key=kv:=by rw[(e4 j _ en a3 a2).1]
  have hval:en.val=v7:=by
   have h1:=hl.some_of j p.2 a3 a5;rw[h1] at hd;have hd:p.2=.con v7:=hd;have h2:=(e4 j _ en a3 a2).2;have h2:z1z m β w (bl j) p.2 en.val:=h2;rw[hd] at h2;exact(h2.v rfl).of_con
  have hE1:(E.modify jE fun e=>{ e with key:=kv })=E:=by
   apply bo9;intro i;rw[by8];split
   ·rename_i h;subst h;rw[aE];simp[<-hek]
   ·rfl
  have hw1:({ w with heap:=w.heap.setIfInBounds b (.map E clock) }:World)=w:=by
   have:w.heap.setIfInBounds b (.map E clock)=w.heap:=by
    apply bo9;intro i;rw[bz8];split
    ·rename_i h;subst h;exact e2.symm
    ·rfl
   rw[this]
  have uniq:∀en',en'∈E.toList->en'.key=kv->en'.val=v7:=by
   intro en' hen' hk;obtain⟨i,hi⟩:=bi9 hen';have e1':(E.toList.map (·.key))[i]? = some kv:=by simp[hi,hk]
   have e2':(E.toList.map (·.key))[jE]? = some kv:=by
    have:E.toList[jE]? = some en:=by simpa using aE
    simp[this,hek]
   have:=(List.getElem?_inj (bi8.1 e1').1 eW.key).1 (e1'.trans e2'.symm);subst this;have:E.toList[i]? = some en:=by simpa using aE
   rw[hi] at this;simp at this;rw[this];exact hval
  have hlk:(Instr.lookup T (.map (some b)) kv false).run K.P w=.ok v7 w:=look w E clock v7 e2 eW hgE (fun h=>absurd hek (h en (bd8 (by simpa using aE)))) uniq;refine⟨.map (some b),en.val,en.born,w,rfl,hy.read r,?_,hlk,hlk,fun v8 es' hp=>?_⟩
  ·have:(Instr.mapEntry T (.map (some b)) kv).run K.P w=.ok (.tuple #[en.val,.int .i64 en.born]) { w with heap:=w.heap.setIfInBounds b (.map (E.modify jE fun e=>{ e with key:=kv }) clock) }:=by
    simp only[Instr.mapEntry,Sem.run_bind,run_underlying (q1o hT),Result.andThen_ok,hobj,hK.check _ w kv hg,a1,aE,bg9,ck9,hek,hK.stays w kv hg,hset];rfl
   rw[this,hE1,hw1]
  ·have hes:=hp.some_of j p.2 a3 a5;have:=fin en.born E (E.modify jE fun e=>{ e with key:=kv,val:=v8 }) clock jE v8 es' ?_ ?_ ?_
   ·rw[hw1] at this;exact this
   ·rw[Array.findIdx?_eq_some_iff_getElem];have hjl:=(bg8.1 aE).1;refine⟨hjl,?_,fun q hq=>?_⟩
    ·have:E[jE]=en:=(bg8.1 aE).2;simp[this]
    ·have hql:q<E.size:=by omega
     intro hc;have hc:(E[q].born:Int)=en.born:=by simpa using hc
     have:=v3u eW (bh9 hql) aE (by omega);omega
   ·conv=>lhs;rw[<-hE1]
    exact w7o _ _ _ (fun e=>rfl)
   ·intro w' hw' hkeep;refine⟨ents.modify j fun e=>{ e with key:=kv,val:=v8 },_,bl,⟨_,hw',by rw[ca8,ca8];exact j2e _ eP (by simpa using a2) (by simpa using aE),eW.modify _ (fun _=>rfl) (fun e he=>by rw[aE] at he;simp only[bc8] at he;subst he;exact hek.symm)⟩,by rw[hes];simp[e3],eB,fun i p e hi he=>?_⟩;rw[hes,bt8] at hi;rw[by8] at he;by_cases hji:j=i
    ·subst hji;rw[if_pos rfl] at he;rw[if_pos rfl,if_pos (by rw[e3];exact(bg8.1 a2).1)] at hi;rw[a2] at he;simp at hi he;subst hi;subst he;exact⟨rfl,.inl (.imm (.con _))⟩
    ·rw[if_neg hji] at hi he;exact⟨(e4 i p e hi he).1,(e4 i p e hi he).2.mono (Mem.le_refl _) (q4m.le_refl _) (fun _ h=>h) (fun x hx=>hkeep x (eB.1 _ x hx))⟩
end
section
variable{κ γ α:Type}[DecidableEq κ]
theorem v8p(E:κ×List (γ×α)->Value×V)(kf:κ->Value)(enc:γ×α->Value×V)(nx:Nat)(hE:∀p,E p=(kf p.1,.dmp (p.2.map enc)))(k0:κ):
  ∀xs:List (κ×List (γ×α)),(q3b xs k0).isSome=true->∃i,(xs.map E)[i]? = some (kf k0,.dmp (((q3b xs k0).getD []).map enc))/\q9z E nx k0 xs=(xs.map E).set i (kf k0,.map nx)
 |[],h=>by simp[q3b] at h
 |p::xs,h=>by
  obtain⟨q,l⟩:=p;simp only[q3b] at h;simp only[q9z,q3b];by_cases hq:q=k0
  ·subst hq;refine⟨0,?_,?_⟩<;>simp[hE]
  ·rw[if_neg hq] at h;rw[if_neg hq,if_neg hq];obtain⟨i,h1,h2⟩:=v8p E kf enc nx hE k0 xs h;exact⟨i+1,by simpa using h1,by rw[bw9,h2];rfl⟩
theorem q0r(E:κ×List (γ×α)->Value×V)(kf:κ->Value)(enc:γ×α->Value×V)(nx:Nat)(hE:∀p,E p=(kf p.1,.dmp (p.2.map enc)))(hk:∀a b,kf a=kf b->a=b)(k0:κ):
  ∀xs:List (κ×List (γ×α)),(q3b xs k0).isSome=true->z8m (kf k0) (q9z E nx k0 xs) (some (.map nx))
 |[],h=>by simp[q3b] at h
 |p::xs,h=>by
  obtain⟨q,l⟩:=p;simp only[q3b] at h;simp only[q9z];by_cases hq:q=k0
  ·subst hq;rw[if_pos rfl,hE];exact .here
  ·rw[if_neg hq] at h;rw[if_neg hq,hE];exact .there (fun e=>hq (hk _ _ e)) (q0r E kf enc nx hE hk k0 xs h)
theorem q1r(E:κ×List (γ×α)->Value×V)(good:Value->Prop)(nx:Nat)(hg:∀p,good (E p).1)(k0:κ):∀(xs:List (κ×List (γ×α))) (p:Value×V),p∈q9z E nx k0 xs->good p.1
 |[],p,h=>by simp[q9z] at h
 |q::xs,p,h=>by
  simp only[q9z] at h;split at h
  ·rcases ax8.1 h with rfl|h
   ·exact hg q
   ·obtain⟨y,_,rfl⟩:=bk9.1 h;exact hg y
  ·rcases ax8.1 h with rfl|h
   ·exact hg q
   ·exact q1r E good nx hg k0 xs p h
theorem z3o(E:κ×List (γ×α)->Value×V)(kf:κ->Value)(hE:∀p,(E p).1=kf p.1)(hk:∀a b,kf a=kf b->a=b)(k0:κ):∀xs:List (κ×List (γ×α)),(q3b xs k0).isSome=false->z8m (kf k0) (xs.map E) none
 |[],_=>.nil
 |q::xs,h=>by
  obtain⟨q,l⟩:=q;simp only[q3b] at h;by_cases hq:q=k0
  ·rw[if_pos hq] at h;simp at h
  ·rw[if_neg hq] at h;have:=z3o E kf hE hk k0 xs h;rw[bw9];have e:E (q,l)=(kf q,(E (q,l)).2):=Prod.ext (hE (q,l)) rfl;rw[e];exact .there (fun e=>hq (hk _ _ e)) this
section
variable{K:Ctx}{Q:q5q}{S:St}
theorem q3q(id nx:Nat){xs:List (κ×List (γ×α))}{k0:κ}(E:κ×List (γ×α)->Value×V)(kf:κ->Value)(enc:γ×α->Value×V)(hE:∀p,E p=(kf p.1,.dmp (p.2.map enc)))
  (hs:(q3b xs k0).isSome=true) (ho:q1e S.hp id=.map (xs.map E)) (hnx:S.nx=nx):
  q6h K S ⟨S.env,(id,.map (q9z E nx k0 xs))::(nx,.map (((q3b xs k0).getD []).map enc))::S.hp,nx+1⟩:=by
 subst hnx;obtain⟨i,h1,h2⟩:=v8p E kf enc S.nx hE k0 xs hs;rw[h2];exact fun m β w a r=>r.takeM id i S.nx (S.nx+1) (r.nx _ (ae8 _)) (fun q hq=>an8 (r.pin q hq).1) (ao9 _) (ao8 _) ho h1 (show ovl (.dmp (((q3b xs k0).getD []).map enc)) S.nx=_ from rfl)
end
end
end Go.Pv
namespace Go.Pv
open Go
theorem z1j{α:Type}{enc:α->Value×V}[i:EMK enc]{l:List α}:∀p,p∈l.map enc->q9y p.2:=by
 intro p hp;obtain⟨x,_,rfl⟩:=bk9.1 hp;exact i.h x
end Go.Pv
namespace Go.Pv
open Go
theorem v1x{P:Program}{l:List Oper}{Q:Exit->Act->World->Prop}(I:(Nat->Bool)->Act->World->Prop)(hpre:∀(i:Nat) (o:Oper),l[i]? = some o->∀j,j∈q4z o->j<i)
  (hstep:∀(s:Nat->Bool) (i:Nat) (o:Oper) (a:Act) (w:World) (K':Act->World->Prop),l[i]? = some o->s i=false->(∀j,j∈q4z o->s j=true)->I s a w->(∀a w,I (fun j=>if j=i then true else s j) a w->K' a w)->wpOp P l.toArray Q i K' a w)
  (hend:∀(s:Nat->Bool) (a:Act) (w:World),(∀i,i<l.length->s i=true)->I s a w->Q .normal a w):
  ∀(z7u:Nat) (listed:Array Bool) (a:Act) (w:World),listed.size=l.length->z7u+(listed.toList.filter id).length=l.length->I (fun i=>listed.getD i false) a w->wpAny P .any l.toArray Q z7u listed a w:=by
 have hready:∀(listed:Array Bool) i,i∈Region.ready .any l.toArray listed<->i<l.length/\listed.getD i true=false/\∃o,l[i]? = some o/\∀j,j∈q4z o->listed.getD j false=true:=by
  intro listed i;simp only[Region.ready,cm9,da8,bx8,bo8,av8,aw8];constructor
  ·rintro⟨h1,h2,h3⟩
   refine⟨h1,h2,l[i],be8 h1,fun j hj=>?_⟩;rw[be8 h1] at h3;simp only[bg9,ck9,bn8] at h3;simp only[q4z,bk9,cm9] at hj;obtain⟨e,⟨he,hb⟩,rfl⟩:=hj;obtain⟨k,hk,rfl⟩:=br8 he;have:=h3 k (by simpa using hk);simp only[Array.getElem_toList] at hb ⊢
   simpa[hb] using this
  ·rintro⟨h1,h2,o,ho,h3⟩
   refine⟨h1,h2,?_⟩;rw[ho];simp only[bg9,ck9,bn8];intro k hk;by_cases hb:Region.binds .any o.after[k]=true
   ·have:=h3 o.after[k].on (by
     simp only[q4z,bk9,cm9];exact⟨o.after[k],⟨by simp,hb⟩,rfl⟩)
    simp[hb,this]
   ·simp[Bool.eq_false_iff.2 hb]
 have none_ready:∀(listed:Array Bool),listed.size=l.length->Region.ready .any l.toArray listed=[]->∀i,i<l.length->listed.getD i false=true:=by
  intro listed hsz hr i
  induction i using Nat.strongRecOn with
  |_ i ih=>
   intro hi;cases hli:listed.getD i false with
   |true=>rfl
   |false=>
    exfalso
    have:i∈Region.ready .any l.toArray listed:=by
     rw[hready];refine⟨hi,?_,l[i],be8 hi,fun j hj=>?_⟩
     ·have hi':i<listed.size:=by omega
      simp only[bw8,bh9 hi',ck9] at hli ⊢;exact hli
     ·have:=hpre i _ (be8 hi) j hj;exact ih j this (by omega)
    rw[hr] at this;simp at this
 intro z7u
 induction z7u with
 |zero=>
  intro listed a w hsz hcount hI
  have hfull:∀i,i<l.length->listed.getD i false=true:=by
   intro i hi;have h1:(listed.toList.filter id).length=listed.toList.length:=by simp only[bs8];omega
   have h2:=List.length_filter_eq_length_iff.1 h1;have hi':i<listed.size:=by omega
   have:=h2 listed[i] (by simp);simp only[bw8,bh9 hi',ck9];exact this
  refine⟨?_,hend _ a w hfull hI⟩;cases hrd:Region.ready .any l.toArray listed with
  |nil=>rfl
  |cons i is=>
   have:i∈Region.ready .any l.toArray listed:=by rw[hrd];simp
   rw[hready] at this;have h1:=hfull i this.1;have hi':i<listed.size:=by omega
   have h2:=this.2.1;simp only[bw8,bh9 hi',ck9] at h1 h2;rw[h1] at h2;simp at h2
 |succ z7u ih=>
  intro listed a w hsz hcount hI;refine⟨fun h0=>hend _ a w (none_ready listed hsz h0) hI,fun i hi=>?_⟩;obtain⟨h1,h2,o,ho,hpr⟩:=(hready listed i).1 hi;have hi':i<listed.size:=by omega
  have hfalse:listed[i]=false:=by
   simp only[bw8,bh9 hi',ck9] at h2;exact h2
  refine hstep (fun i=>listed.getD i false) i o a w _ ho (by simp[bw8,bh9 hi',hfalse]) hpr hI (fun a w hI'=>?_);refine ih _ a w (by simp[hsz]) ?_ ?_
  ·have:((listed.setIfInBounds i true).toList.filter id).length=(listed.toList.filter id).length+1:=by
    rw[Array.toList_setIfInBounds]
    have gen:∀(L:List Bool) (i:Nat) (h:i<L.length),L[i]=false->((L.set i true).filter id).length=(L.filter id).length+1:=by
     intro L
     induction L with
     |nil=>intro i h;simp at h
     |cons b L ihL=>
      intro i h hb;cases i with
      |zero=>simp at hb;subst hb;simp
      |succ i=>
       simp only[List.set_cons_succ,ab9];have:=ihL i (by simpa using h) (by simpa using hb);split<;>simp[this]
    exact gen listed.toList i (by simpa using hi') (by simpa using hfalse)
   omega
  ·have:(fun j=>(listed.setIfInBounds i true).getD j false)=fun j=>if j=i then true else listed.getD j false:=by
    funext j
    simp only[bw8,bz8];by_cases hji:i=j
    ·subst hji;simp[hi']
    ·simp[hji,Ne.symm hji]
   rw[this];exact hI'
section
variable{K:Ctx}{Q:q5q}{s:List It}
def j2b(a0:Act)(s:Nat->Bool)(n d7 d8 d9 d10:Nat)(v7 v8 v1:Value)(st:Int)(t:Nat):Value:=
 if t=d7/\s n=true then v7 else if t=d8/\s (n+1)=true then v8 else if t=d9/\s (n+2)=true then .tuple #[v1,.int .i64 st] else if t=d10/\s (n+3)=true then .int .i64 st else a0.tmps.getD t undef
structure EntI(K:Ctx)(S':St)(a0:Act)(w0 w1:World)(n d7 d8 d9 d10:Nat)(v7 v8 v1:Value)(st:Int)(s:Nat->Bool)(a:Act)(w:World):Prop where
 lo:∀i,i<n->s i=true
 size:a.tmps.size=a0.tmps.size
 df:a.defers=a0.defers
 tm:∀t,a.tmps.getD t undef=j2b a0 s n d7 d8 d9 d10 v7 v8 v1 st t
 c8:s (n+1)=true->s n=true
 c10:s (n+3)=true->s (n+2)=true
 w:(s (n+4)=false/\w=if s (n+2)=true then w1 else w0)\/(s n=true/\s (n+1)=true/\s (n+2)=true/\s (n+3)=true/\s (n+4)=true/\∃m β,Rel K m β w a0 S')
theorem j1b{a0 a a':Act}{s s':Nat->Bool}{n d7 d8 d9 d10 i d:Nat}{v7 v8 v1 v:Value}{st:Int}(h:∀t,a.tmps.getD t undef=j2b a0 s n d7 d8 d9 d10 v7 v8 v1 st t)(ha:a'=a.put (some d) v)(hd:d<a.tmps.size)
  (hs:s'=fun j=>if j=i then true else s j) (hv:∀t,(if d=t then v else j2b a0 s n d7 d8 d9 d10 v7 v8 v1 st t)=j2b a0 s' n d7 d8 d9 d10 v7 v8 v1 st t):∀t,a'.tmps.getD t undef=j2b a0 s' n d7 d8 d9 d10 v7 v8 v1 st t:=by
 intro t;rw[ha,v4n a d v t hd,h t];exact hv t
theorem drE(n:Nat){rid nx T k e d7 d8 d9 d10 c7 id:Nat}{x y c8:Operand}{bop:BinOp}{tb tb':TypeId}{good:Value->Prop}{kv zv:Value}{k7:IntKind}{i7 i8:Int}{es:List (Value×V)}(es':List (Value×V)){res:Option V}{l:List Oper}{env:Env}{hp:q0m}{ds:List OD}{E:Env}{H:q0m}
  {o7 o8 o9 o10 o11:Oper} (hm:K.P.follows .mixedOrders=true) (h:Dr K (fun _=>True) nx l.toArray (l.take n) ⟨env,hp,nx⟩ ds ⟨E,H,nx⟩) (hn:ds.length=n) (hok:j1q l ds=true)
  (hl:l.drop n=[o7,o8,o9,o10,o11])
  (q7:o7.dst=some d7/\o7.op=.lookup T x y false/\o7.guard=none) (q8:o8.dst=some d8/\o8.op=.binOp bop tb (.tmp d7) c8 tb'/\o8.guard=none) (q9:o9.dst=some d9/\o9.op=.mapEntry T x y/\o9.guard=none)
  (q10:o10.dst=some d10/\o10.op=.extract (.tmp d9) 1/\o10.guard=none) (q11:o11.dst=none/\o11.op=.entryStore T x (.tmp d10) (.tmp d8)/\o11.guard=none)
  (hp8:(q4z o8).contains n=true) (hp10:(q4z o10).contains (n+2)=true) (hp11:((q4z o11).contains (n+1)&&(q4z o11).contains (n+3))=true)
  (hne:(Nat.blt d7 K.N&&Nat.blt d8 K.N&&Nat.blt d9 K.N&&Nat.blt d10 K.N&&!Nat.beq d7 d8&&!Nat.beq d7 d9&&!Nat.beq d7 d10&&!Nat.beq d8 d9&&!Nat.beq d8 d10&&!Nat.beq d9 d10)=true)
  (hnx:(match x with | .tmp t=>!Nat.beq t d7&&!Nat.beq t d8&&!Nat.beq t d9&&!Nat.beq t d10|_=>true)=true) (hny:(match y with | .tmp t=>!Nat.beq t d7&&!Nat.beq t d8&&!Nat.beq t d9&&!Nat.beq t d10|_=>true)=true)
  (hT:q0s K.P T k e=true) (hK:j6b K.P k good) (hz0:(K.P.info? e).bind (·.zero)=some zv) (hx:evl K ⟨E,H,nx⟩ x=.map id) (ho:q1e H id=.map es) (hy:z1f K ⟨E,H,nx⟩ y kv) (hg:good kv) (hges:∀p,p∈es->good p.1)
  (hlk:z8m kv es res) (hd:res.getD (.con zv)=.con (.int k7 i7)) (hc8:c8=.const (.int k7 c7)) (hb:y4p bop (.int k7 i7) (.int k7 c7)=some (.int k7 i8)) (hpu:z5q kv (.con (.int k7 i8)) es es')
  (kk:WG K Q s ⟨(d10,.any)::(d9,.any)::(d8,.con (.int k7 i8))::(d7,.con (.int k7 i7))::E,(id,.map es')::H,nx⟩):
  WG K Q (.c (.region rid l.toArray true)::s) ⟨env,hp,nx⟩:=by
 obtain⟨h1,h2,h3⟩:=h.fin;subst hn;refine z1h (A:=fun _=>True) ds hm h1 hok (fun _=>trivial) (fun i o D a b=>h2 i o D ?_ b) ?_
 ·have hi:i<ds.length:=(bi8.1 b).1;rw[bp9,if_pos hi];exact a
 rw[h3];intro listed m β w0 a0 hsz hlst r;generalize hn:ds.length=n at *
 have hlen:l.length=n+5:=by
  have:=congrArg List.length hl;rw[aq9] at this;simp only[cj8,cb9] at this;omega
 have hat:∀j,l[n+j]? = ([o7,o8,o9,o10,o11]:List Oper)[j]?:=by intro j;rw[<-hl,ba8]
 simp only[av8,aw8] at hne;obtain⟨⟨⟨⟨⟨⟨⟨⟨⟨b7,b8⟩,b9⟩,b10⟩,n1⟩,n2⟩,n3⟩,n4⟩,n5⟩,n6⟩:=hne;have n1:=da9 n1;have n2:=da9 n2;have n3:=da9 n3;have n4:=da9 n4;have n5:=da9 n5;have n6:=da9 n6;have b7:d7<a0.tmps.size:=by rw[r.tn];exact bd9 b7
 have b8:d8<a0.tmps.size:=by rw[r.tn];exact bd9 b8
 have b9:d9<a0.tmps.size:=by rw[r.tn];exact bd9 b9
 have b10:d10<a0.tmps.size:=by rw[r.tn];exact bd9 b10
 obtain⟨mv,v1,st,w1,f1,f2,f3,f4,f5,f6⟩:=v1l r hT hK hz0 hx ho hy hg hges hlk hd;obtain⟨w2,g1,g2⟩:=f6 (.int k7 i8) es' hpu
 have evx:∀(a:Act) (sx:Nat->Bool),(∀t,a.tmps.getD t undef=j2b a0 sx n d7 d8 d9 d10 (.int k7 i7) (.int k7 i8) v1 st t)->a.eval x=mv:=by
  intro a sx hts;rw[<-f1];cases x with
  |tmp t=>
   simp only[av8,aw8] at hnx;obtain⟨⟨⟨c1,c2⟩,c3⟩,c4⟩:=hnx;have c1:=da9 c1;have c2:=da9 c2;have c3:=da9 c3;have c4:=da9 c4
   show a.tmps.getD t undef=a0.tmps.getD t undef
   rw[hts t];simp[j2b,c1,c2,c3,c4]
  |_=>rfl
 have evy:∀(a:Act) (sx:Nat->Bool),(∀t,a.tmps.getD t undef=j2b a0 sx n d7 d8 d9 d10 (.int k7 i7) (.int k7 i8) v1 st t)->a.eval y=kv:=by
  intro a sx hts;rw[<-f2];cases y with
  |tmp t=>
   simp only[av8,aw8] at hny;obtain⟨⟨⟨c1,c2⟩,c3⟩,c4⟩:=hny;have c1:=da9 c1;have c2:=da9 c2;have c3:=da9 c3;have c4:=da9 c4
   show a.tmps.getD t undef=a0.tmps.getD t undef
   rw[hts t];simp[j2b,c1,c2,c3,c4]
  |_=>rfl
 have wn:∀(o:Oper) (a:Act),o.guard=none->Region.wanted o (yielded l.toArray a.tmps)=true:=by
  intro o a hg;obtain⟨_,_,_,_,_,gg⟩:=o;have hg:gg=none:=hg;subst hg;rfl
 have hpre:∀(i:Nat) (o:Oper),l[i]? = some o->∀j,j∈q4z o->j<i:=by
  intro i o hi j hj;simp only[j1q,av8,aw9,da8] at hok;have:=(hok.2 i (bi8.1 hi).1).1;rw[hi] at this;exact bd9 (aw9.1 this j hj)
 refine v1x (EntI K ⟨E,(id,.map es')::H,nx⟩ a0 w0 w1 n d7 d8 d9 d10 (.int k7 i7) (.int k7 i8) v1 st) hpre ?_ ?_ _ listed a0 w0 hsz ?_ ?_
 ·-- the steps
  intro sx i o a w K' hi hsi hpr I hK';obtain⟨Il,Is,Id,It,Ic8,Ic10,Iw⟩:=I
  have hin:n<=i:=by
   rcases cb8 i n with h|h
   ·rw[Il i h] at hsi;simp at hsi
   ·exact h
  have hil:i<n+5:=by rw[<-hlen];exact(bi8.1 hi).1
  obtain⟨j,rfl⟩:∃j,i=n+j:=⟨i - n,by omega⟩;have hi':=hi;rw[hat j] at hi
  have Iw:sx (n+4)=false/\w=if sx (n+2)=true then w1 else w0:=by
   rcases Iw with h|⟨e0,e1,e2,e3,e4,_⟩
   ·exact h
   ·exfalso
    match j,hil with
    |0,_=>rw[show n+0=n from rfl,e0] at hsi;simp at hsi
    |1,_=>rw[e1] at hsi;simp at hsi
    |2,_=>rw[e2] at hsi;simp at hsi
    |3,_=>rw[e3] at hsi;simp at hsi
    |4,_=>rw[e4] at hsi;simp at hsi
    |j+5,h=>omega
  unfold wpOp;rw[bo8,hi']
  show(if _ then _ else _)
  match j,hil with
  |0,_=>
   simp only[by9,bc8] at hi;subst hi;rw[if_pos (wn _ a q7.2.2)]
   left
   unfold Oper.wp
   have hr:(execOp a.eval o7).run K.P w=.ok (.value (.int k7 i7)) w:=by
    unfold execOp;rw[q7.2.1];simp only[evx a sx It,evy a sx It];rw[Iw.2];split
    ·exact q1f f5
    ·exact q1f f4
   rw[hr]
   show K' (a.put o7.dst _) w
   rw[q7.1];refine hK' _ _ ⟨fun q hq=>by simp;exact .inr (Il q hq),by simp only[Act.put,cc9];exact Is,Id,j1b It rfl (by omega) rfl (fun t=>?_),(fun _=>by simp),(fun h=>by simp at h ⊢;exact Ic10 h),.inl ⟨by simp;exact Iw.1,by rw[Iw.2];simp⟩⟩;by_cases e1:d7=t
   ·subst e1;simp[j2b]
   ·simp[j2b,e1,Ne.symm e1]
  |1,_=>
   simp only[cc8,by9,bc8] at hi;subst hi;rw[if_pos (wn _ a q8.2.2)]
   left
   unfold Oper.wp;have s7:sx n=true:=hpr n (by simpa using hp8)
   have e7:a.eval (.tmp d7)=.int k7 i7:=by
    show a.tmps.getD d7 undef=_
    rw[It d7];simp[j2b,s7]
   have hr:(execOp a.eval o8).run K.P w=.ok (.value (.int k7 i8)) w:=by
    unfold execOp;rw[q8.2.1,hc8];simp only[e7];exact q1f (v0o hb)
   rw[hr]
   show K' (a.put o8.dst _) w
   rw[q8.1];refine hK' _ _ ⟨fun q hq=>by simp;exact .inr (Il q hq),by simp only[Act.put,cc9];exact Is,Id,j1b It rfl (by omega) rfl (fun t=>?_),(fun _=>by simp;exact s7),(fun h=>by simp at h ⊢;exact Ic10 h),.inl ⟨by simp;exact Iw.1,by rw[Iw.2];simp⟩⟩;by_cases e1:d8=t
   ·subst e1;simp[j2b,Ne.symm n1]
   ·simp[j2b,e1,Ne.symm e1]
  |2,_=>
   simp only[cc8,by9,bc8] at hi;subst hi;rw[if_pos (wn _ a q9.2.2)]
   left
   unfold Oper.wp;have hw:w=w0:=by rw[Iw.2,if_neg (by rw[hsi];simp)]
   have hr:(execOp a.eval o9).run K.P w=.ok (.value (.tuple #[v1,.int .i64 st])) w1:=by
    unfold execOp;rw[q9.2.1];simp only[evx a sx It,evy a sx It];rw[hw,Sem.run_bind,f3];rfl
   rw[hr]
   show K' (a.put o9.dst _) w1
   rw[q9.1];refine hK' _ _ ⟨fun q hq=>by simp;exact .inr (Il q hq),by simp only[Act.put,cc9];exact Is,Id,j1b It rfl (by omega) rfl (fun t=>?_),(fun h=>by simp at h ⊢;exact Ic8 h),(fun _=>by simp),.inl ⟨by simp;exact Iw.1,by simp⟩⟩;by_cases e1:d9=t
   ·subst e1;simp[j2b,Ne.symm n2,Ne.symm n4]
   ·simp[j2b,e1,Ne.symm e1]
  |3,_=>
   simp only[cc8,by9,bc8] at hi;subst hi;rw[if_pos (wn _ a q10.2.2)]
   left
   unfold Oper.wp;have s9:sx (n+2)=true:=hpr (n+2) (by simpa using hp10)
   have e9:a.eval (.tmp d9)=.tuple #[v1,.int .i64 st]:=by
    show a.tmps.getD d9 undef=_
    rw[It d9];simp[j2b,s9,Ne.symm n2,Ne.symm n4]
   have hr:(execOp a.eval o10).run K.P w=.ok (.value (.int .i64 st)) w:=by
    unfold execOp;rw[q10.2.1];simp only[e9];exact q1f rfl
   rw[hr]
   show K' (a.put o10.dst _) w
   rw[q10.1];refine hK' _ _ ⟨fun q hq=>by simp;exact .inr (Il q hq),by simp only[Act.put,cc9];exact Is,Id,j1b It rfl (by omega) rfl (fun t=>?_),(fun h=>by simp at h ⊢;exact Ic8 h),(fun _=>by simp;exact s9),.inl ⟨by simp;exact Iw.1,by rw[Iw.2];simp⟩⟩;by_cases e1:d10=t
   ·subst e1;simp[j2b,Ne.symm n3,Ne.symm n5,Ne.symm n6]
   ·simp[j2b,e1,Ne.symm e1]
  |4,_=>
   simp only[cc8,by9,bc8] at hi;subst hi;rw[if_pos (wn _ a q11.2.2)]
   left
   unfold Oper.wp;simp only[av8] at hp11;have s8:sx (n+1)=true:=hpr (n+1) (by simpa using hp11.1);have s10:sx (n+3)=true:=hpr (n+3) (by simpa using hp11.2);have s7:=Ic8 s8;have s9:=Ic10 s10;have hw:w=w1:=by rw[Iw.2,if_pos s9]
   have e10:a.eval (.tmp d10)=.int .i64 st:=by
    show a.tmps.getD d10 undef=_
    rw[It d10];simp[j2b,s10,Ne.symm n3,Ne.symm n5,Ne.symm n6]
   have e8:a.eval (.tmp d8)=.int k7 i8:=by
    show a.tmps.getD d8 undef=_
    rw[It d8];simp[j2b,s8,Ne.symm n1]
   have hr:(execOp a.eval o11).run K.P w=.ok .skip w2:=by
    unfold execOp;rw[q11.2.1];simp only[evx a sx It,e10,e8];rw[hw,Sem.run_bind,g1];rfl
   rw[hr]
   show K' (a.put o11.dst _) w2
   rw[q11.1];refine hK' _ _ ⟨fun q hq=>by simp;exact .inr (Il q hq),Is,Id,fun t=>?_,fun _=>by simp;exact s7,fun _=>by simp;exact s9,.inr ⟨by simp;exact s7,by simp;exact s8,by simp;exact s9,by simp;exact s10,by simp,m,β,g2⟩⟩
   show a.tmps.getD t undef=_
   rw[It t];simp[j2b]
  |j+5,h=>omega
 ·-- the end
  intro sx a w hall I;obtain⟨Il,Is,Id,It,Ic8,Ic10,Iw⟩:=I;rcases Iw with h|⟨e0,e1,e2,e3,e4,m',β',r'⟩
  ·have:=hall (n+4) (by omega);rw[h.1] at this;simp at this
  refine⟨rfl,_,m',β',kk,⟨r'.imm,r'.ext,r'.mold,r'.frame,r'.size,r'.same,by rw[Is];exact r'.tn,by rw[Id];exact r'.df,fun t=>?_,r'.own,r'.priv,r'.inj,r'.hid,r'.nx,r'.pin⟩⟩;rw[It t];simp only[q9u,j2b,e0,e1,e2,e3,and_true];by_cases t7:t=d7
  ·subst t7;rw[if_neg (Ne.symm n3),if_neg (Ne.symm n2),if_neg (Ne.symm n1),if_pos rfl,if_pos rfl];exact .imm (.con _)
  by_cases t8:t=d8
  ·subst t8;rw[if_neg (Ne.symm n5),if_neg (Ne.symm n4),if_pos rfl,if_neg t7,if_pos rfl];exact .imm (.con _)
  by_cases t9:t=d9
  ·subst t9;rw[if_neg (Ne.symm n6),if_pos rfl];exact .imm (.any _)
  by_cases t10:t=d10
  ·subst t10;rw[if_pos rfl];exact .imm (.any _)
  rw[if_neg (Ne.symm t10),if_neg (Ne.symm t9),if_neg (Ne.symm t8),if_neg (Ne.symm t7),if_neg t7,if_neg t8,if_neg t9,if_neg t10];exact r'.env t
 ·have hb:∀q,listed.getD q false=Nat.blt q n:=hlst
  have:listed.toList=List.replicate n true++List.replicate 5 false:=by
   apply ay8;intro i;have hi:=hb i;simp only[bw8] at hi;by_cases h1:i<n
   ·rw[az9 (by simpa using h1),bt9,if_pos h1];have hs:i<listed.size:=by omega
    rw[bh9 hs,ck9,show Nat.blt i n=true from cy9 h1] at hi;simp[hs,hi]
   ·rw[az8 (by simpa using h1),bt9,al9];by_cases h2:i<n+5
    ·rw[if_pos (by omega)];have hs:i<listed.size:=by omega
     have hb:Nat.blt i n=false:=by
      cases hb:Nat.blt i n;rfl;have:=bd9 hb;omega
     rw[bh9 hs,ck9,hb] at hi;simp[hs,hi]
    ·rw[if_neg (by omega)];simp;omega
  rw[this];simp;omega
 ·have hf:∀j,listed.getD (n+j) false=false:=by
   intro j;rw[hlst (n+j)];cases hb:Nat.blt (n+j) n;rfl;have:=bd9 hb;omega
  refine⟨fun q hq=>by rw[hlst q];exact cy9 hq,rfl,rfl,fun t=>?_,fun h=>by rw[hf 1] at h;simp at h,fun h=>by rw[hf 3] at h;simp at h,.inl ⟨hf 4,by rw[hf 2];simp⟩⟩;have h0:=hf 0;rw[bl8] at h0;simp[j2b,h0,hf 1,hf 2,hf 3]
end
end Go.Pv
