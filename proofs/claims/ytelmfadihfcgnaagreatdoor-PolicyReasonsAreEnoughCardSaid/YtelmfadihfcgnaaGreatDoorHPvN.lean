/- Part of the proof. -/
import Derived.Test.YtelmfadihfcgnaaGreatDoorHPvS
set_option linter.unusedSimpArgs false
set_option linter.unusedVariables false
namespace Go.Pv
open Go
noncomputable def Fx{R:Type}(n:Nat)(k:Bool->Option R):Option R:=
 open Classical in if n≠0 then k false else if k true=k false then k true else none
theorem CJ{R:Type}{n:Nat}{k:Bool->Option R}{r:R}(h:Fx n k=some r){b:Bool}(hb:n≠0->b=false):k b=some r:=by
 unfold Fx at h;split at h
 ·grind
 ·split at h
  ·rename_i e;cases b<;>simp_all
  grind
theorem CI{R:Type}{n:Nat}{k:Bool->Option R}{r:Option R}(h:k false=r)(h':n=0->k true=r):Fx n k=r:=by
 simp_all[Fx]
section
variable{K:cR}{Q:ca}{S S':St}{ops:Array Oper}{rest:List Oper}{op:Op}{ty:TypeId}{pos:String}{after:Array Edge}{g:Option (Nat×Bool)}
variable{m:bB}{β:ba}{w:World}{a:Act}
theorem ux{P:Program}{T:TypeId}{x y:Operand}(neg:Bool)(hT:cQ P T=true)(ad:Option Addr)(n c:Nat):
  ∃b:Bool,(n≠0->ad.isSome=true->b=false)/\(ad=none->b=true)/\
   (do eqGuard (if neg then .neq else .eql) T x y (.slice ad n c) (.slice none 0 0);binOp (if neg then .neq else .eql) T (.slice ad n c) (.slice none 0 0):Sem Value).run P w=.ok (.bool (if neg then !b else b)) w:=by
 obtain⟨e,hu⟩:∃e,P.underlying T=some (.slice e):=by
  grind [cQ]
 have hd:(10000:Nat)=9999+1:=rfl
 have hg:∀op:BinOp,(eqGuard op T x y (.slice ad n c) (.slice none 0 0)).run P w=.ok () w:=by
  intro op;unfold eqGuard;simp_all
 have hq:(Op.equal T (.slice ad n c) (.slice none 0 0)).run P w=.ok ad.isNone w:=by
  rw[Op.equal,Op.maxDepth,hd,Op.equalIn];simp only[Sem.run_bind,run_underlying hu,Result.andThen_ok];cases ad<;>rfl
 refine⟨ad.isNone,fun _ h=>by simp_all,fun h=>by simp[h],?_⟩;rw[Sem.run_bind,hg,Result.andThen_ok];cases neg<;>simp_all[binOp]
theorem ql{d:Nat}{x y:Operand}{T T':TypeId}(neg:Bool)(hT:cQ K.P T=true)(hw:aN ops S ⟨some d,.binOp (if neg then .neq else .eql) T x y T',ty,pos,after,g⟩ true)
  (hx:evl K S x=nV) (hy:evl K S y=nV) (hN:Nat.blt d K.N=true)
  (k:ay K ops rest Q (S.put d (bV (if neg then false else true)))):ay K ops (⟨some d,.binOp (if neg then .neq else .eql) T x y T',ty,pos,after,g⟩::rest) Q S:=
 aX _ hw hN (fun m β w a r=>by
  obtain⟨b,_,hb,hr⟩:=ux (P:=K.P) (w:=w) (x:=x) (y:=y) neg hT none 0 0;rw[hb rfl] at hr;refine⟨.bool (if neg then !true else true),?_,?_⟩
  ·simp only[execOp,r.con hx,r.con hy];exact bk hr
  ·cases neg<;>exact .imm (.con _)) k
def HZ:V->Option Nat
 | .lst _ rows=>some rows.length
 | .own _ n=>some n
 |_=>none
theorem nO{d n:Nat}{x y:Operand}{T T':TypeId}{v:V}(neg:Bool)(hT:cQ K.P T=true)(hw:aN ops S ⟨some d,.binOp (if neg then .neq else .eql) T x y T',ty,pos,after,g⟩ true)
  (hx:evl K S x=v) (hy:evl K S y=nV) (hn:HZ v=some n) (hN:Nat.blt d K.N=true)
  (k:∀b:Bool,(n≠0->b=false)->ay K ops rest Q (S.put d (bV (if neg then !b else b)))):ay K ops (⟨some d,.binOp (if neg then .neq else .eql) T x y T',ty,pos,after,g⟩::rest) Q S:=by
 intro m β w a r;have h:=r.reads x;rw[hx] at h
 have key:∃ad c,a.eval x=.slice ad n c/\(n≠0->ad.isSome=true):=by
  generalize hv:a.eval x=u at h;cases v with
  |lst k rows=>
   simp only[HZ,ax9] at hn;cases h with
   |imm h=>
    cases h<;>simp_all
  |own id n'=>
   simp only[HZ,ax9] at hn;subst hn;cases h with
   |imm h=>cases h
   |ownNil=>grind
   |own=>grind
  |_=>simp[HZ] at hn
 obtain⟨ad,c,hv,hs⟩:=key;obtain⟨b,hb,_,hr⟩:=ux (P:=K.P) (w:=w) (x:=x) (y:=y) neg hT ad n c;have kk:=k b fun hn=>hb hn (hs hn);unfold wpListIn;rw[if_pos (hw.at r)];refine fY (.inr (fun c h=>by cases h)) ?_;unfold Oper.wp
 have hrun:(execOp a.eval ⟨some d,.binOp (if neg then .neq else .eql) T x y T',ty,pos,after,g⟩).run K.P w=.ok (.value (.bool (if neg then !b else b))) w:=by
  simp only[execOp,hv,r.con hy];exact bk hr
 rw[hrun];exact kk m β w _ (r.put hN (.imm (.con _)))
theorem kZ{d T e k bytes:Nat}(hT:eQ K.P T e k bytes=true)(hw:aN ops S ⟨some d,.buildSlice T 0 #[],ty,pos,after,g⟩ true)(hN:Nat.blt d K.N=true)
  (kk:ay K ops rest Q ⟨(d,.own S.nx 0)::S.env,(S.nx,.arr e k [])::S.hp,S.nx+1⟩):ay K ops (⟨some d,.buildSlice T 0 #[],ty,pos,after,g⟩::rest) Q S:=by
 refine cm hw (fun m β w a r=>?_) kk;obtain⟨i,z,hu,hi,hs,hby,hzz,hzk⟩:=eX hT
 obtain⟨β',hle,hnx,r2⟩:=r.alloc (.cells #[] e (0,0)) (.arr e k []) ⟨0,0⟩ _ rfl (fun β' hle=>by
  grind [dZ])
 refine⟨.slice (some ⟨w.heap.size,0,none⟩) 0 0,{ w with heap:=w.heap.push (.cells #[] e (0,0)) },m,β',.inl ?_,bX.put r2 hN (.own hnx)⟩;simp only[execOp];rw[Sem.run_bind]
 have:(Instr.buildSlice T 0 ((#[]:Array (Nat×Operand)).map fun(i,x)=>(i,a.eval x))).run K.P w=.ok (.slice (some ⟨w.heap.size,0,none⟩) 0 0) { w with heap:=w.heap.push (.cells #[] e (0,0)) }:=by
  simp only[Instr.buildSlice,Sem.run_bind,run_underlying hu,Result.andThen_ok,run_sizeOf w hi];simp[pure,Sem.run,Instr.fill,newRow,newObj,Sem.run_bind,Result.andThen];have e0:(Array.map (fun _=>(default:Value)) (Array.range 0))=#[]:=by apply as8;simp
  rw[e0]
 simp_all
def hJ(agg:Bool)(l:List Value):Value:=if agg then .agg l.toArray else l.headD undef
structure m4(P:Program)(d:Nat)(t:TypeId)(k:Nat)(agg:Bool)(good:List Value->Prop):Prop where
 len:∀l,good l->l.length=k
 kind:∀w,(isAgg t).run P w=.ok agg w/\(sizeOf t).run P w=.ok k w
 eq:∀w xs ys,good xs->good ys->∃b,(Op.equalIn d t (hJ agg xs) (hJ agg ys)).run P w=.ok b w/\(b=true<->xs=ys)
 key:∀b w xs,good xs->(Instr.checkKey b d t (hJ agg xs)).run P w=.ok () w
 bits:∀xs,good xs->xs.all (fun v=>Instr.sameBits 0 v v)=true
 guard:P.eqGuardType d t=false
theorem m4.weaken{P:Program}{d k:Nat}{t:TypeId}{agg:Bool}{good good':List Value->Prop}(h:m4 P d t k agg good)(hg:∀l,good' l->good l):m4 P d t k agg good':=
 ⟨fun l hl=>h.len l (hg l hl),h.kind,fun w xs ys hx hy=>h.eq w xs ys (hg _ hx) (hg _ hy),fun b w xs hx=>h.key b w xs (hg _ hx),fun xs hx=>h.bits xs (hg _ hx),h.guard⟩
theorem Gs{P:Program}{d:Nat}{t:TypeId}{k:IntKind}(hu:P.underlying t=some (.int k))(hc:ri P t=true):m4 P (d+1) t 1 false (fun l=>∃n,l=[.int k n]) where
 len:=by grind
 kind:=fun w=>mC hc w
 eq:=by
  rintro w xs ys ⟨n,rfl⟩ ⟨n',rfl⟩
  exact⟨_,run_equalIn_int w d t k k n n' hu,by simp⟩
 key:=by
  simp_all[Instr.checkKey,run_underlying]
 bits:=by simp_all[Instr.sameBits]
 guard:=by simp[Program.eqGuardType,hu]
theorem C7{P:Program}{d:Nat}{t:TypeId}(hu:P.underlying t=some .bool)(hc:ri P t=true):m4 P (d+1) t 1 false (fun l=>∃n,l=[.bool n]) where
 len:=by grind
 kind:=fun w=>mC hc w
 eq:=by
  rintro w xs ys ⟨n,rfl⟩ ⟨n',rfl⟩
  exact⟨_,run_equalIn_bool' w d t n n' hu,by simp⟩
 key:=by
  simp_all[Instr.checkKey,run_underlying]
 bits:=by simp_all[Instr.sameBits]
 guard:=by simp[Program.eqGuardType,hu]
theorem Gr{P:Program}{d:Nat}{t:TypeId}(hu:P.underlying t=some .string)(hc:ri P t=true):m4 P (d+1) t 1 false (fun l=>∃s,l=[.string s]) where
 len:=by grind
 kind:=fun w=>mC hc w
 eq:=by
  rintro w xs ys ⟨n,rfl⟩ ⟨n',rfl⟩
  refine⟨_,run_equalIn_string w d t n n' hu,?_⟩;rw[<-beq_toListBytes,mQ];simp
 key:=by
  simp_all[Instr.checkKey,run_underlying]
 bits:=by simp_all[Instr.sameBits,mQ]
 guard:=by simp[Program.eqGuardType,hu]
def Ov(g1 g2:List Value->Prop)(l:List Value):Prop:=∃a b,l=a++b/\g1 a/\g2 b
structure OU(P:Program)(d N:Nat)(fs:List Field)(off:Nat)(good:List Value->Prop):Prop where
 len:∀l,good l->off+l.length=N
 eq:∀w (xs ys:List Value),good (xs.drop off)->good (ys.drop off)->∃b,(Op.eqFields d xs.toArray ys.toArray fs).run P w=.ok b w/\(b=true<->xs.drop off=ys.drop off)
 key:∀b w (xs:List Value),good (xs.drop off)->∀f,f∈fs->f.name ≠ "_" → ∃v,(part f.type xs.toArray f.offset).run P w=.ok v w/\(Instr.checkKey b d f.type v).run P w=.ok () w
 bits:∀l,good l->l.all (fun v=>Instr.sameBits 0 v v)=true
 guard:fs.any (fun f=>f.name != "_" && P.eqGuardType d f.type)=false
theorem sd{P:Program}{d:Nat}{t:TypeId}{k:Nat}{agg:Bool}{good:List Value->Prop}(h:m4 P d t k agg good)(w:World)(xs:List Value)(off:Nat){a b:List Value}(hd:xs.drop off=a++b)(hg:good a)
  (h1:agg=false->k=1):(part t xs.toArray off).run P w=.ok (hJ agg a) w:=by
 have hl:=h.len _ hg;unfold part;simp only[Sem.run_bind,(h.kind w).1,Result.andThen_ok];cases agg with
 |true=>
  simp only[if_true,Sem.run_bind,(h.kind w).2,Result.andThen_ok,hJ]
  simp_all
 |false=>
  have hk:=h1 rfl;rw[hk] at hl
  match a,hl with
  |[v],_=>
   have:xs[off]? = some v:=by
    have:=congrArg (fun l=>l[0]?) hd
    simpa using this
   simp_all[hJ]
theorem ID{P:Program}{d N:Nat}:OU P d N [] N (fun l=>l=[]) where
 len:=by grind
 eq:=by
  rintro w xs ys hx hy
  exact⟨true,rfl,by grind⟩
 key:=by grind
 bits:=by grind
 guard:=rfl
theorem oH {P:Program} {d N off k:Nat} {f:Field} {fs:List Field} {agg:Bool} {g1 g2:List Value->Prop} (h:m4 P d f.type k agg g1) (h1:agg=false->k=1) (hf:f.offset=off) (hn:f.name ≠ "_")
  (hr:OU P d N fs (off+k) g2):OU P d N (f::fs) off (Ov g1 g2) where
 len:=by
  rintro l ⟨a,b,rfl,ha,hb⟩
  have e1:=h.len a ha;have e2:=hr.len b hb
  grind
 eq:=by
  rintro w xs ys ⟨a,b,ha,ga,gb⟩ ⟨a',b',ha',ga',gb'⟩
  have e1:=h.len a ga;have e2:=h.len a' ga';have db:xs.drop (off+k)=b:=by rw[<-cg9,ha,<-e1];simp
  have db':ys.drop (off+k)=b':=by rw[<-cg9,ha',<-e2];simp
  obtain⟨r1,hr1,ir1⟩:=h.eq w a a' ga ga';obtain⟨r2,hr2,ir2⟩:=hr.eq w xs ys (by grind) (by grind);rw[db,db'] at ir2;rw[ha,ha'];refine⟨r1&&r2,?_,?_⟩
  ·simp only[Op.eqFields];rw[if_pos hn];simp only[Sem.run_bind,hf,sd h w xs off ha ga h1,sd h w ys off ha' ga' h1,Result.andThen_ok,hr1];cases r1<;>simp_all
  ·rw[aq9,ir1,ir2]
   grind [List.append_inj]
 key:=by
  rintro b w xs ⟨a,c,ha,ga,gc⟩ f' hf' hn'
  have e1:=h.len a ga;have dc:xs.drop (off+k)=c:=by rw[<-cg9,ha,<-e1];simp
  rcases as9.1 hf' with rfl|hm
  ·exact⟨_,by grind [sd],h.key b w a ga⟩
  ·exact hr.key b w xs (by grind) f' hm hn'
 bits:=by
  rintro l ⟨a,b,rfl,ga,gb⟩
  rw[cg8,h.bits a ga,hr.bits b gb];rfl
 guard:=by
  rw[List.any_cons,hr.guard,h.guard];simp
theorem yK{P:Program}{w:World}{β:Type}(f:Field->β->Sem (ForInStep β)):∀(fs:List Field) (x:β),(∀g,g∈fs->(f g x).run P w=.ok (.yield x) w)->(forIn fs x f).run P w=.ok x w
 |[],x,_=>rfl
 |g::fs,x,h=>by
  simp_all[yK]
theorem yO{P:Program}{d t N:Nat}{good:List Value->Prop}{fs:List Field}(hf:(P.fieldsOf t).toList=fs)(hu:P.underlying t=some (.struct (P.fieldsOf t)))(hc:zy P t N=true)(hp:P.stoodInHeld t=false)
  (h:OU P d N fs 0 good):m4 P (d+1) t N true good where
 len:=fun l hl=>by have:=h.len l hl;omega
 kind:=fun w=>vB hc w
 eq:=by
  intro w xs ys hx hy;simp only[hJ,if_true];rw[run_equalIn_agg w d t _ _ hu hp,hf];exact h.eq w xs ys hx hy
 key:=by
  intro b w xs hx;simp only[hJ,if_true];rw[Instr.checkKey];simp only[Sem.run_bind,run_underlying hu,Result.andThen_ok];rw[<-Array.forIn_toList,hf];rw[yK]
  ·rfl
  ·intro f hf';by_cases hn:f.name = "_"
   ·simp[hn]
   ·obtain⟨v,h1,h2⟩:=h.key b w xs hx f hf' hn<;>simp_all
 bits:=h.bits
 guard:=by
  simp only[Program.eqGuardType,hu];rw[<-Array.any_toList,hf];exact h.guard
end
theorem tV:∀(v:Value),Instr.sameBits 0 v v=true->Instr.sameBits 9999 v v=true:=by
 intro v h;cases v<;>simp[Instr.sameBits] at h ⊢<;>exact h
theorem BV{P:Program}{t:TypeId}{k:Nat}{good:List Value->Prop}(h:m4 P 10000 t k true good)(w:World)(xs:List Value)(hx:good xs):∀(es:List MapEntry) (n:Nat),(∀e,e∈es->∃ys,good ys/\e.key=.agg ys.toArray)->
  ((Instr.findAsking t (.agg xs.toArray) es n).run P w=.ok none w/\∀e,e∈es->e.key≠.agg xs.toArray) ∨
  ∃j e,(Instr.findAsking t (.agg xs.toArray) es n).run P w=.ok (some (n+j,e.val)) w/\es[j]? = some e/\e.key=.agg xs.toArray/\∀i e',i<j->es[i]? = some e'->e'.key≠.agg xs.toArray
 |[],n,_=>.inl ⟨rfl,by simp⟩
 |e::es,n,hg=>by
  obtain⟨ys,hy,he⟩:=hg e (by simp);obtain⟨b,hb,ib⟩:=h.eq w xs ys hx hy;simp only[hJ,if_true] at hb
  have hstep:(Instr.findAsking t (.agg xs.toArray) (e::es) n).run P w=if b=true then .ok (some (n,e.val)) w else (Instr.findAsking t (.agg xs.toArray) es (n+1)).run P w:=by
   rw[Instr.findAsking,he,Op.equal,Op.maxDepth];simp only[Sem.run_bind,hb,Result.andThen_ok]
   simp_all
  by_cases hbt:b=true
  ·refine .inr ⟨0,e,by grind,rfl,by grind,by simp⟩
  ·have hne:e.key≠.agg xs.toArray:=by
    rw[he];intro e';simp only[Value.agg.injEq] at e';have:xs=ys:=by have:=congrArg Array.toList e';simpa using this.symm
    exact hbt (ib.2 this)
   rcases BV h w xs hx es (n+1) (fun e' he'=>hg e' (by simp[he'])) with ⟨a1,a2⟩|⟨j,e',a1,a2,a3,a4⟩
   ·grind
   ·refine .inr ⟨j+1,e',by grind,by grind,a3,fun i e'' hi he''=>?_⟩
    grind
theorem FX{P:Program}{t:TypeId}{k:Nat}{good:List Value->Prop}{gv:Value->Prop}(h:m4 P 10000 t k true good)(hu:P.underlying t=some (.struct (P.fieldsOf t)))(hg:∀v,gv v->∃xs,good xs/\v=.agg xs.toArray):ja P t gv where
 check:=by
  intro b w v hv;obtain⟨xs,hx,rfl⟩:=hg v hv;exact h.key b w xs hx
 find:=by
  intro w x hx es hes;obtain⟨xs,hxs,rfl⟩:=hg x hx
  have hnow:∀es:List MapEntry,Instr.findNow (.struct (P.fieldsOf t)) (.agg xs.toArray) es 0=none\/es=[]:=by
   intro es;cases es with
   |nil=>grind
   |cons e es=>
    left
    simp[Instr.findNow,Instr.sameNow]
  have hfk:(Instr.findKey t (.agg xs.toArray) es).run P w=(Instr.findAsking t (.agg xs.toArray) es 0).run P w:=by
   simp only[Instr.findKey,Sem.run_bind,run_underlying hu,Result.andThen_ok];rcases hnow es with hn|rfl
   ·rw[hn]
   ·rfl
  grind [BV]
 stays:=by
  intro w v hv;obtain⟨xs,hx,rfl⟩:=hg v hv;have hb:=h.bits xs hx
  have:Instr.sameBits 10000 (.agg xs.toArray) (.agg xs.toArray)=true:=by
   rw[show(10000:Nat)=9999+1 from rfl,Instr.sameBits];simp only[beq_self_eq_true,ah9,aq8]
   rintro⟨x,y⟩ hxy
   have hxy':x=y/\x∈xs:=by
    obtain⟨i,hi⟩:=ap9.1 hxy;rw[List.getElem?_zip_eq_some] at hi;simp only at hi;obtain⟨h1,h2⟩:=hi;rw[h1] at h2;exact⟨ah8 h2,ay9 (by simpa using h1)⟩
   obtain⟨rfl,hm⟩:=hxy';exact tV x (aq8.1 hb x hm)
  simp_all[Instr.keyThatStays]
theorem yv:∀a b:Bool,(Value.bool a)=.bool b->a=b:=by grind
section
variable{K:cR}{Q:ca}{S S':St}{ops:Array Oper}{rest:List Oper}{op:Op}{ty:TypeId}{pos:String}{after:Array Edge}{g:Option (Nat×Bool)}
variable{m:bB}{β:ba}{w:World}{a:Act}
theorem cy:aY K S ⟨S.env,(S.nx,.res)::S.hp,S.nx+1⟩:=by
 intro m β w a r
 let β':ba:=⟨β.f,fun i=>if i=S.nx then fun _=>False else β.hid i⟩
 have hle:β.le β':=fun _ _ h=>h;have hn:β'.hid S.nx=fun _=>False:=by show(if _ then _ else _)=_;grind
 have hho:∀i,i≠S.nx->β'.hid i=β.hid i:=fun i h=>by grind
 have hlive:∀i,i≠S.nx->ak ((S.nx,Ob.res)::S.hp) i≠.dead->ak S.hp i≠.dead:=by
  intro i h hi;rw[av,if_neg (Ne.symm h)] at hi;exact hi
 refine⟨m,β',r.imm,r.ext,r.mold,r.frame,r.size,r.same,r.tn,r.df,fun t=>(r.env t).mono (bB.le_refl _) hle,?_,?_,?_,?_,fun id h=>r.nx id (Nat.le_of_succ_le h),fun q hq=>⟨Nat.lt_succ_of_lt (r.pin q hq).1,(r.pin q hq).2⟩⟩
 ·intro id
  show bn m β' w (β'.hid id) (β id) (ak ((S.nx,Ob.res)::S.hp) id)
  rw[av];split
  ·rename_i h;subst h;rw[r.nx _ (ae9 _)];trivial
  ·rename_i h;rw[hho id (Ne.symm h)];exact bn.mono (bB.le_refl _) hle (fun _ _ h=>h) (fun _ _=>Y) (r.own id)
 ·intro id b cap hl hb;rw[av] at hl;split at hl
  ·rename_i h;subst h;have hb:β S.nx=some (some (b,cap)):=hb;rw[r.nx _ (ae9 _)] at hb;simp at hb
  ·exact r.priv id b cap hl hb
 ·intro id id' b c c' hl hl' hb hb';rw[av] at hl hl';split at hl
  ·rename_i h;subst h;have hb:β S.nx=some (some (b,c)):=hb;rw[r.nx _ (ae9 _)] at hb;simp at hb
  ·split at hl'
   ·rename_i h;subst h;have hb':β S.nx=some (some (b,c')):=hb';rw[r.nx _ (ae9 _)] at hb';simp at hb'
   ·exact r.inj id id' b c c' hl hl' hb hb'
 ·intro id x hl hx;by_cases h:id=S.nx
  ·grind
  ·rw[hho id h] at hx;have q:=r.hid id x (hlive id h hl) hx;refine⟨q.lt,q.m,q.old,fun i b c hi hb=>?_,fun i hi hx'=>?_⟩
   ·by_cases h':i=S.nx
    ·subst h';have hb:β S.nx=some (some (b,c)):=hb;rw[r.nx _ (ae9 _)] at hb;simp at hb
    ·exact q.ne i b c (hlive i h' hi) hb
   ·by_cases h':i=S.nx
    ·grind
    ·rw[hho i h'] at hx';exact q.un i (hlive i h' hi) hx'
theorem bX.free(r:bX K m β w a S){id:Nat}(h:ak S.hp id=.res):β id=none:=by
 have:=r.own id
 grind [bn]
theorem bX.allocAt(r:bX K m β w a S)(id:Nat)(hid:id<S.nx)(hpid:K.pins<=id)(hres:ak S.hp id=.res)(o:Obj)(ob:Ob)(cap:ol)(w':World)(hw':w'={ w with heap:=w.heap.push o })
  (hok:∀β',β.le β'->bn m β' w' (fun _=>False) (some (some (w.heap.size,cap))) ob):
  ∃β':ba,β.le β'/\β' id=some (some (w.heap.size,cap))/\bX K m β' w' a ⟨S.env,(id,ob)::S.hp,S.nx⟩:=
 r.allocG id S.nx (r.free hres) (fun q hq=>by omega) hid (ae9 _) o ob cap w' hw' (fun _=>False) (fun _ h=>h.elim) hok
theorem jB{d n nx:Nat}{T:TypeId}{zs:List Value}(id:Nat)(hid:(Nat.blt id nx&&Nat.ble K.pins id)=true)(hnx:S.nx=nx)(hres:ak S.hp id=.res)(hz:zeroCells K.P T=some zs)(hn:zs.length=n)(h1:zs.all (·.oneCell')=true)(hw:aN ops S ⟨some d,.alloc T,ty,pos,after,g⟩ true)
  (hN:Nat.blt d K.N=true)
  (kk:ay K ops rest Q ⟨(d,.ptr id n 0 0)::S.env,(id,.arr T n [zs.map .con])::S.hp,S.nx⟩):
  ay K ops (⟨some d,.alloc T,ty,pos,after,g⟩::rest) Q S:=by
 refine cm hw (fun m β w a r=>?_) kk;subst hn;obtain⟨z,hz1,hz2⟩:=oo hz w
 obtain⟨β',hle,hn,r'⟩:=r.allocAt id (by simp_all) (ax8 (ci8.1 hid).2) hres (.cells z.cells T) (.arr T zs.length [zs.map .con]) ⟨1,0⟩ _ rfl (fun β' hle=>by
  refine dZ (vs:=z.cells) (by simp) (by simp[hz2]) (by simp) (by grind [maxLen]) (by simp) ?_
  ·intro i j row c hi hj;cases i with
   |succ i=>simp at hi
   |zero=>
    simp at hi;subst hi;rw[az8] at hj;cases hzj:zs[j]? with
    |none=>grind
    |some v=>
     simp[hzj] at hj;subst hj;refine⟨v,by grind,.imm (.con v),aq8.1 h1 v (ay9 hzj)⟩)
 refine⟨.pointer (some ⟨w.heap.size,0,none⟩),{ w with heap:=w.heap.push (.cells z.cells T) },m,β',.inl ?_,?_⟩;rotate_left
 ·exact bX.put r' hN (by have:=br.ptr (m:=m) (k:=zs.length) (i:=0) (off:=0) hn;grind)
 ·simp only[execOp,Instr.alloc];simp only[Sem.run_bind,hz1,Result.andThen_ok];rfl
theorem qq{d nx:Nat}{x:Operand}{T:TypeId}{dv:V}(id:Nat)(hid:(Nat.blt id nx&&Nat.ble K.pins id)=true)(hnx:S.nx=nx)(hres:ak S.hp id=.res)(cs:List V)(hw:aN ops S ⟨some d,.box T x,ty,pos,after,g⟩ true)
  (hx:evl K S x=dv) (hcs:dl dv=cs) (h1:cs.all dF=true) (hN:Nat.blt d K.N=true)
  (kk:ay K ops rest Q ⟨(d,.ptr id cs.length 0 0)::S.env,(id,.arr T cs.length [cs])::S.hp,S.nx⟩):
  ay K ops (⟨some d,.box T x,ty,pos,after,g⟩::rest) Q S:=by
 refine cm hw (fun m β w a r=>?_) kk;have h:=r.reads x;rw[hx] at h;obtain⟨c1,c2,c3⟩:=h.cells (by grind);rw[hcs] at c1 c2
 obtain⟨β',hle,hn,r'⟩:=r.allocAt id (by simp_all) (ax8 (ci8.1 hid).2) hres (.cells (a.eval x).cells T) (.arr T cs.length [cs]) ⟨1,0⟩ _ rfl (fun β' hle=>by
  refine dZ (vs:=(a.eval x).cells) (by simp) (by grind) (by simp) (by grind [maxLen]) (by simp) ?_
  ·intro i j row c hi hj;cases i with
   |succ i=>simp at hi
   |zero=>
    simp at hi;subst hi;have hj':j<(a.eval x).cells.size:=by rw[<-c1];exact(bd9.1 hj).1
    refine⟨(a.eval x).cells[j],by simp[hj'],(c2 j c _ hj (by simp[hj'])).mono (bB.le_refl _) hle,c3 _ (by simp)⟩)
 refine⟨.pointer (some ⟨w.heap.size,0,none⟩),{ w with heap:=w.heap.push (.cells (a.eval x).cells T) },m,β',.inl ?_,?_⟩;rotate_left
 ·exact bX.put r' hN (by have:=br.ptr (m:=m) (k:=cs.length) (i:=0) (off:=0) hn;grind)
 ·simp only[execOp];rfl
theorem qT{d nx:Nat}{T:TypeId}(id:Nat)(hid:(Nat.blt id nx&&Nat.ble K.pins id)=true)(hnx:S.nx=nx)(hres:ak S.hp id=.res)(hw:aN ops S ⟨some d,.makeMap T none,ty,pos,after,g⟩ true)(hN:Nat.blt d K.N=true)
  (kk:ay K ops rest Q ⟨(d,.map id)::S.env,(id,.map [])::S.hp,S.nx⟩):ay K ops (⟨some d,.makeMap T none,ty,pos,after,g⟩::rest) Q S:=by
 refine cm hw (fun m β w a r=>?_) kk;obtain⟨β',hle,hn,r2⟩:=r.allocAt id (by simp_all) (ax8 (ci8.1 hid).2) hres (.map #[] 0) (.map []) ⟨0,0⟩ _ rfl (fun β' hle=>⟨#[],0,fun _ _=>False,uU (by simp),rfl,j7,by simp⟩);refine⟨.map (some w.heap.size),{ w with heap:=w.heap.push (.map #[] 0) },m,β',.inl ?_,bX.put r2 hN (.map hn)⟩;simp only[execOp,aj8];rw[Sem.run_bind];rfl
theorem nP{d T e k bytes nx:Nat}(id:Nat)(hid:(Nat.blt id nx&&Nat.ble K.pins id)=true)(hnx:S.nx=nx)(hres:ak S.hp id=.res)(hT:eQ K.P T e k bytes=true)(hw:aN ops S ⟨some d,.buildSlice T 0 #[],ty,pos,after,g⟩ true)(hN:Nat.blt d K.N=true)
  (kk:ay K ops rest Q ⟨(d,.own id 0)::S.env,(id,.arr e k [])::S.hp,S.nx⟩):ay K ops (⟨some d,.buildSlice T 0 #[],ty,pos,after,g⟩::rest) Q S:=by
 refine cm hw (fun m β w a r=>?_) kk;obtain⟨i,z,hu,hi,hs,hby,hzz,hzk⟩:=eX hT
 obtain⟨β',hle,hn,r2⟩:=r.allocAt id (by simp_all) (ax8 (ci8.1 hid).2) hres (.cells #[] e (0,0)) (.arr e k []) ⟨0,0⟩ _ rfl (fun β' hle=>by
  grind [dZ])
 refine⟨.slice (some ⟨w.heap.size,0,none⟩) 0 0,{ w with heap:=w.heap.push (.cells #[] e (0,0)) },m,β',.inl ?_,bX.put r2 hN (.own hn)⟩;simp only[execOp];rw[Sem.run_bind]
 have:(Instr.buildSlice T 0 ((#[]:Array (Nat×Operand)).map fun(i,x)=>(i,a.eval x))).run K.P w=.ok (.slice (some ⟨w.heap.size,0,none⟩) 0 0) { w with heap:=w.heap.push (.cells #[] e (0,0)) }:=by
  simp only[Instr.buildSlice,Sem.run_bind,run_underlying hu,Result.andThen_ok,run_sizeOf w hi];simp[pure,Sem.run,Instr.fill,newRow,newObj,Sem.run_bind,Result.andThen];have e0:(Array.map (fun _=>(default:Value)) (Array.range 0))=#[]:=by apply as8;simp
  rw[e0]
 simp_all
theorem lA{d T e k bytes n:Nat}{parts:Array (Nat×Operand)}{zs:List Value}(ps:List (Nat×V))(rows:List (List V))(hT:eQ K.P T e k bytes=true)(hz:zeroCells K.P e=some zs)
  (h1:zs.all (·.oneCell')=true) (hk:0<k) (hnn:0<n) (hbig:n*k<=16777216)
  (hps:parts.toList.map (fun p=>(p.1,evl K S p.2))=ps) (hf:ji (fun i=>some (i*k,k)) (((List.range (n*k)).map fun i=>zs.getD (i % k) undef).map .con) ps=some (oG rows))
  (hrl:rows.length=n) (hrk:∀row,row∈rows->row.length=k) (r:bX K m β w a S):
  ∃cells':Array Value,cells'.size=n*k/\(∀(i j:Nat) (row:List V) (c:V),rows[i]? = some row->row[j]? = some c->∃v,cells'[i*k+j]? = some v/\br m β c v/\v.oneCell'=true)/\
   (execOp a.eval ⟨some d,.buildSlice T n parts,ty,pos,after,g⟩).run K.P w=.ok (.value (.slice (some ⟨w.heap.size,0,none⟩) n n)) { w with heap:=w.heap.push (.cells cells' e (0,0)) }:=by
 obtain⟨hl,hr⟩:=mD r parts ps hps;obtain⟨i,z,hu,hi,hs,hby,hzz,hzk⟩:=eX hT;obtain⟨z',hz1,hz2⟩:=oo hz w
 have hzl:zs.length=k:=by
  have:zeroCells K.P e=some z.cells.toList:=by simp[zeroCells,hi,hzz]
  rw[hz] at this;simp only[ax9] at this;rw[this];simp[hzk]
 have hkk:K.P.cellsOf e=k:=by simp[Program.cellsOf,hi,hs]
 have hrows:0<n*k:=Nat.mul_pos hnn hk;have hall:∀v,v∈zs->v.oneCell'=true:=fun v hv=>aq8.1 h1 v hv
 have hzc:(Array.range (n*k)).map (fun x=>(z'.cells)[x % z'.cells.size]!)=(((List.range (n*k)).map fun i=>zs.getD (i % k) undef)).toArray:=by
  apply as8;simp only[Array.toList_map,Array.toList_range,hz2,bn8,hzl];apply List.map_congr_left;intro x _;have:x % k<zs.length:=by rw[hzl];exact an8 _ hk
  simp[this]
 obtain⟨cells',f1,f2⟩:=lR ps _ _ (oG rows) (((List.range (n*k)).map fun i=>zs.getD (i % k) undef)).toArray hf (kb (by
  simp_all[an8]) m β) hl hr
 have hsize:cells'.size=n*k:=by rw[<-f2.1,lQ rows hrk,hrl]
 refine⟨cells',hsize,?_,?_⟩
 ·intro i j row c hi hj;have hg:=sQ rows hrk i j row c hi hj;have hlt:i*k+j<cells'.size:=by rw[<-f2.1];exact(bd9.1 hg).1
  obtain⟨a1,a2⟩:=f2.2 _ c cells'[i*k+j] hg (by simp[hlt])<;>grind
 ·simp only[execOp];rw[Sem.run_bind]
  have:(Instr.buildSlice T n (parts.map fun(i,x)=>(i,a.eval x))).run K.P w=.ok (.slice (some ⟨w.heap.size,0,none⟩) n n) { w with heap:=w.heap.push (.cells cells' e (0,0)) }:=by
   simp only[Instr.buildSlice,Sem.run_bind,run_underlying hu,Result.andThen_ok,run_sizeOf w hi,hkk];rw[if_neg (by omega),if_neg (by omega)];simp only[Sem.run_bind,hz1,Result.andThen_ok,pure,Sem.run,hzc,f1,newRow,newObj]
  simp_all
theorem nQ{d T e k bytes n nx:Nat}{parts:Array (Nat×Operand)}{zs:List Value}(id:Nat)(hid:(Nat.blt id nx&&Nat.ble K.pins id)=true)(hnx:S.nx=nx)(hres:ak S.hp id=.res)(ps:List (Nat×V))(rows:List (List V))(hT:eQ K.P T e k bytes=true)(hz:zeroCells K.P e=some zs)
  (hw:aN ops S ⟨some d,.buildSlice T n parts,ty,pos,after,g⟩ true)
  (h1:zs.all (·.oneCell')=true) (hk:Nat.blt 0 k=true) (hnn:Nat.blt 0 n=true) (hbig:Nat.ble (n*k) 16777216=true)
  (hps:parts.toList.map (fun p=>(p.1,evl K S p.2))=ps) (hf:ji (fun i=>some (i*k,k)) (((List.range (n*k)).map fun i=>zs.getD (i % k) undef).map .con) ps=some (oG rows))
  (hrl:rows.length=n) (hrk:∀row,row∈rows->row.length=k) (hN:Nat.blt d K.N=true)
  (kk:ay K ops rest Q ⟨(d,.own id n)::S.env,(id,.arr e k rows)::S.hp,S.nx⟩):
  ay K ops (⟨some d,.buildSlice T n parts,ty,pos,after,g⟩::rest) Q S:=by
 refine cm hw (fun m β w a r=>?_) kk;have hk:=ax8 hk;have hnn:=ax8 hnn;have hbig:=ax8 hbig;obtain⟨cells',hsize,hcl,hrun⟩:=lA (d:=d) (ty:=ty) (pos:=pos) (after:=after) (g:=g) ps rows hT hz h1 hk hnn hbig hps hf hrl hrk r
 obtain⟨β',hle,hn,r2⟩:=r.allocAt id (by simp_all) (ax8 (ci8.1 hid).2) hres (.cells cells' e (0,0)) (.arr e k rows) ⟨n,0⟩ _ rfl (fun β' hle=>by
  refine dZ (vs:=cells') (by simp) hsize (by omega) (by unfold maxLen;have:=cd8 n hk;omega) hrk ?_;intro i j row c hi hj;obtain⟨v,h1,h2,h3⟩:=hcl i j row c hi hj;exact⟨v,h1,h2.mono (bB.le_refl _) hle,h3⟩)
 exact⟨_,_,m,β',.inl hrun,bX.put r2 hN (.own hn)⟩
theorem cw{d T e k bytes n:Nat}{parts:Array (Nat×Operand)}{zs:List Value}(ps:List (Nat×V))(rows:List (List V))(hT:eQ K.P T e k bytes=true)(hz:zeroCells K.P e=some zs)
  (hw:aN ops S ⟨some d,.buildSlice T n parts,ty,pos,after,g⟩ true)
  (h1:zs.all (·.oneCell')=true) (hk:Nat.blt 0 k=true) (hnn:Nat.blt 0 n=true) (hbig:Nat.ble (n*k) 16777216=true)
  (hps:parts.toList.map (fun p=>(p.1,evl K S p.2))=ps) (hf:ji (fun i=>some (i*k,k)) (((List.range (n*k)).map fun i=>zs.getD (i % k) undef).map .con) ps=some (oG rows))
  (hrl:rows.length=n) (hrk:∀row,row∈rows->row.length=k) (him:∀row,row∈rows->cv row) (hN:Nat.blt d K.N=true)
  (kk:ay K ops rest Q (S.put d (.lst k rows))):
  ay K ops (⟨some d,.buildSlice T n parts,ty,pos,after,g⟩::rest) Q S:=by
 refine cm hw (fun m β w a r=>?_) kk;have hk:=ax8 hk;have hnn:=ax8 hnn;have hbig:=ax8 hbig;obtain⟨cells',hsize,hcl,hrun⟩:=lA (d:=d) (ty:=ty) (pos:=pos) (after:=after) (g:=g) ps rows hT hz h1 hk hnn hbig hps hf hrl hrk r
 let m':bB:=fun b=>if b=w.heap.size then some (.cells cells' e (0,0)) else m b
 have hnone:m w.heap.size=none:=by
  cases hm:m w.heap.size with
  |none=>rfl
  |some o'=>have:=bD (r.imm _ _ hm);omega
 have hle:m.le m':=by
  intro b o h;have:b≠w.heap.size:=by intro e;rw[e,hnone] at h;simp at h
  simp[m',this,h]
 have hg:ur m m' w { w with heap:=w.heap.push (.cells cells' e (0,0)) }:=by
  refine⟨hle,?_,?_,?_,by simp,⟨rfl,rfl,rfl,trivial⟩⟩
  ·intro b o h;by_cases hb:b=w.heap.size
   ·grind
   ·simp[m',hb] at h;have:=bD (r.imm _ _ h);simp only[bp8];rw[if_neg hb];exact r.imm _ _ h
  ·grind
  ·grind
 refine⟨_,_,m',β,.inl hrun,bX.put (r.grow hg) hN (.imm (.lst (arr:=cells') (T:=e) (fr:=(0,0)) (fun i=>(cells'[i]?).getD undef) (by simp[m']) Y hrl (ae9 _) (bw9 (bw9 (cd8 n hk) hbig) (by grind [maxLen])) hrk ?_ ?_))⟩
 ·grind
 ·intro i j row c hi hj;obtain⟨v,h1,h2,h3⟩:=hcl i j row c hi hj;simp only[h1,bx8];exact((him row (ay9 hi) c (ay9 hj)).2 m β v h2).mono hle
end
section
variable{K:cR}{Q:ca}{S:St}
variable{m:bB}{β:ba}{w:World}{a:Act}
variable{ops:Array Oper}{rest:List Oper}{ty:TypeId}{pos:String}{after:Array Edge}{g:Option (Nat×Bool)}
structure iY(m:bB)(β:ba)(ds:List V)(vs:Array Value):Prop where
 len:ds.length=vs.size
 at':∀(i:Nat) (c:V) (v:Value),ds[i]? = some c->vs[i]? = some v->br m β c v
def c8(hp:aC)(β:ba)(b:Nat):Prop:=∀id,ak hp id≠.dead->(∀cap,β id≠some (some (b,cap)))/\¬β.hid id b
structure qx(m:bB)(β:ba)(w:World)(k:Nat)(hp:aC)(m':bB)(β':ba)(w':World)(k':Nat)(hp':aC):Prop where
 le:m.le m'
 imm:∀b o,m' b=some o->w'.heap[b]? = some o
 old:∀b,b<w.heap.size->c8 hp β b->m' b=m b/\w'.heap[b]? = w.heap[b]?
 size:w.heap.size<=w'.heap.size
 same:pL w w'
 own:∀id,bn m' β' w' (β'.hid id) (β' id) (ak hp' id)
 priv:∀id b cap,ak hp' id≠.dead->β' id=some (some (b,cap))->m' b=none/\(b<w.heap.size->¬c8 hp β b)
 inj:∀id id' b cap cap',ak hp' id≠.dead->ak hp' id'≠.dead->β' id=some (some (b,cap))->β' id'=some (some (b,cap'))->id=id'
 hid:∀id x,ak hp' id≠.dead->β'.hid id x->x<w'.heap.size/\m' x=none/\(x<w.heap.size->¬c8 hp β x)/\(∀i b c,ak hp' i≠.dead->β' i=some (some (b,c))->x≠b)/\∀i,ak hp' i≠.dead->β'.hid i x->i=id
 nx:∀id,k'<=id->β' id=none
 pin:∀q,q<k->q<k'/\β' q=β q
def fV(gl:Gl)(P:Program)(f:FuncId)(args:List V)(k:Nat)(hp:aC)(d:V)(k':Nat)(hp':aC):Prop:=
 ∀(m:bB) (β:ba) (w:World) (vs:Array Value),(∀(b:Nat) o,m b=some o->w.heap[b]? = some o)->fU gl m->iY m β args vs->
  (∀id,bn m β w (β.hid id) (β id) (ak hp id))->(∀id b cap,ak hp id≠.dead->β id=some (some (b,cap))->m b=none)->
  (∀id id' b cap cap',ak hp id≠.dead->ak hp id'≠.dead->β id=some (some (b,cap))->β id'=some (some (b,cap'))->id=id')->
  (∀id x,ak hp id≠.dead->β.hid id x->x<w.heap.size/\m x=none/\(∀i b c,ak hp i≠.dead->β i=some (some (b,c))->x≠b)/\∀i,ak hp i≠.dead->β.hid i x->i=id)->
  (∀id,k<=id->β id=none)->
  Calls P f vs w fun e w'=>∃v m' β',e=.returned v/\br m' β' d v/\qx m β w k hp m' β' w' k' hp'
abbrev q8:=fV []
@[reducible] def pw(gl:Gl)(P:Program)(N:Nat)(k:Nat)(hp:aC)(w0:World)(m0:bB)(β0:ba)(hg:fU gl m0):cR:=⟨P,N,w0,m0,c8 hp β0,k,β0.f,gl,hg,none⟩
inductive kF(P:Program)(S:St):ResultVar->V->Prop
 |tmp {t:Tmp} {d:V} (h:get S.env t=d):kF P S (.tmp t) d
 |agg {x:Tmp} {T n id k i o:Nat} {e:TypeId} {rows:List (List V)} {row cs:List V} (hT:zy P T n=true) (hx:get S.env x=.ptr id k i o) (ho:ak S.hp id=.arr e k rows)
   (hr:rows[i]? = some row) (hc:(row.drop o).take n=cs) (hn:cs.length=n) (hnd:uQ cs=true:=by rfl):kF P S (.cell x T) (.agg cs)
 |cell {x:Tmp} {T id k i o:Nat} {e:TypeId} {rows:List (List V)} {row:List V} {c:V} (hT:ri P T=true) (hx:get S.env x=.ptr id k i o) (ho:ak S.hp id=.arr e k rows)
   (hr:rows[i]? = some row) (hc:row[o]? = some c) (hd:c.deep=false:=by rfl):kF P S (.cell x T) c
theorem kF.run{rv:ResultVar}{d:V}(h:kF K.P S rv d)(r:bX K m β w a S):∃v,(r6 a.tmps rv).run K.P w=.ok v w/\br m β d v:=by
 cases h with
 | @tmp t _ h=>exact⟨_,rfl,by rw[<-h];exact r.env t⟩
 | @agg x T n id k i o e rows row cs hT hx ho hr hc hn hnd=>
  have h:=r.env x;rw[hx] at h;obtain⟨b,cap,hb,hv⟩:=h.ptr_inv;obtain⟨arr,bl,h1,h2,h3,h4,h5,_,h6⟩:=r.obj hb ho
  have hcell:∀j c,cs[j]? = some c->∃v,arr[cap.off+(i*k+o)+j]? = some v/\br m β c v:=by
   intro j c hj;have hd:=jv hnd hj;rw[<-hc,bi9] at hj;split at hj
   ·rw[av9] at hj;obtain⟨v,a1,a2,_⟩:=h6 i (o+j) row c hr hj;exact⟨v,by grind,a2.v hd⟩
   ·simp at hj
  have hrun:=fI (P:=K.P) (w:=w) (b:=b) (o:=cap.off+(i*k+o)) (fun j=>arr.getD (cap.off+(i*k+o)+j) undef) hT (fun j hj=>by
   rw[bW h1];obtain⟨v,a1,_⟩:=hcell j cs[j] (by simp[hn,hj])<;>simp_all)
  refine⟨_,jk hv hrun,?_⟩
  ·refine .agg (by simp[hn]) (fun j c v hj hv=>?_);obtain⟨v',a1,a2⟩:=hcell j c hj;simp only[bh8,az8] at hv;have hj':j<n:=by rw[<-hn];exact(bd9.1 hj).1
   simp_all
 | @cell x T id k i o e rows row c hT hx ho hr hc hd=>
  have h:=r.env x;rw[hx] at h;obtain⟨b,cap,hb,hv⟩:=h.ptr_inv;obtain⟨arr,bl,h1,h2,h3,h4,h5,_,h6⟩:=r.obj hb ho;obtain⟨v,a1,a2,_⟩:=h6 i o row _ hr hc;exact⟨v,jk hv (eY hT (by grind [bW])),a2.v hd⟩
inductive xh(P:Program)(S:St):List ResultVar->List V->Prop
 |nil:xh P S [] []
 |cons {r:ResultVar} {d:V} {rs:List ResultVar} {ds:List V} (h:kF P S r d) (t:xh P S rs ds):xh P S (r::rs) (d::ds)
theorem xh.run{l:List ResultVar}{ds:List V}(h:xh K.P S l ds)(r:bX K m β w a S):
  ∃vs:List Value,(l.mapM (r6 a.tmps)).run K.P w=.ok vs w/\vs.length=l.length/\ds.length=l.length/\∀(i:Nat) c v,ds[i]? = some c->vs[i]? = some v->br m β c v:=by
 induction h with
 |nil=>simp_all
 |cons h t ih=>
  obtain⟨v,h1,h2⟩:=h.run r;obtain⟨vs,g1,g2,g3,g4⟩:=ih;refine⟨v::vs,?_,by simp[g2],by simp[g3],?_⟩
  ·simp_all
  grind
def ep:List V->V
 |[d]=>d
 |ds=>.tup ds
theorem xh.runs{fn:Func}{l:List ResultVar}{ds:List V}(hl:fn.results=l.toArray)(h:xh K.P S l ds)(r:bX K m β w a S):
  ∃v,(results fn a.tmps).run K.P w=.ok v w/\br m β (ep ds) v:=by
 obtain⟨vs,h1,h2,h3,h4⟩:=h.run r
 have hm:(fn.results.mapM (r6 a.tmps)).run K.P w=.ok vs.toArray w:=by
  rw[hl];simp[h1]
 rw[gi];simp only[Sem.run_bind,hm,Result.andThen_ok];by_cases h5:vs.length=1
 ·match vs,ds,h5,h2,h3,h4 with
  |[v],[d],_,_,_,h4=>exact⟨v,by simp[pure],h4 0 d v rfl rfl⟩
  |[v],[],_,h2,h3,_=>simp at h2 h3;omega
  |[v],_::_::_,_,h2,h3,_=>simp at h2 h3;omega
 ·refine⟨.tuple vs.toArray,by simp[h5,pure],?_⟩
  have:ep ds=.tup ds:=by
   match ds,h3 with
   |[],_=>rfl
   |[d],h3=>simp at h3;omega
   |_::_::_,_=>rfl
  rw[this];exact .tup (by simp[h3,h2]) (fun i c v hc hv=>h4 i c v hc (by simpa using hv))
def M4(K:cR)(l:List ResultVar)(ds:List V)(k':Nat)(hp':aC):ca:=fun e S=>(e=.ret\/e=.normal)/\∃env':cc,aY K S ⟨env',hp',k'⟩/\xh K.P ⟨env',hp',k'⟩ l ds
theorem dn{gl:Gl}{P:Program}{f:FuncId}{fn:Func}{c:Code}{N k k':Nat}{hp hp':aC}{args:List V}{l:List ResultVar}{ds:List V}(hf:P.funcs[f]? = some fn)(hb:fn.body=some c)(hN:fn.ntmps=N)
  (hl:fn.results=l.toArray) (ha:Nat.ble args.length N=true) (env:cc) (henv:gk 0 args=env)
  (h:∀(w0:World) (m0:bB) (β0:ba) (hg:fU gl m0),iC (pw gl P N k hp w0 m0 β0 hg) c (M4 (pw gl P N k hp w0 m0 β0 hg) l ds k' hp') ⟨env,hp,k⟩):fV gl P f args k hp (ep ds) k' hp':=by
 intro m β w vs himm hgl hargs hown hpriv hinj hhid hnx;have ha:=ax8 ha;refine jA hf hb ?_
 have hsz:(vs++Array.replicate (fn.ntmps - vs.size) undef).size=N:=by
  have:=hargs.len;simp only[cc9,cc8,hN];omega
 have r:bX (pw gl P N k hp w m β hgl) m β w ⟨vs++Array.replicate (fn.ntmps - vs.size) undef,[]⟩ ⟨env,hp,k⟩:=by
  constructor
  ·exact himm
  ·exact bB.le_refl _
  ·grind
  ·grind
  ·grind
  ·exact⟨Y,Y,Y,trivial⟩
  ·exact hsz
  ·exact k7.nil
  ·intro t
   show br _ _ (get env t) _
   rw[<-henv,kC];simp only[ai8,if_true,Nat.sub_zero];by_cases ht:t<args.length
   ·have ht':t<vs.size:=by rw[<-hargs.len];exact ht
    simp only[cm9,az9 ht,bx8,bm8,cd9,if_pos ht',bb8 ht'];exact hargs.at' t _ _ (az9 ht) (bb8 ht')
   ·simp only[cm9,av8 (au8 ht),Option.getD_none];exact .imm (.any _)
  ·exact hown
  ·exact fun id b cap hl hb=>⟨hpriv id b cap hl hb,fun _ hF=>(hF id hl).1 cap hb⟩
  ·exact hinj
  ·exact fun id x hl hx=>let q:=hhid id x hl hx;⟨q.1,q.2.1,fun _ hF=>(hF id hl).2 hx,q.2.2.1,q.2.2.2⟩
  ·exact hnx
  ·grind
 refine wpIn_mono (h w m β hgl m _ w _ r) ?_
 rintro e a' w1 ⟨_,S1,m1,β1,⟨he,env',hg',hres⟩,r1⟩
 obtain⟨m2,β',r2⟩:=hg' _ _ _ _ r1;refine⟨he,bX.leave _ m2 w1 a' Y r2 (fun m' w' r'=>?_)⟩;obtain⟨v,h1,h2⟩:=hres.runs hl r';have hg:qx m β w k hp m' β' w' k' hp':=⟨r'.ext,r'.imm,fun b hb hF=>⟨r'.mold b hb hF,r'.frame b hb hF⟩,r'.size,r'.same,r'.own,r'.priv,r'.inj,fun id x hl hx=>let q:=r'.hid id x hl hx;⟨q.lt,q.m,q.old,q.ne,q.un⟩,r'.nx,r'.pin⟩
 grind
theorem ai.ownE{n id j l l':Nat}{σ:Nat->Nat}(hn:Nat.blt id n=true)(hj:σ id=j)(hl:l=l'):ai (Ren n σ) (.own id l) (.own j l'):=by
 simp_all[ai.own]
theorem ai.ownI{id l l':Nat}(hl:l=l'):ai JE (.own id l) (.own id l'):=by grind [ai.keepI]
def To(k':Nat)(τ:Nat->Nat):Hy:=fun m β m' β'=>m'=m/\∀j,j<k'->β' (τ j)=β j
instance {k':Nat} {τ:Nat->Nat}:jI (To k' τ):=⟨fun m β m' β' hy=>by rw[hy.1];exact bB.le_refl _⟩
theorem ai.kpT{k':Nat}{τ:Nat->Nat}{v:V}(h:dC v):ai (To k' τ) v v:=fun m β m' β' x hy hx=>by
 obtain⟨rfl,_⟩:=hy;exact .imm (h _ _ _ hx)
theorem ai.immT{k':Nat}{τ:Nat->Nat}{v:V}(h:aw v):ai (To k' τ) v v:=fun m β m' β' x hy hx=>by
 obtain⟨rfl,_⟩:=hy;exact .imm (h.2 _ _ _ hx)
theorem ai.ownT{k' j i n:Nat}{τ:Nat->Nat}(hn:Nat.blt j k'=true)(hj:τ j=i):ai (To k' τ) (.own i n) (.own j n):=fun m β m' β' x hy hx=>by
 obtain⟨rfl,hy⟩:=hy;have:=hy j (ax8 hn);rw[hj] at this;cases hx with
 |imm h=>cases h
 |ownNil h=>exact .ownNil (by grind)
 |own h=>exact .own (by grind)
theorem ai.ptrT{k' j i' k i o:Nat}{τ:Nat->Nat}(hn:Nat.blt j k'=true)(hj:τ j=i'):ai (To k' τ) (.ptr i' k i o) (.ptr j k i o):=fun m β m' β' x hy hx=>by
 obtain⟨rfl,hy⟩:=hy;have:=hy j (ax8 hn);rw[hj] at this;cases hx with
 |imm h=>cases h
 |ptr h=>exact .ptr (by grind)
theorem ai.mapT{k' j i:Nat}{τ:Nat->Nat}(hn:Nat.blt j k'=true)(hj:τ j=i):ai (To k' τ) (.map i) (.map j):=fun m β m' β' x hy hx=>by
 obtain⟨rfl,hy⟩:=hy;have:=hy j (ax8 hn);rw[hj] at this;cases hx with
 |imm h=>cases h
 |map h=>exact .map (by rw[this];exact h)
theorem ag.rowsTK{k':Nat}{τ:Nat->Nat}{e k:Nat}{rows:List (List V)}(h:∀row,row∈rows->i5 row):ag (To k' τ) (.arr e k rows) (.arr e k rows):=by
 refine⟨Y,Y,Y,fun i r r' h1 h2=>?_⟩;rw[h1,ax9] at h2;subst h2;refine⟨Y,fun j c c' h3 h4=>?_⟩;rw[h3,ax9] at h4;subst h4;exact .same jI.h (ai.kpT (h r (ay9 h1) c (ay9 h3)))
theorem ag.rowsT{k':Nat}{τ:Nat->Nat}{e k:Nat}{rows:List (List V)}(h:∀row,row∈rows->cv row):ag (To k' τ) (.arr e k rows) (.arr e k rows):=.rowsTK fun row hr=>(h row hr).keep
theorem ag.mapsTK{k':Nat}{τ:Nat->Nat}{es:List (Value×V)}(h:∀p,p∈es->dC p.2):ag (To k' τ) (.map es) (.map es):=by
 refine⟨Y,fun i p p' h1 h2=>?_⟩;rw[h1,ax9] at h2;subst h2;exact⟨Y,.same jI.h (ai.kpT (h p (ay9 h1)))⟩
theorem ag.mapsT{k':Nat}{τ:Nat->Nat}{es:List (Value×V)}(h:∀p,p∈es->aw p.2):ag (To k' τ) (.map es) (.map es):=.mapsTK fun p hp=>(h p hp).2
theorem ag.deadT{Yo:Hy}{ob:Ob}:ag Yo .dead ob:=trivial
inductive kS(Yo:Hy)(τ:Nat->Nat)(hp':aC)(k':Nat):Nat->aC->Prop
 |nil:kS Yo τ hp' k' k' []
 |cons {j t:Nat} {ob:Ob} {u:aC} (ht:τ j=t) (ho:ag Yo ob (ak hp' j)) (h:kS Yo τ hp' k' (j+1) u):kS Yo τ hp' k' j ((t,ob)::u)
theorem kS.le{Yo:Hy}{τ:Nat->Nat}{hp':aC}{k' j:Nat}{u:aC}(h:kS Yo τ hp' k' j u):j<=k':=by
 induction h<;>grind
theorem kS.get{Yo:Hy}{τ:Nat->Nat}{hp':aC}{k' j0:Nat}{u:aC}(h:kS Yo τ hp' k' j0 u)(hτ:∀i j,i<k'->j<k'->τ i=τ j->i=j)(hp:aC):
  (∀j,j0<=j->j<k'->ag Yo (ak (u++hp) (τ j)) (ak hp' j))/\∀t,(∀j,j0<=j->j<k'->t≠τ j)->ak (u++hp) t=ak hp t:=by
 induction h with
 |nil=>grind
 | @cons j1 t ob u ht ho h ih=>
  have hle:=h.le;refine⟨fun j h1 h2=>?_,fun t' h'=>?_⟩
  ·show ag Yo (ak ((t,ob)::(u++hp)) (τ j)) _
   rw[av]
   grind
  ·show ak ((t,ob)::(u++hp)) t'=_
   rw[av,if_neg]
   ·grind
   grind
def qG(n:Nat)(τ:Nat->Nat):Bool:=(List.range n).all fun i=>(List.range n).all fun j=>!(Nat.beq (τ i) (τ j))||Nat.beq i j
theorem wz{n:Nat}{τ:Nat->Nat}(h:qG n τ=true):∀i j,i<n->j<n->τ i=τ j->i=j:=by
 intro i j hi hj e;have h1:=aq8.1 (aq8.1 h i (cl8.2 hi)) j (cl8.2 hj)
 simp_all
def Cv(k k' nx nx':Nat)(σ τ:Nat->Nat)(free:Nat->Bool):Bool:=
 (List.range k').all fun j=>Nat.blt (τ j) nx'&&(if Nat.blt j k then Nat.beq (τ j) (σ j)&&Nat.blt (τ j) nx else Nat.ble nx (τ j)||free (τ j))
theorem zN{k k' nx nx':Nat}{σ τ:Nat->Nat}{free:Nat->Bool}(h:Cv k k' nx nx' σ τ free=true)(j:Nat)(hj:j<k'):
  τ j<nx'/\(j<k->τ j=σ j/\τ j<nx)/\(k<=j->nx<=τ j\/free (τ j)=true):=by
 have h1:=aq8.1 h j (cl8.2 hj);simp only[aq9] at h1;refine⟨ax8 h1.1,fun hk=>?_,fun hk=>?_⟩
 ·rw[if_pos (show Nat.blt j k=true from cj9 hk)] at h1;simp only[aq9] at h1;exact⟨ci9 h1.2.1,ax8 h1.2.2⟩
 simp_all[if_neg]
def ba.sub(β:ba)(k:Nat)(σ:Nat->Nat):ba:=⟨fun id=>if id<k then β (σ id) else none,fun id=>β.hid (σ id)⟩
structure Hs(m:bB)(β:ba)(w:World)(k:Nat)(hp:aC):Prop where
 own:∀id,bn m β w (β.hid id) (β id) (ak hp id)
 priv:∀id b cap,ak hp id≠.dead->β id=some (some (b,cap))->m b=none
 inj:∀id id' b cap cap',ak hp id≠.dead->ak hp id'≠.dead->β id=some (some (b,cap))->β id'=some (some (b,cap'))->id=id'
 hid:∀id x,ak hp id≠.dead->β.hid id x->x<w.heap.size/\m x=none/\(∀i b c,ak hp i≠.dead->β i=some (some (b,c))->x≠b)/\∀i,ak hp i≠.dead->β.hid i x->i=id
 nx:∀id,k<=id->β id=none
theorem bX.hand{σ:Nat->Nat}{k:Nat}{hp:aC}(r:bX K m β w a S)(hhp:Hr (Ren k σ) k σ S.hp hp)(hinj:∀i j,i<k->j<k->σ i=σ j->i=j):Hs m (β.sub k σ) w k hp:=by
 let β0:ba:=β.sub k σ
 have e0:∀id,id<k->β0 id=β (σ id):=fun id h=>by show(if _ then _ else _)=_;grind
 have hy:Ren k σ m β m β0:=⟨rfl,e0⟩
 have hlive:∀id,ak hp id≠.dead->id<k/\ak S.hp (σ id)≠.dead:=by
  intro id h;obtain⟨h1,h2⟩:=hhp id;refine⟨h1.resolve_left h,fun hd=>?_⟩;rw[hd] at h2;cases ho:ak hp id with
  |dead=>exact h ho
  |arr=>simp_all[ag]
  |res=>simp_all[ag]
  |map=>simp_all[ag]
  |iter=>simp_all[ag]
  |bld=>simp_all[ag]
 refine⟨?_,?_,?_,?_,?_⟩
 ·intro id;obtain⟨h1,h2⟩:=hhp id;rcases h1 with h1|h1
  ·simp_all[bn.dead']
  ·show bn m β0 w (β.hid (σ id)) (β0 id) _
   rw[e0 id h1];exact h2.ok hy (r.own (σ id))
 ·intro id b cap hl hb;obtain⟨h1,h2⟩:=hlive id hl;rw[e0 id h1] at hb;exact(r.priv _ _ _ h2 hb).1
 ·intro id id' b cap cap' hl hl' hb hb';obtain⟨h1,h2⟩:=hlive id hl;obtain⟨h1',h2'⟩:=hlive id' hl';rw[e0 id h1] at hb;rw[e0 id' h1'] at hb';have:=r.inj _ _ _ _ _ h2 h2' hb hb'
  grind
 ·intro id x hl hx;obtain⟨h1,h2⟩:=hlive id hl;have q:=r.hid (σ id) x h2 hx;refine⟨q.lt,q.m,fun i b c hi hb=>?_,fun i hi hx'=>?_⟩
  ·obtain⟨h1',h2'⟩:=hlive i hi;rw[e0 i h1'] at hb;exact q.ne _ b c h2' hb
  ·obtain⟨h1',h2'⟩:=hlive i hi;have:=q.un _ h2' hx'
   grind
 ·intro id hid
  show(if _ then _ else _)=_
  grind
theorem bX.back{k k':Nat}{hp hp':aC}(σ τ:Nat->Nat)(nx':Nat)(u:aC)(free:Nat->Bool)(r:bX K m β w a S)(hhp:Hr (Ren k σ) k σ S.hp hp)
  (hfree:∀i,free i=true->ak S.hp i=.res) (hto:Cv k k' S.nx nx' σ τ free=true) (hτ:qG k' τ=true) (hle:Nat.ble S.nx nx'=true) (hkk:Nat.ble k k'=true)
  (hpf:∀i,free i=true->K.pins<=i) (hu:kS (To k' τ) τ hp' k' 0 u) {m':bB} {β':ba} {w':World} (g:qx m (β.sub k σ) w k hp m' β' w' k' hp'):
  ∃β2,bX K m' β2 w' a ⟨S.env,u++S.hp,nx'⟩/\To k' τ m' β' m' β2:=by
 have hkk:=ax8 hkk;have hinj:=wz hτ;have hto:=zN hto;have hle:=ax8 hle
 let β0:ba:=β.sub k σ
 have e0:∀id,id<k->β0 id=β (σ id):=fun id h=>by show(if _ then _ else _)=_;grind
 have hlive:∀id,ak hp id≠.dead->id<k/\ak S.hp (σ id)≠.dead:=by
  intro id h;obtain⟨h1,h2⟩:=hhp id;refine⟨h1.resolve_left h,fun hd=>?_⟩;rw[hd] at h2;cases ho:ak hp id with
  |dead=>exact h ho
  |arr=>simp_all[ag]
  |res=>simp_all[ag]
  |map=>simp_all[ag]
  |iter=>simp_all[ag]
  |bld=>simp_all[ag]
 have hσ:∀i,i<k->σ i=τ i:=fun i hi=>((hto i (by omega)).2.1 hi).1.symm
 classical
 let β2:ba:=⟨fun id=>if h:∃j,k<=j/\j<k'/\τ j=id then β' h.choose else β id,fun id=>if h:∃j,j<k'/\τ j=id then β'.hid h.choose else β.hid id⟩
 have hβk:∀j,j<k'->β2 (τ j)=β' j:=by
  intro j hj
  show(if h:∃j',k<=j'/\j'<k'/\τ j'=τ j then β' h.choose else β (τ j))=_
  by_cases hjk:j<k
  ·have:¬∃j',k<=j'/\j'<k'/\τ j'=τ j:=by
    rintro⟨j',a1,a2,a3⟩
    have:=hinj j' j a2 hj a3;omega
   rw[dif_neg this,(g.pin j hjk).2,e0 j hjk,hσ j hjk]
  ·have:∃j',k<=j'/\j'<k'/\τ j'=τ j:=⟨j,by omega,hj,rfl⟩
   grind
 have hhk:∀j,j<k'->β2.hid (τ j)=β'.hid j:=by
  intro j hj
  show(if h:∃j',j'<k'/\τ j'=τ j then β'.hid h.choose else β.hid (τ j))=_
  have:∃j',j'<k'/\τ j'=τ j:=⟨j,hj,rfl⟩;rw[dif_pos this];have hc:=this.choose_spec
  grind
 have hβo:∀id,(∀j,k<=j->j<k'->id≠τ j)->β2 id=β id:=by
  intro id hid
  show(if h:∃j',k<=j'/\j'<k'/\τ j'=id then β' h.choose else β id)=_
  rw[dif_neg]
  rintro⟨j,a1,a2,a3⟩
  exact hid j a1 a2 a3.symm
 have hho:∀id,(∀j,j<k'->id≠τ j)->β2.hid id=β.hid id:=by
  intro id hid
  show(if h:∃j',j'<k'/\τ j'=id then β'.hid h.choose else β.hid id)=_
  rw[dif_neg]
  rintro⟨j,a2,a3⟩
  exact hid j a2 a3.symm
 have hfr:∀j,k<=j->j<k'->β (τ j)=none:=by
  intro j h1 h2;rcases(hto j h2).2.2 h1 with h|h
  ·exact r.nx _ h
  ·exact r.free (hfree _ h)
 have hβle:β.le β2:=by
  intro id l hl;rw[hβo id]
  ·exact hl
  ·grind
 have hyT:To k' τ m' β' m' β2:=⟨rfl,hβk⟩;obtain⟨hu1,hu2⟩:=hu.get hinj S.hp
 -- a block of an object that was not handed over
 have hforeign:∀b,(∀id,id<k->ak S.hp (τ id)≠.dead->(∀cap,β (τ id)≠some (some (b,cap)))/\¬β.hid (τ id) b)->c8 hp β0 b:=by
  intro b hb id hl;obtain⟨h1,h2⟩:=hlive id hl;rw[hσ id h1] at h2;obtain⟨q1,q2⟩:=hb id h1 h2;refine⟨fun cap hbb=>?_,fun hx=>?_⟩
  ·grind
  ·have hx:β.hid (σ id) b:=hx
   grind
 have hrest:∀id,(∀j,j<k'->id≠τ j)->ak (u++S.hp) id=ak S.hp id:=fun id h=>hu2 id (fun j _ hj=>h j hj)
 have hdec:∀id,(∃j,j<k'/\id=τ j)\/∀j,j<k'->id≠τ j:=by
  intro id;by_cases h:∃j,j<k'/\id=τ j
  ·grind
  ·grind
 have hobl:∀j,j<k'->ak (u++S.hp) (τ j)≠.dead->ak hp' j≠.dead:=by
  intro j hj hl hd;have:=hu1 j (ai8 _) hj;rw[hd] at this;cases ho:ak (u++S.hp) (τ j) with
  |dead=>exact hl ho
  |arr=>grind [ag]
  |res=>grind [ag]
  |map=>grind [ag]
  |iter=>grind [ag]
  |bld=>grind [ag]
 -- an object that was not handed over, and is alive, lies in a foreign block
 have hother:∀id b cap,(∀j,j<k'->id≠τ j)->ak S.hp id≠.dead->β id=some (some (b,cap))->b<w.heap.size/\c8 hp β0 b:=by
  intro id b cap hid hl hb;refine⟨eL hl hb (r.own id),hforeign b fun i hi hl'=>⟨fun c hb'=>?_,fun hx=>?_⟩⟩
  ·have:=r.inj _ _ _ _ _ hl hl' hb hb'
   grind
  ·exact(r.hid _ _ hl' hx).ne id b cap hl hb Y
 have hotherH:∀id x,(∀j,j<k'->id≠τ j)->ak S.hp id≠.dead->β.hid id x->x<w.heap.size/\c8 hp β0 x:=by
  intro id x hid hl hx;have q:=r.hid id x hl hx;refine⟨q.lt,hforeign x fun i hi hl'=>⟨fun c hb'=>q.ne _ x c hl' hb' Y,fun hx'=>?_⟩⟩;exact hid i (by omega) (q.un _ hl' hx').symm
 have hold:∀b,b<K.w0.heap.size->K.old b->b<w.heap.size/\c8 hp β0 b:=by
  intro b hb ho;exact⟨ck8 hb r.size,hforeign b fun i hi hl=>⟨fun c hb'=>(r.priv _ _ _ hl hb').2 hb ho,fun hx=>(r.hid _ _ hl hx).old hb ho⟩⟩
 have r2:bX K m' β2 w' a ⟨S.env,u++S.hp,nx'⟩:=by
  constructor
  ·exact g.imm
  ·exact bB.le_trans r.ext g.le
  ·intro b hb ho;obtain⟨q1,q2⟩:=hold b hb ho;rw[(g.old b q1 q2).1];exact r.mold b hb ho
  ·intro b hb ho;obtain⟨q1,q2⟩:=hold b hb ho;rw[(g.old b q1 q2).2];exact r.frame b hb ho
  ·exact bw9 r.size g.size
  ·exact r.same.trans g.same
  ·exact r.tn
  ·exact r.df.mono g.le
  ·exact fun t=>(r.env t).mono g.le hβle
  ·intro id;rcases hdec id with ⟨j,hj,rfl⟩|hid
   ·show bn m' β2 w' (β2.hid (τ j)) (β2 (τ j)) (ak (u++S.hp) (τ j))
    rw[hβk j hj,hhk j hj];exact(hu1 j (ai8 _) hj).ok hyT (g.own j)
   ·show bn m' β2 w' (β2.hid id) (β2 id) (ak (u++S.hp) id)
    rw[hrest id hid,hβo id (fun j _ hj=>hid j hj),hho id hid];by_cases hl:ak S.hp id=.dead
    ·grind [bn.dead']
    ·refine bn.congr (w:=w) (fun b cap hb=>?_) (fun x hx=>?_) ?_
     ·obtain⟨q1,q2⟩:=hother id b cap hid hl hb;exact(g.old b q1 q2).2
     ·obtain⟨q1,q2⟩:=hotherH id x hid hl hx;exact(g.old x q1 q2).2
     ·exact bn.mono g.le hβle (fun _ _ h=>h) (fun _ _=>Y) (r.own id)
  ·intro id b cap hl hb;rcases hdec id with ⟨j,hj,rfl⟩|hid
   ·rw[hβk j hj] at hb;obtain⟨q1,q2⟩:=g.priv j b cap (hobl j hj hl) hb<;>grind
   ·have hl':ak S.hp id≠.dead:=by rw[<-hrest id hid];exact hl
    rw[hβo id (fun j _ hj=>hid j hj)] at hb;obtain⟨q1,q2⟩:=hother id b cap hid hl' hb;obtain⟨p1,p2⟩:=r.priv id b cap hl' hb;exact⟨by rw[(g.old b q1 q2).1];exact p1,p2⟩
  ·intro id id' b cap cap' hl hl' hb hb'
   have mix:∀j id cap cap',j<k'->(∀j,j<k'->id≠τ j)->ak (u++S.hp) (τ j)≠.dead->ak (u++S.hp) id≠.dead->β2 (τ j)=some (some (b,cap))->β2 id=some (some (b,cap'))->False:=by
    intro j id cap cap' hj hid hl hl' hb hb';rw[hβk j hj] at hb;have hl2:ak S.hp id≠.dead:=by rw[<-hrest id hid];exact hl'
    rw[hβo id (fun j _ hj=>hid j hj)] at hb';obtain⟨q1,q2⟩:=hother id b cap' hid hl2 hb';exact(g.priv j b cap (hobl j hj hl) hb).2 q1 q2
   rcases hdec id with ⟨j,hj,rfl⟩|hid<;>rcases hdec id' with ⟨j',hj',rfl⟩|hid'
   ·rw[hβk j hj] at hb;rw[hβk j' hj'] at hb';rw[g.inj j j' b cap cap' (hobl j hj hl) (hobl j' hj' hl') hb hb']
   ·grind
   ·grind
   ·rw[hβo id (fun j _ hj=>hid j hj)] at hb;rw[hβo id' (fun j _ hj=>hid' j hj)] at hb';exact r.inj id id' b cap cap' (by grind) (by grind) hb hb'
  ·intro id x hl hx;rcases hdec id with ⟨j,hj,rfl⟩|hid
   ·rw[hhk j hj] at hx;obtain⟨q1,q2,q3,q4,q5⟩:=g.hid j x (hobl j hj hl) hx;refine⟨q1,q2,fun hb0 ho=>q3 (hold x hb0 ho).1 (hold x hb0 ho).2,fun i b c hi hb=>?_,fun i hi hx'=>?_⟩
    ·rcases hdec i with ⟨j',hj',rfl⟩|hid'<;>grind
    ·rcases hdec i with ⟨j',hj',rfl⟩|hid'
     ·rw[hhk j' hj'] at hx'
      grind
     grind
   ·have hl2:ak S.hp id≠.dead:=by rw[<-hrest id hid];exact hl
    rw[hho id hid] at hx;have q:=r.hid id x hl2 hx;obtain⟨p1,p2⟩:=hotherH id x hid hl2 hx;refine⟨ck8 p1 g.size,by rw[(g.old x p1 p2).1];exact q.m,q.old,fun i b c hi hb=>?_,fun i hi hx'=>?_⟩
    ·rcases hdec i with ⟨j',hj',rfl⟩|hid'
     ·rw[hβk j' hj'] at hb;intro e;subst e;exact(g.priv j' _ c (hobl j' hj' hi) hb).2 p1 p2
     ·have hl3:ak S.hp i≠.dead:=by rw[<-hrest i hid'];exact hi
      rw[hβo i (fun j _ hj=>hid' j hj)] at hb;exact q.ne i b c hl3 hb
    ·rcases hdec i with ⟨j',hj',rfl⟩|hid'
     ·rw[hhk j' hj'] at hx';exact absurd p2 ((g.hid j' x (hobl j' hj' hi) hx').2.2.1 p1)
     ·have hl3:ak S.hp i≠.dead:=by rw[<-hrest i hid'];exact hi
      rw[hho i hid'] at hx';exact q.un i hl3 hx'
  ·intro id hid;have hid:nx'<=id:=hid;rw[hβo id]
   ·exact r.nx id (by omega)
   grind
  ·intro q hq;obtain⟨p1,p2⟩:=r.pin q hq<;>grind
 grind
theorem gH{o:Oper}{d:Nat}{f:FuncId}{avs avs':List V}{k k':Nat}{hp hp':aC}{dc dv:V}(σ τ:Nat->Nat)(nx':Nat)(u:aC)(free:Nat->Bool)
  (hw:aN ops S o true) (hd:o.dst=some d) (hN:Nat.blt d K.N=true)
  (hrun:∀m β w a,bX K m β w a S->∃vs:Array Value,(execOp a.eval o).run K.P w=.ok (.enter f vs) w/\iY m β avs vs)
  (hsub:ia (Ren k σ) avs' avs) (hhp:Hr (Ren k σ) k σ S.hp hp)
  (hc:fV K.gl K.P f avs' k hp dc k' hp')
  (hfree:∀i,free i=true->ak S.hp i=.res) (hto:Cv k k' S.nx nx' σ τ free=true) (hτ:qG k' τ=true) (hle:Nat.ble S.nx nx'=true) (hkk:Nat.ble k k'=true)
  (hpf:∀i,free i=true->K.pins<=i)
  (hdv:ai (To k' τ) dv dc) (hu:kS (To k' τ) τ hp' k' 0 u)
  (kk:ay K ops rest Q ⟨(d,dv)::S.env,u++S.hp,nx'⟩):ay K ops (o::rest) Q S:=by
 intro m β w a r;unfold wpListIn;rw[if_pos (hw.at r)];have hkk0:=hkk;have hkk:=ax8 hkk;obtain⟨vs,h1,h2⟩:=hrun m β w a r;refine fY (.inr (kr h1 (fun d e=>by cases e))) ?_;unfold Oper.wp;rw[h1];have hinj:=wz hτ;have hto0:=hto;have hto:=zN hto;have hle0:=hle;have hle:=ax8 hle;have hσ:∀i,i<k->σ i=τ i:=fun i hi=>((hto i (by omega)).2.1 hi).1.symm;have hy:Ren k σ m β m (β.sub k σ):=⟨rfl,fun id h=>by show(if _ then _ else _)=_;grind⟩
 have hargs:iY m (β.sub k σ) avs' vs:=by
  refine⟨by rw[hsub.len];exact h2.len,fun i c v hi hv=>?_⟩;have hlt:=(bd9.1 hi).1;have hlt':i<avs.length:=by rw[<-hsub.len];exact hlt
  exact hsub.get i c _ hi (az9 hlt') _ _ _ _ _ hy (h2.at' i _ v (az9 hlt') hv)
 have H:=r.hand hhp (fun i j hi hj e=>hinj i j (by omega) (by omega) (by grind));refine(hc m (β.sub k σ) w vs r.imm (K.glok.mono r.ext) hargs H.own H.priv H.inj H.hid H.nx).mono ?_
 rintro e w' ⟨v,m',β',rfl,hv,g⟩
 simp only[hd];obtain⟨β2,r2,hyT⟩:=r.back σ τ nx' u free hhp hfree hto0 hτ hle0 hkk0 hpf hu g;exact kk m' β2 w' _ (r2.put hN (hdv _ _ _ _ _ hyT hv))
theorem px{d:Option Nat}{f:FuncId}{args:Array Operand}{at':Array TypeId}{avs:List V}(hf:cE K.P f=true)(ha:args.toList.map (evl K S)=avs):
  ∀m β w a,bX K m β w a S->∃vs:Array Value,(execOp a.eval ⟨d,.call ⟨.value (.func f),args,at'⟩,ty,pos,after,g⟩).run K.P w=.ok (.enter f vs) w/\iY m β avs vs:=by
 intro m β w a r;refine⟨args.map a.eval,?_,?_⟩
 ·simp_all[execOp,resolve,Act.eval,Deferred.ofValue,invoke,fE]
 ·refine⟨by grind,fun i c v h1 h2=>?_⟩;rw[<-ha,az8] at h1;rw[cb8] at h2;cases hx:args[i]? with
  |none=>grind
  |some x=>
   simp[hx] at h1 h2;subst h1;subst h2;exact r.reads x
theorem AQ{d:Nat}{f:FuncId}{args:Array Operand}{at':Array TypeId}{avs':List V}{k k':Nat}{hp hp':aC}{dc:V}(dv:V)(avs:List V)(σ τ:Nat->Nat)(nx nx':Nat)(u:aC)(hf:cE K.P f=true)
  (hw:aN ops S ⟨some d,.call ⟨.value (.func f),args,at'⟩,ty,pos,after,g⟩ true) (hN:Nat.blt d K.N=true) (ha:args.toList.map (evl K S)=avs)
  (hsub:ia (Ren k σ) avs' avs) (hhp:bJ (Ren k σ) k σ S.hp hp) (hc:fV K.gl K.P f avs' k hp dc k' hp') (hnx:S.nx=nx)
  (hto:Cv k k' nx nx' σ τ (fun _=>false)=true) (hτ:qG k' τ=true) (hle:Nat.ble nx nx'=true) (hkk:Nat.ble k k'=true)
  (hdv:ai (To k' τ) dv dc) (hu:kS (To k' τ) τ hp' k' 0 u)
  (kk:ay K ops rest Q ⟨(d,dv)::S.env,u++S.hp,nx'⟩):ay K ops (⟨some d,.call ⟨.value (.func f),args,at'⟩,ty,pos,after,g⟩::rest) Q S:=
 gH σ τ nx' u (fun _=>false) hw rfl hN (px hf ha) hsub (bJ.get hhp) hc (fun _ h=>by simp at h) (by grind) hτ (by grind) hkk (fun _ h=>by simp at h) hdv hu kk
theorem sr{d:Option Nat}{f:FuncId}{fx:Operand}{first captured:List V}{args:Array Operand}{at':Array TypeId}{avs:List V}(hf:cE K.P f=true)
  (hfx:evl K S fx=.fn (.func f) first captured) (ha:first++args.toList.map (evl K S)++captured=avs):
  ∀m β w a,bX K m β w a S->∃vs:Array Value,(execOp a.eval ⟨d,.call ⟨.value fx,args,at'⟩,ty,pos,after,g⟩).run K.P w=.ok (.enter f vs) w/\iY m β avs vs:=by
 intro m β w a r;have h:=r.reads fx;rw[hfx] at h
 have key:∃fs cs:Array Value,a.eval fx=.func (.func f) fs cs/\first.length=fs.size/\captured.length=cs.size/\(∀(i:Nat) c v,first[i]? = some c->fs[i]? = some v->br m β c v)/\
   ∀(i:Nat) c v,captured[i]? = some c->cs[i]? = some v->br m β c v:=by
  generalize a.eval fx=v at h;cases h with
  |imm h=>cases h with|fn h1 h2 h3 h4=>exact⟨_,_,rfl,h1,h2,fun i c v a b=>.imm (h3 i c v a b),fun i c v a b=>.imm (h4 i c v a b)⟩
  |fn h1 h2 h3 h4=>grind
 obtain⟨fs,cs,e1,e2,e3,e4,e5⟩:=key;refine⟨fs++args.map a.eval++cs,?_,?_⟩
 ·simp_all[execOp,resolve,Deferred.ofValue,invoke,fE]
 ·refine⟨by grind,fun i c v h1 h2=>?_⟩;rw[<-ha,bu9,bi8,bj9] at h1;rw[cd9,cc9,Array.size_map,<-e2] at h2;simp only[bk8] at h1;split at h1
  ·rename_i hlt;rw[if_pos hlt] at h2;rw[bu9] at h1;rw[cd9,<-e2] at h2;split at h1
   ·grind
   ·rename_i hlt';rw[if_neg hlt'] at h2;rw[az8] at h1;rw[cb8] at h2;cases hx:args[i - first.length]? with
    |none=>grind
    |some x=>
     simp[hx] at h1 h2;subst h1;subst h2;exact r.reads x
  grind
theorem yZ{d:Nat}{f:FuncId}{fx:Operand}{first captured:List V}{args:Array Operand}{at':Array TypeId}{avs':List V}{k k':Nat}{hp hp':aC}{dc:V}(dv:V)(avs:List V)(σ τ:Nat->Nat)(nx nx':Nat)(u:aC)(hf:cE K.P f=true)
  (hw:aN ops S ⟨some d,.call ⟨.value fx,args,at'⟩,ty,pos,after,g⟩ true) (hN:Nat.blt d K.N=true) (hfx:evl K S fx=.fn (.func f) first captured) (ha:first++args.toList.map (evl K S)++captured=avs)
  (hsub:ia (Ren k σ) avs' avs) (hhp:bJ (Ren k σ) k σ S.hp hp) (hc:fV K.gl K.P f avs' k hp dc k' hp') (hnx:S.nx=nx)
  (hto:Cv k k' nx nx' σ τ (fun _=>false)=true) (hτ:qG k' τ=true) (hle:Nat.ble nx nx'=true) (hkk:Nat.ble k k'=true)
  (hdv:ai (To k' τ) dv dc) (hu:kS (To k' τ) τ hp' k' 0 u)
  (kk:ay K ops rest Q ⟨(d,dv)::S.env,u++S.hp,nx'⟩):ay K ops (⟨some d,.call ⟨.value fx,args,at'⟩,ty,pos,after,g⟩::rest) Q S:=
 gH σ τ nx' u (fun _=>false) hw rfl hN (sr hf hfx ha) hsub (bJ.get hhp) hc (fun _ h=>by simp at h) (by grind) hτ (by grind) hkk (fun _ h=>by simp at h) hdv hu kk
end
end Go.Pv
